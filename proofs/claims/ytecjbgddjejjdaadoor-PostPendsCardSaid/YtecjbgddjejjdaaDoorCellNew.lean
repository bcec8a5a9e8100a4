/- Contracts of slices.Clone, cell.New, Cells. -/
import Derived.Test.YtecjbgddjejjdaaDoorCellMem
import Derived.WalkSpells
namespace Go.Proofs.YtecjbgddjejjdaaDoor
open Go.RowKit

theorem wpList_append_copy {P : Program} {w : World} {ops : Array Oper} {rest : List Oper} {o : Oper} {a : Act} {Q : Exit → Act → World → Prop} (hgd : o.guard = none) (s x : Operand) (t : TypeId)
    (ho : o.op = .call { callee := .builtin .append, args := #[s, x], argTypes := #[t, t] })
    (base : Nat) (e : TypeId) (i : TypeInfo) (z : Value) (size bytes : Nat) (ht : P.underlying t = some (.slice e)) (hi : P.info? e = some i) (hz : i.zero = some z)
    (hsize : i.size = size) (hby : i.bytes = bytes) (hzs : z.cells.size = size) (hsz : 0 < size)
    (v : Value) (hs : a.eval s = v) (hown : w.ownsRow base e size v 0 [])
    (ad : Option Addr) (m c : Nat) (news : List Value) (hx : a.eval x = .slice ad m c) (hnone : ad = none → m = 0 ∧ c = 0) (hl : news.length = m * size) (hnews : ∀ A, ad = some A → ∀ j u, news[j]? = some u → w.cell? (A.add j) = some u) (h1 : ∀ u ∈ news, u.oneCell' = true)
    (h63 : m ≤ maxLen) (hbytes : m * bytes ≤ 140737488355328) (hbase : base ≤ w.heap.size)
    (h : ∀ v' w', w'.ownsRow base e size v' m news → w.grownBy w' v.ownBlock → wpList P ops Q rest (a.put o.dst v') w') : wpList P ops Q (o :: rest) a w := by
  cases ad with
  | none =>
    obtain ⟨rfl, rfl⟩ := hnone rfl
    obtain rfl : news = [] := List.eq_nil_of_length_eq_zero (by simpa using hl)
    exact wpList_append_own_none hgd s x t ho base e i size ht hi v 0 [] hs hown hx (h v w hown ⟨rfl, rfl, rfl, Nat.le_refl _, fun _ _ _ => rfl⟩)
  | some A =>
    refine wpList_append_own w hgd s x t ho base e i z size bytes ht hi hz hsize hby hzs hsz v 0 [] hs hown A m c news hx hl (hnews A rfl) h1 (by omega) (by rw [Nat.zero_add]; exact hbytes) hbase fun v' w' ho' hg _ => ?_
    exact h v' w' (by simpa using ho') hg

def ClonePost (w : World) (l : List Cel) (e : Ending) (w' : World) : Prop := ∃ v, e = .returned v ∧ Own w' w.heap.size v l ∧ Below w.heap.size w w'

set_option maxHeartbeats 800000 in
theorem Clone_any (a : Option Addr) (c : Nat) (l : List Cel) (w : World) (h : Rd w a c l) (hn : l.length ≤ 100000000) : Calls Tryd.prog 46 #[.slice a l.length c] w (ClonePost w l) := by
  obtain ⟨k0, hk0, hq0, hq1, hq2⟩ := info_parts infoCell
  rcases h.at' with rfl | ⟨b, off, rfl, hb, hc⟩
  · obtain ⟨rfl, rfl⟩ := h.nil rfl
    clear h
    have he := fun (W : World) (A : Option Addr) (n k n' k' : Nat) => Lib.run_eql_slice_nil (P := Tryd.prog) W 49 29 A n k n' k' Tryd.underlying49
    go_enter Tryd.func46, Tryd.ntmps46
    go_wp2_with fail
    go_ret
    exact ⟨_, rfl, World.ownsRow_nil _ _ _ _, Below.refl _ _⟩
  · have HR := Lib.hid h
    clear h hb hc
    have he := fun (W : World) (A : Option Addr) (n k n' k' : Nat) => Lib.run_eql_slice_nil (P := Tryd.prog) W 49 29 A n k n' k' Tryd.underlying49
    go_enter Tryd.func46, Tryd.ntmps46
    go_wp2_with (at_builtin; refine wpList_append_copy rfl _ _ 49 rfl w.heap.size 29 k0 (.agg #[.int .u64 0, .int .u64 0, .int .u64 0, .int .u64 0]) 4 32 Tryd.underlying49 hk0 hq0 hq1 hq2 rfl (by decide) _ rfl (World.ownsRow_lit w #[] 0 (Nat.le_refl _) (by decide) rfl) (some ⟨b, off, none⟩) l.length c (celsV l) rfl (by simp) (celsV_len l) (HR.out.below (newB w _)).news (celsV_one l) (by unfold maxLen; omega) (by omega) (by simp) ?_; intro v1 w1 hown1 hgrow1; have hb1 : Below w.heap.size w w1 := ((Below.refl _ w).alloc (Nat.le_refl _) _).grown hgrow1 (by simp) (fun j e => by cases e; exact Nat.le_refl _); have HO1 := Lib.hid hown1; clear hown1 hgrow1)
    go_ret
    exact ⟨v1, rfl, HO1.out, hb1⟩

def NewPost (w : World) (l : List Cel) (e : Ending) (w' : World) : Prop :=
  ∃ p v, e = .returned (.tuple #[.pointer (some ⟨p, 0, none⟩), .int .i64 0]) ∧ Box w' p [v] ∧ Own w' w.heap.size v l ∧ v.ownBlock ≠ some p ∧ w.heap.size ≤ p ∧ Below w.heap.size w w'

theorem New_many (a : Option Addr) (n c : Nat) (w : World) (hn : 1024 < n) : Calls Tryd.prog 23 #[.slice a n c] w fun e w' => e = .returned (.tuple #[.pointer none, .int .i64 4]) ∧ w = w' := by
  have h : (1024 : Int) < (n : Int) := by omega
  clear hn
  go_enter Tryd.func23, Tryd.ntmps23
  go_wp2_with fail
  go_ret2
  exact ⟨rfl, rfl⟩

set_option maxHeartbeats 800000 in
theorem New_any (a : Option Addr) (c : Nat) (l : List Cel) (w : World) (h : Rd w a c l) (hn : l.length ≤ 1024) : Calls Tryd.prog 23 #[.slice a l.length c] w (NewPost w l) := by
  have h1 : (l.length : Int) ≤ (1024 : Int) := by omega
  have HR := Lib.hid h
  clear h
  go_enter Tryd.func23, Tryd.ntmps23
  go_wp2_with fail
  refine (Clone_any a c l _ HR.out (by omega)).mono ?_
  rintro e w1 ⟨v, rfl, ho, hb⟩
  obtain ⟨a', cap', rfl, _⟩ := own_form ho
  have HO := Lib.hid ho; have HB := Lib.hid hb
  clear ho hb
  go_wp2_with fail
  go_ret2
  refine ⟨w1.heap.size, .slice a' l.length cap', rfl, Box.new _ _ _, World.ownsRow.alloc HO.out _, fun e => ?_, HB.out.size, moreB HB.out _⟩
  have := (World.ownsRow.lt HO.out _ e).2
  omega

theorem Cells_nil (w : World) : Calls Tryd.prog 39 #[.pointer none] w fun e w' => e = .returned (.slice none 0 0) ∧ w = w' := by
  go_enter Tryd.func39, Tryd.ntmps39
  go_wp2_with fail
  go_ret
  exact ⟨rfl, rfl⟩

set_option maxHeartbeats 800000 in
theorem MemCells_any (p B : Nat) (v : Value) (l : List Cel) (w : World) (hm : Box w p [v]) (ho : Own w B v l) (hn : l.length ≤ 1024) : Calls Tryd.prog 39 #[.pointer (some ⟨p, 0, none⟩)] w (ClonePost w l) := by
  obtain ⟨a, cap, rfl, hR, _⟩ := own_form ho
  have hp := hm.c 0 rfl
  have HR := Lib.hid hR
  clear hm ho hR
  go_enter Tryd.func39, Tryd.ntmps39
  go_wp2_with fail
  refine (Clone_any a cap l _ HR.out (by omega)).mono ?_
  rintro e w1 ⟨v, rfl, ho, hb⟩
  have HO := Lib.hid ho; have HB := Lib.hid hb
  clear ho hb hp
  go_wp2_with fail
  go_ret
  exact ⟨v, rfl, HO.out, HB.out⟩

end Go.Proofs.YtecjbgddjejjdaaDoor
