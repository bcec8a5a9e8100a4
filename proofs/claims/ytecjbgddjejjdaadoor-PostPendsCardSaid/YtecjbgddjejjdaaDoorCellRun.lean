/- Contract of cell.Run. -/
import Derived.Test.YtecjbgddjejjdaaDoorCellNew
namespace Go.Proofs.YtecjbgddjejjdaaDoor
open Go.RowKit

/-- Accesses that are read. -/
def RdX (W : World) (a : Option Addr) (xs : List Acc) : Prop :=
  xs = [] ∨ ∃ b off, a = some ⟨b, off, none⟩ ∧ b < W.heap.size ∧ ∀ k x, xs[k]? = some x →
    W.cell? ⟨b, off + k * 10, none⟩ = some (.int .u8 x.k) ∧ W.cell? ⟨b, off + k * 10 + 1, none⟩ = some (.int .i64 x.at')
    ∧ W.cell? ⟨b, off + k * 10 + 2, none⟩ = some (.int .u64 x.old.t) ∧ W.cell? ⟨b, off + k * 10 + 3, none⟩ = some (.int .u64 x.old.a) ∧ W.cell? ⟨b, off + k * 10 + 4, none⟩ = some (.int .u64 x.old.b) ∧ W.cell? ⟨b, off + k * 10 + 5, none⟩ = some (.int .u64 x.old.c)
    ∧ W.cell? ⟨b, off + k * 10 + 6, none⟩ = some (.int .u64 x.new.t) ∧ W.cell? ⟨b, off + k * 10 + 7, none⟩ = some (.int .u64 x.new.a) ∧ W.cell? ⟨b, off + k * 10 + 8, none⟩ = some (.int .u64 x.new.b) ∧ W.cell? ⟨b, off + k * 10 + 9, none⟩ = some (.int .u64 x.new.c)
theorem RdX.below {W W' : World} {a : Option Addr} {xs : List Acc} (h : RdX W a xs) (hb : Below W.heap.size W W') : RdX W' a xs := by
  rcases h with h | ⟨b, off, e, hlt, hc⟩
  · exact .inl h
  · refine .inr ⟨b, off, e, by have := hb.size; omega, fun k x hx => ?_⟩
    obtain ⟨h0, h1, h2, h3, h4, h5, h6, h7, h8, h9⟩ := hc k x hx
    exact ⟨keepC hb h0, keepC hb h1, keepC hb h2, keepC hb h3, keepC hb h4, keepC hb h5, keepC hb h6, keepC hb h7, keepC hb h8, keepC hb h9⟩
theorem RdX.addr {W : World} {a : Option Addr} {xs : List Acc} (h : RdX W a xs) {k : Nat} (hk : k < xs.length) : ∃ b off, a = some ⟨b, off, none⟩ := by
  rcases h with rfl | ⟨b, off, e, _⟩
  · simp at hk
  · exact ⟨b, off, e⟩

theorem RdX.get {W : World} {b off : Nat} {xs : List Acc} (h : RdX W (some ⟨b, off, none⟩) xs) {k : Nat} {x : Acc} (hx : xs[k]? = some x) :
    W.cell? ⟨b, off + k * 10, none⟩ = some (.int .u8 x.k) ∧ W.cell? ⟨b, off + k * 10 + 1, none⟩ = some (.int .i64 x.at')
    ∧ W.cell? ⟨b, off + k * 10 + 2, none⟩ = some (.int .u64 x.old.t) ∧ W.cell? ⟨b, off + k * 10 + 3, none⟩ = some (.int .u64 x.old.a) ∧ W.cell? ⟨b, off + k * 10 + 4, none⟩ = some (.int .u64 x.old.b) ∧ W.cell? ⟨b, off + k * 10 + 5, none⟩ = some (.int .u64 x.old.c)
    ∧ W.cell? ⟨b, off + k * 10 + 6, none⟩ = some (.int .u64 x.new.t) ∧ W.cell? ⟨b, off + k * 10 + 7, none⟩ = some (.int .u64 x.new.a) ∧ W.cell? ⟨b, off + k * 10 + 8, none⟩ = some (.int .u64 x.new.b) ∧ W.cell? ⟨b, off + k * 10 + 9, none⟩ = some (.int .u64 x.new.c) := by
  rcases h with rfl | ⟨b', off', e, _, hc⟩
  · simp at hx
  · cases e
    exact hc k x hx

theorem own_box_ne {W : World} {b p size : Nat} {e : TypeId} {v : Value} {n : Nat} {xs : List Value} {u : Value} (h : W.ownsRow b e size v n xs) (hb : Box W p [u]) (hs : 1 < size) : v.ownBlock ≠ some p := by
  rcases h.2 with ⟨rfl, _⟩ | ⟨g, cap, cur, rfl, _, hg, _, _, hcs, _⟩
  · simp [Value.ownBlock]
  · intro he
    simp only [Value.ownBlock, Option.some.injEq] at he
    subst he
    obtain ⟨t, ht⟩ := hb
    rw [hg] at ht
    injection ht with ht
    injection ht with h1 _ _
    rw [h1] at hcs
    simp at hcs
    have : size ≤ 1 := Nat.le_of_dvd (by omega) ⟨cap, by rw [Nat.mul_comm]; exact hcs⟩
    omega

/-- The cells of a list of answers. -/
def seensV (l : List (Cel × Bool)) : List Value := l.flatMap fun s => [.int .u64 s.1.t, .int .u64 s.1.a, .int .u64 s.1.b, .int .u64 s.1.c, .bool s.2]
theorem seensV_snoc (l : List (Cel × Bool)) (s : Cel × Bool) : seensV (l ++ [s]) = seensV l ++ [.int .u64 s.1.t, .int .u64 s.1.a, .int .u64 s.1.b, .int .u64 s.1.c, .bool s.2] := by simp [seensV]

theorem own_apart {A : World} {b b' : Nat} {e e' : TypeId} {s s' : Nat} {v v' : Value} {n n' : Nat} {xs xs' : List Value} (h : A.ownsRow b e s v n xs) (h' : A.ownsRow b' e' s' v' n' xs') (hne : e ≠ e') : v.ownBlock = none ∨ v.ownBlock ≠ v'.ownBlock := by
  rcases h.2 with ⟨rfl, _⟩ | ⟨g, cap, cur, rfl, _, hg, _⟩
  · exact .inl rfl
  · rcases h'.2 with ⟨rfl, _⟩ | ⟨g', cap', cur', rfl, _, hg', _⟩
    · exact .inr (by simp [Value.ownBlock])
    · refine .inr fun e1 => ?_
      simp only [Value.ownBlock, Option.some.injEq] at e1
      rw [e1, hg'] at hg
      cases hg
      exact hne rfl
theorem take_snoc {α : Type} (l : List α) (k : Nat) (x : α) (h : l[k]? = some x) : l.take (k + 1) = l.take k ++ [x] := by
  rw [List.take_add_one, h]; rfl

/-- Do, its length named apart. -/
theorem Do_len (p cap B n : Nat) (a : Option Addr) (l : List Cel) (x : Acc) (w : World) (hn : l.length = n) (hm : Box w p [.slice a n cap]) (ho : Own w B (.slice a n cap) l) (hp : (Value.slice a n cap).ownBlock ≠ some p) :
    Calls Tryd.prog 38 #[.pointer (some ⟨p, 0, none⟩), .agg #[.int .u8 x.k, .int .i64 x.at', .int .u64 x.old.t, .int .u64 x.old.a, .int .u64 x.old.b, .int .u64 x.old.c, .int .u64 x.new.t, .int .u64 x.new.a, .int .u64 x.new.b, .int .u64 x.new.c]] w fun e w' =>
      e = .returned (.tuple #[.agg #[.int .u64 (doS l x).1.t, .int .u64 (doS l x).1.a, .int .u64 (doS l x).1.b, .int .u64 (doS l x).1.c, .bool (doS l x).2], .int .i64 (doE l x)]) ∧ Own w' B (.slice a n cap) (doL l x) ∧ w.grownBy w' (Value.slice a n cap).ownBlock := by
  subst hn
  exact Do_any p cap B a l x w hm ho hp

def runErr (l : List Cel) (xs : List Acc) : Int := if 1024 < l.length ∨ 65536 < xs.length then 4 else if runB l xs then 0 else 2
/-- What is said behind a run. -/
def RunPost (w : World) (l : List Cel) (xs : List Acc) (e : Ending) (w' : World) : Prop :=
  Below w.heap.size w w' ∧ ((runErr l xs = 0 ∧ ∃ v s, e = .returned (.tuple #[v, s, .int .i64 0]) ∧ Own w' w.heap.size v (runL l xs) ∧ w'.ownsRow w.heap.size 81 5 s xs.length (seensV (runS l xs)))
    ∨ (runErr l xs ≠ 0 ∧ e = .returned (.tuple #[.slice none 0 0, .slice none 0 0, .int .i64 (runErr l xs)])))

theorem infoSeen : (Tryd.prog.info? 81).map (fun i => (i.zero, i.size, i.bytes)) = some (some (.agg #[.int .u64 0, .int .u64 0, .int .u64 0, .int .u64 0, .bool false]), 5, 40) := by kernel_rfl

theorem runB_take {l : List Cel} {xs : List Acc} {k : Nat} {x : Acc} (hx : xs[k]? = some x) (h : runB l (xs.take k) = true) : runB l (xs.take (k + 1)) = mayA l.length x.k x.at' := by
  rw [take_snoc xs k x hx]
  simp only [runB, List.all_append, List.all_cons, List.all_nil, Bool.and_true] at h ⊢
  rw [h, Bool.true_and]
theorem runB_no {l : List Cel} {xs : List Acc} {k : Nat} {x : Acc} (hx : xs[k]? = some x) (h : mayA l.length x.k x.at' = false) : runB l xs = false := by
  cases hb : runB l xs with
  | false => rfl
  | true =>
    have := (List.all_eq_true.1 hb) x (List.mem_of_getElem? hx)
    rw [h] at this
    cases this
theorem doE_of {l : List Cel} {x : Acc} : doE l x = if mayA l.length x.k x.at' then 0 else 2 := rfl
theorem new5 (W : World) (a b c d e : Value) (t : TypeId) : ∀ j u, ([a, b, c, d, e] : List Value)[j]? = some u → (W.alloc (.cells #[a, b, c, d, e] t)).cell? ((⟨W.heap.size, 0, none⟩ : Addr).add j) = some u := by
  intro j u hu
  have := (Box.new W t [a, b, c, d, e]).c j hu
  unfold Addr.add
  by_cases hj : j = 0
  · subst hj; simpa using this
  · simpa [hj] using this

theorem Run_many (a a' : Option Addr) (n n' c c' : Nat) (w : World) (h : 1024 < n) : Calls Tryd.prog 17 #[.slice a n c, .slice a' n' c'] w fun e w' => e = .returned (.tuple #[.slice none 0 0, .slice none 0 0, .int .i64 4]) ∧ Below w.heap.size w w' := by
  go_enter Tryd.func17, Tryd.ntmps17
  go_wp2_with fail
  refine (New_many a n c _ h).mono ?_
  rintro e w1 ⟨rfl, rfl⟩
  go_wp2_with fail
  go_ret3
  exact ⟨rfl, Below.refl _ _⟩

set_option maxHeartbeats 1600000 in
theorem Run_long (a a' : Option Addr) (n' c c' : Nat) (l : List Cel) (w : World) (hR : Rd w a c l) (h : l.length ≤ 1024) (h' : 65536 < n') : Calls Tryd.prog 17 #[.slice a l.length c, .slice a' n' c'] w fun e w' => e = .returned (.tuple #[.slice none 0 0, .slice none 0 0, .int .i64 4]) ∧ Below w.heap.size w w' := by
  have h1 : (65536 : Int) < (n' : Int) := by omega
  have HR := Lib.hid hR
  clear hR h'
  go_enter Tryd.func17, Tryd.ntmps17
  go_wp2_with fail
  refine (New_any a c l _ HR.out h).mono ?_
  rintro e w1 ⟨p, v, rfl, _, _, _, _, hb⟩
  have HB := Lib.hid hb
  clear hb
  go_wp2_with fail
  go_ret3
  exact ⟨rfl, HB.out⟩

set_option maxRecDepth 100000 in
set_option maxHeartbeats 3200000 in
theorem Run_go (a a' : Option Addr) (c c' : Nat) (l : List Cel) (xs : List Acc) (w : World) (hR : Rd w a c l) (hX : RdX w a' xs) (h : l.length ≤ 1024) (h' : xs.length ≤ 65536) : Calls Tryd.prog 17 #[.slice a l.length c, .slice a' xs.length c'] w (RunPost w l xs) := by
  obtain ⟨k0, hk0, hq0, hq1, hq2⟩ := info_parts infoSeen
  have h1 : (xs.length : Int) ≤ (65536 : Int) := by omega
  have HE := Lib.hid (show runErr l xs = if runB l xs then 0 else 2 by unfold runErr; rw [if_neg (by omega)])
  have HR := Lib.hid hR
  have HX := Lib.hid hX
  clear hR hX
  go_enter Tryd.func17, Tryd.ntmps17
  go_wp2_with fail
  refine (New_any a c l _ HR.out h).mono ?_
  rintro e w1 ⟨p, v, rfl, hm, ho, hp, hwp, hb⟩
  obtain ⟨av, cv, rfl, _⟩ := own_form ho
  have HM := Lib.hid hm; have HO := Lib.hid ho; have HB := Lib.hid hb; have HP := Lib.hid hp
  clear hm ho hp hb hwp
  go_wp2_with fail
  go_loopw [5, 9, 10, 11, 26] (fun s _ _ _ i wr => ∃ k : Nat, k ≤ xs.length ∧ i = .int .i64 k ∧ runB l (xs.take k) = true ∧ Box wr p [.slice av l.length cv] ∧ Own wr w.heap.size (.slice av l.length cv) (runL l (xs.take k)) ∧ wr.ownsRow w.heap.size 81 5 s k (seensV (runS l (xs.take k))) ∧ Below w.heap.size w wr) (fun _ _ _ _ i _ => xs.length - (intOf i).toNat)
  case atStart => exact ⟨0, Nat.zero_le _, rfl, rfl, HM.out, HO.out, World.ownsRow_nil _ _ _ _, HB.out⟩
  case round =>
    obtain ⟨k, hk, rfl, hrb, hm, ho, hs, hbl⟩ := hrel
    have HM2 := Lib.hid hm; have HO2 := Lib.hid ho; have HS2 := Lib.hid hs; have HB2 := Lib.hid hbl; have HRB := Lib.hid hrb
    clear hm ho hs hbl hrb HM HO HB
    by_cases hlt : k < xs.length
    · obtain ⟨x, hx⟩ : ∃ x, xs[k]? = some x := ⟨_, List.getElem?_eq_getElem hlt⟩
      obtain ⟨bx, ox, rfl⟩ := HX.out.addr hlt
      obtain ⟨x0, x1, x2, x3, x4, x5, x6, x7, x8, x9⟩ := (HX.out.below HB2.out).get hx
      have HXX := Lib.hid hx
      have hlen := runL_len (xs.take k) l
      have HLN := Lib.hid hlen
      have i1 : (k : Int) < (xs.length : Int) := by omega
      clear hx hlen
      go_wp2_with fail
      refine (Do_len p cv w.heap.size l.length av (runL l (xs.take k)) x _ HLN.out (HM2.out.alloc _) (World.ownsRow.alloc HO2.out _) HP.out).mono ?_
      rintro e w2 ⟨rfl, ho2, hg2⟩
      have hm2 := (HM2.out.alloc (.cells #[.int .u8 x.k, .int .i64 x.at', .int .u64 x.old.t, .int .u64 x.old.a, .int .u64 x.old.b, .int .u64 x.old.c, .int .u64 x.new.t, .int .u64 x.new.a, .int .u64 x.new.b, .int .u64 x.new.c] 31)).grown hg2 HP.out
      have hs2 := World.ownsRow.kept (World.ownsRow.alloc HS2.out (.cells #[.int .u8 x.k, .int .i64 x.at', .int .u64 x.old.t, .int .u64 x.old.a, .int .u64 x.old.b, .int .u64 x.old.c, .int .u64 x.new.t, .int .u64 x.new.a, .int .u64 x.new.b, .int .u64 x.new.c] 31)) hg2 (own_apart HS2.out HO2.out (by decide))
      have hb2 := (HB2.out.alloc HB2.out.size (.cells #[.int .u8 x.k, .int .i64 x.at', .int .u64 x.old.t, .int .u64 x.old.a, .int .u64 x.old.b, .int .u64 x.old.c, .int .u64 x.new.t, .int .u64 x.new.a, .int .u64 x.new.b, .int .u64 x.new.c] 31)).grown hg2 (by have := HB2.out.size; simp; omega) (fun j e => (World.ownsRow.lt HO2.out j e).1)
      have HM3 := Lib.hid hm2; have HS3 := Lib.hid hs2; have HB3 := Lib.hid hb2; have HO3 := Lib.hid ho2
      clear hm2 hs2 hb2 ho2 hg2 x0 x1 x2 x3 x4 x5 x6 x7 x8 x9
      cases hmay : mayA l.length x.k x.at' with
      | false =>
        have HN := Lib.hid (runB_no HXX.out hmay)
        rw [show doE (runL l (xs.take k)) x = 2 from by rw [doE_of, HLN.out, hmay]; rfl]
        clear hmay
        go_wp2_with fail
        go_ret3
        refine ⟨moreB HB3.out _, .inr ⟨?_, ?_⟩⟩
        · rw [HE.out, HN.out]; decide
        · rw [HE.out, HN.out]; rfl
      | true =>
        have HY := Lib.hid (show runB l (xs.take (k + 1)) = true by rw [runB_take HXX.out HRB.out]; exact hmay)
        have HT := Lib.hid (take_snoc xs k x HXX.out)
        rw [show doE (runL l (xs.take k)) x = 0 from by rw [doE_of, HLN.out, hmay]; rfl]
        have hq : doS (runL l (xs.take k)) x = doS (runL l (xs.take k)) x := rfl
        clear hmay hq
        generalize hsv : doS (runL l (xs.take k)) x = sv
        obtain ⟨⟨s0, s1, s2, s3⟩, s4⟩ := sv
        have HSV := Lib.hid hsv
        clear hsv
        go_wp2_with (at_builtin; refine wpList_append_own _ rfl _ _ 52 rfl w.heap.size 81 k0 (.agg #[.int .u64 0, .int .u64 0, .int .u64 0, .int .u64 0, .bool false]) 5 40 Tryd.underlying52 hk0 hq0 hq1 hq2 rfl (by decide) _ _ _ rfl (World.ownsRow.alloc (World.ownsRow.alloc HS3.out _) _) ⟨w2.heap.size + 1, 0, none⟩ 1 1 [.int .u64 s0, .int .u64 s1, .int .u64 s2, .int .u64 s3, .bool s4] rfl rfl (by have h5 := new5 (w2.alloc (.cells #[.int .u64 s0, .int .u64 s1, .int .u64 s2, .int .u64 s3, .bool s4] 81)) (.int .u64 s0) (.int .u64 s1) (.int .u64 s2) (.int .u64 s3) (.bool s4) 81; rw [World.size_alloc] at h5; exact h5) (by simp [Value.oneCell']) (by unfold maxLen; omega) (by omega) (by have := HB3.out.size; simp; omega) ?_; intro v' w3 hown1 hgrow1 _; have hm3 := ((HM3.out.alloc _).alloc _).grown hgrow1 (own_box_ne HS3.out HM3.out (by decide)); have ho3 := World.ownsRow.kept (World.ownsRow.alloc (World.ownsRow.alloc HO3.out _) _) hgrow1 (own_apart HO3.out HS3.out (by decide)); have hb3 := (moreB (moreB HB3.out _) _).grown hgrow1 (by have := HB3.out.size; simp; omega) (fun j e => (World.ownsRow.lt HS3.out j e).1); have HM4 := Lib.hid hm3; have HO4 := Lib.hid ho3; have HB4 := Lib.hid hb3; have HS4 := Lib.hid hown1; clear hown1 hgrow1 hm3 ho3 hb3)
        go_roundw
        case rel =>
          refine ⟨k + 1, by omega, by go_num, HY.out, HM4.out, ?_, ?_, HB4.out⟩
          · rw [HT.out, runL_snoc]; exact HO4.out
          · rw [HT.out, runS_snoc, seensV_snoc, HSV.out]; exact HS4.out
        case measure => simp [intOf]; omega
    · obtain rfl : k = xs.length := by omega
      have hall := HRB.out
      rw [List.take_length] at hall
      have HO5 := Lib.hid (show Own wr w.heap.size (.slice av l.length cv) (runL l xs) by have := HO2.out; rwa [List.take_length] at this)
      have HS5 := Lib.hid (show wr.ownsRow w.heap.size 81 5 _ xs.length (seensV (runS l xs)) by have := HS2.out; rwa [List.take_length] at this)
      have HA := Lib.hid hall
      clear hall HO2 HS2 HRB
      go_wp2_with fail
      refine (MemCells_any p w.heap.size _ (runL l xs) _ HM2.out HO5.out (by rw [runL_len]; exact h)).mono ?_
      rintro e w2 ⟨v, rfl, ho2, hb2⟩
      have HO6 := Lib.hid ho2
      have HB6 := Lib.hid hb2
      clear ho2 hb2
      go_wp2_with fail
      go_ret3
      refine ⟨keepB HB6.out HB2.out, .inl ⟨?_, v, _, rfl, ?_, own_below HS5.out HB6.out⟩⟩
      · rw [HE.out, HA.out]; rfl
      · exact ⟨HO6.out.1, HO6.out.2.elim .inl (fun ⟨g, cap, cur, hv, hB, r⟩ => .inr ⟨g, cap, cur, hv, Nat.le_trans HB2.out.size hB, r⟩)⟩

end Go.Proofs.YtecjbgddjejjdaaDoor
