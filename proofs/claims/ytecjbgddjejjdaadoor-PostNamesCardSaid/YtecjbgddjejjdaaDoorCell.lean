/- Contracts of package cell: what is done with one cell. -/
import Derived.Test.YtecjbgddjejjdaaDoorCels
import Derived.WalkKit
import Derived.Deep.RegionHeld3
import Derived.Deep.QuietTactic
import Derived.BigQuiet
import Derived.BigRegion
import Derived.StillTailTactics
import Derived.Maps.AppendAt
import Derived.Deep.AppendLies
import Derived.Laws.AppendOwn
import Derived.Laws.OwnMore
import Derived.Laws.AppendOwnNone
namespace Go.Proofs.YtecjbgddjejjdaaDoor
open Go.RowKit


set_option maxHeartbeats 800000 in
theorem store_any (p g cap k B : Nat) (kd : Int) (l : List Cel) (o x : Cel) (w : World) (hm : Box w p [.slice (some ⟨g, 0, none⟩) l.length cap]) (ho : Own w B (.slice (some ⟨g, 0, none⟩) l.length cap) l) (hk : k < l.length) (hpg : p ≠ g) :
    Calls Tryd.prog 62 #[.pointer (some ⟨p, 0, none⟩), .agg #[.int .u8 kd, .int .i64 k, .int .u64 o.t, .int .u64 o.a, .int .u64 o.b, .int .u64 o.c, .int .u64 x.t, .int .u64 x.a, .int .u64 x.b, .int .u64 x.c]] w fun e w' =>
      e = .returned (.bool true) ∧ Own w' B (.slice (some ⟨g, 0, none⟩) l.length cap) (l.set k x) ∧ w.grownBy w' (some g) := by
  have i1 : (0 : Int) ≤ (k : Int) := by omega
  have i2 : (k : Int) < (l.length : Int) := by omega
  go_enter Tryd.func62, Tryd.ntmps62
  go_wp2_with fail
  have hx := Box.new w 31 [.int .u8 kd, .int .i64 k, .int .u64 o.t, .int .u64 o.a, .int .u64 o.b, .int .u64 o.c, .int .u64 x.t, .int .u64 x.a, .int .u64 x.b, .int .u64 x.c]
  have hm' := hm.alloc (.cells #[.int .u8 kd, .int .i64 k, .int .u64 o.t, .int .u64 o.a, .int .u64 o.b, .int .u64 o.c, .int .u64 x.t, .int .u64 x.a, .int .u64 x.b, .int .u64 x.c] 31)
  have ho' : Own (w.alloc (.cells #[.int .u8 kd, .int .i64 k, .int .u64 o.t, .int .u64 o.a, .int .u64 o.b, .int .u64 o.c, .int .u64 x.t, .int .u64 x.a, .int .u64 x.b, .int .u64 x.c] 31)) B _ l := World.ownsRow.alloc ho _
  have hg := World.grownBy_alloc w (.cells #[.int .u8 kd, .int .i64 k, .int .u64 o.t, .int .u64 o.a, .int .u64 o.b, .int .u64 o.c, .int .u64 x.t, .int .u64 x.a, .int .u64 x.b, .int .u64 x.c] 31) (some g)
  have HG := Lib.hid hg
  have hlt : g < w.heap.size := (World.ownsRow.lt ho g rfl).2
  have n1 : ¬ (p = g) := hpg
  have n2 : ¬ (g = p) := fun e => hpg e.symm
  have n3 : ¬ (w.heap.size = g) := by omega
  have n4 : ¬ (g = w.heap.size) := by omega
  clear hm ho hg hlt
  generalize w.alloc _ = V at *
  have hp := hm'.c 0 rfl
  have a0 := hx.c 0 rfl
  have a1 := hx.c 1 rfl
  have a2 := hx.c 2 rfl
  have a3 := hx.c 3 rfl
  have a4 := hx.c 4 rfl
  have a5 := hx.c 5 rfl
  have a6 := hx.c 6 rfl
  have a7 := hx.c 7 rfl
  have a8 := hx.c 8 rfl
  have a9 := hx.c 9 rfl
  obtain ⟨c0, c1, c2, c3⟩ := own_cells ho' hk
  have f0 := ho'.frozenAt (k * 4)
  have f1 := ho'.frozenAt (k * 4 + 1)
  have f2 := ho'.frozenAt (k * 4 + 2)
  have f3 := ho'.frozenAt (k * 4 + 3)
  have HS := Lib.hid (own_stored ho' hk x)
  clear hm' ho' hx hpg a0 a2 a3 a4 a5
  generalize w.heap.size = h at *
  go_region_held3 (fun U => U.cell? ⟨p, 0, none⟩ = some (.slice (some ⟨g, 0, none⟩) l.length cap) ∧ U.cell? ⟨h, 1, none⟩ = some (.int .i64 k) ∧ U.cell? ⟨h, 6, none⟩ = some (.int .u64 x.t) ∧ U.cell? ⟨h, 7, none⟩ = some (.int .u64 x.a) ∧ U.cell? ⟨h, 8, none⟩ = some (.int .u64 x.b) ∧ U.cell? ⟨h, 9, none⟩ = some (.int .u64 x.c)) (go_keep) (fail)
  all_goals go_split_ands
  all_goals go_wp2_with fail
  all_goals go_ret
  all_goals exact ⟨rfl, World.ownsRow.drew HS.out.1, HG.out.trans (grown_drew HS.out.2)⟩

set_option maxHeartbeats 800000 in
theorem swap_no (p g cap k B : Nat) (kd : Int) (l : List Cel) (o x : Cel) (w : World) (hm : Box w p [.slice (some ⟨g, 0, none⟩) l.length cap]) (ho : Own w B (.slice (some ⟨g, 0, none⟩) l.length cap) l) (hk : k < l.length) (hpg : p ≠ g) (hne : l.getD k .zero ≠ o) :
    Calls Tryd.prog 63 #[.pointer (some ⟨p, 0, none⟩), .agg #[.int .u8 kd, .int .i64 k, .int .u64 o.t, .int .u64 o.a, .int .u64 o.b, .int .u64 o.c, .int .u64 x.t, .int .u64 x.a, .int .u64 x.b, .int .u64 x.c]] w fun e w' =>
      e = .returned (.bool false) ∧ Own w' B (.slice (some ⟨g, 0, none⟩) l.length cap) (l) ∧ w.grownBy w' (some g) := by
  have hd : (((l.getD k .zero).t : Int) == (o.t : Int)) = false ∨ ((((l.getD k .zero).t : Int) == (o.t : Int)) = true ∧ (((l.getD k .zero).a : Int) == (o.a : Int)) = false) ∨ ((((l.getD k .zero).t : Int) == (o.t : Int)) = true ∧ (((l.getD k .zero).a : Int) == (o.a : Int)) = true ∧ (((l.getD k .zero).b : Int) == (o.b : Int)) = false) ∨ ((((l.getD k .zero).t : Int) == (o.t : Int)) = true ∧ (((l.getD k .zero).a : Int) == (o.a : Int)) = true ∧ (((l.getD k .zero).b : Int) == (o.b : Int)) = true ∧ (((l.getD k .zero).c : Int) == (o.c : Int)) = false) := by
    by_cases h0 : (l.getD k .zero).t = o.t
    · by_cases h1 : (l.getD k .zero).a = o.a
      · by_cases h2 : (l.getD k .zero).b = o.b
        · by_cases h3 : (l.getD k .zero).c = o.c
          · exact absurd ((sameB_iff _ _).1 (by unfold sameB; rw [h0, h1, h2, h3]; simp)) hne
          · exact .inr (.inr (.inr ⟨beq_iff_eq.2 (by omega), beq_iff_eq.2 (by omega), beq_iff_eq.2 (by omega), beq_eq_false_iff_ne.2 (by omega)⟩))
        · exact .inr (.inr (.inl ⟨beq_iff_eq.2 (by omega), beq_iff_eq.2 (by omega), beq_eq_false_iff_ne.2 (by omega)⟩))
      · exact .inr (.inl ⟨beq_iff_eq.2 (by omega), beq_eq_false_iff_ne.2 (by omega)⟩)
    · exact .inl (beq_eq_false_iff_ne.2 (by omega))
  have HD := Lib.hid hd
  clear hd hne
  have i1 : (0 : Int) ≤ (k : Int) := by omega
  have i2 : (k : Int) < (l.length : Int) := by omega
  go_enter Tryd.func63, Tryd.ntmps63
  go_wp2_with fail
  have hx := Box.new w 31 [.int .u8 kd, .int .i64 k, .int .u64 o.t, .int .u64 o.a, .int .u64 o.b, .int .u64 o.c, .int .u64 x.t, .int .u64 x.a, .int .u64 x.b, .int .u64 x.c]
  have hm' := hm.alloc (.cells #[.int .u8 kd, .int .i64 k, .int .u64 o.t, .int .u64 o.a, .int .u64 o.b, .int .u64 o.c, .int .u64 x.t, .int .u64 x.a, .int .u64 x.b, .int .u64 x.c] 31)
  have ho' : Own (w.alloc (.cells #[.int .u8 kd, .int .i64 k, .int .u64 o.t, .int .u64 o.a, .int .u64 o.b, .int .u64 o.c, .int .u64 x.t, .int .u64 x.a, .int .u64 x.b, .int .u64 x.c] 31)) B _ l := World.ownsRow.alloc ho _
  have hg := World.grownBy_alloc w (.cells #[.int .u8 kd, .int .i64 k, .int .u64 o.t, .int .u64 o.a, .int .u64 o.b, .int .u64 o.c, .int .u64 x.t, .int .u64 x.a, .int .u64 x.b, .int .u64 x.c] 31) (some g)
  have HG := Lib.hid hg
  have hlt : g < w.heap.size := (World.ownsRow.lt ho g rfl).2
  have n1 : ¬ (p = g) := hpg
  have n2 : ¬ (g = p) := fun e => hpg e.symm
  have n3 : ¬ (w.heap.size = g) := by omega
  have n4 : ¬ (g = w.heap.size) := by omega
  clear hm ho hg hlt
  generalize w.alloc _ = V at *
  have hp := hm'.c 0 rfl
  have a0 := hx.c 0 rfl
  have a1 := hx.c 1 rfl
  have a2 := hx.c 2 rfl
  have a3 := hx.c 3 rfl
  have a4 := hx.c 4 rfl
  have a5 := hx.c 5 rfl
  have a6 := hx.c 6 rfl
  have a7 := hx.c 7 rfl
  have a8 := hx.c 8 rfl
  have a9 := hx.c 9 rfl
  obtain ⟨c0, c1, c2, c3⟩ := own_cells ho' hk
  have HO := Lib.hid ho'
  clear hm' ho' hx hpg a0 a6 a7 a8 a9
  generalize w.heap.size = h at *
  generalize hY : l.getD k .zero = y at *
  obtain ⟨y0, y1, y2, y3⟩ := y
  obtain ⟨o0, o1, o2, o3⟩ := o
  clear hY
  rcases HD.out with e0 | ⟨e0, e1⟩ | ⟨e0, e1, e2⟩ | ⟨e0, e1, e2, e3⟩
  all_goals clear HD
  all_goals go_region_held3 (fun U => U.cell? ⟨p, 0, none⟩ = some (.slice (some ⟨g, 0, none⟩) l.length cap) ∧ U.cell? ⟨h, 1, none⟩ = some (.int .i64 k) ∧ U.cell? ⟨h, 2, none⟩ = some (.int .u64 o0) ∧ U.cell? ⟨h, 3, none⟩ = some (.int .u64 o1) ∧ U.cell? ⟨h, 4, none⟩ = some (.int .u64 o2) ∧ U.cell? ⟨h, 5, none⟩ = some (.int .u64 o3) ∧ U.cell? ⟨g, k * 4, none⟩ = some (.int .u64 y0) ∧ U.cell? ⟨g, k * 4 + 1, none⟩ = some (.int .u64 y1) ∧ U.cell? ⟨g, k * 4 + 2, none⟩ = some (.int .u64 y2) ∧ U.cell? ⟨g, k * 4 + 3, none⟩ = some (.int .u64 y3)) (go_keep) (fail)
  all_goals go_split_ands
  all_goals go_wp2_with fail
  all_goals go_ret
  all_goals exact ⟨rfl, World.ownsRow.drew HO.out, grown_drew HG.out⟩

set_option maxHeartbeats 800000 in
theorem swap_yes (p g cap k B : Nat) (kd : Int) (l : List Cel) (o x : Cel) (w : World) (hm : Box w p [.slice (some ⟨g, 0, none⟩) l.length cap]) (ho : Own w B (.slice (some ⟨g, 0, none⟩) l.length cap) l) (hk : k < l.length) (hpg : p ≠ g) (he : l.getD k .zero = o) :
    Calls Tryd.prog 63 #[.pointer (some ⟨p, 0, none⟩), .agg #[.int .u8 kd, .int .i64 k, .int .u64 o.t, .int .u64 o.a, .int .u64 o.b, .int .u64 o.c, .int .u64 x.t, .int .u64 x.a, .int .u64 x.b, .int .u64 x.c]] w fun e w' =>
      e = .returned (.bool true) ∧ Own w' B (.slice (some ⟨g, 0, none⟩) l.length cap) (l.set k x) ∧ w.grownBy w' (some g) := by
  have i1 : (0 : Int) ≤ (k : Int) := by omega
  have i2 : (k : Int) < (l.length : Int) := by omega
  go_enter Tryd.func63, Tryd.ntmps63
  go_wp2_with fail
  have hx := Box.new w 31 [.int .u8 kd, .int .i64 k, .int .u64 o.t, .int .u64 o.a, .int .u64 o.b, .int .u64 o.c, .int .u64 x.t, .int .u64 x.a, .int .u64 x.b, .int .u64 x.c]
  have hm' := hm.alloc (.cells #[.int .u8 kd, .int .i64 k, .int .u64 o.t, .int .u64 o.a, .int .u64 o.b, .int .u64 o.c, .int .u64 x.t, .int .u64 x.a, .int .u64 x.b, .int .u64 x.c] 31)
  have ho' : Own (w.alloc (.cells #[.int .u8 kd, .int .i64 k, .int .u64 o.t, .int .u64 o.a, .int .u64 o.b, .int .u64 o.c, .int .u64 x.t, .int .u64 x.a, .int .u64 x.b, .int .u64 x.c] 31)) B _ l := World.ownsRow.alloc ho _
  have hg := World.grownBy_alloc w (.cells #[.int .u8 kd, .int .i64 k, .int .u64 o.t, .int .u64 o.a, .int .u64 o.b, .int .u64 o.c, .int .u64 x.t, .int .u64 x.a, .int .u64 x.b, .int .u64 x.c] 31) (some g)
  have HG := Lib.hid hg
  have hlt : g < w.heap.size := (World.ownsRow.lt ho g rfl).2
  have n1 : ¬ (p = g) := hpg
  have n2 : ¬ (g = p) := fun e => hpg e.symm
  have n3 : ¬ (w.heap.size = g) := by omega
  have n4 : ¬ (g = w.heap.size) := by omega
  clear hm ho hg hlt
  generalize w.alloc _ = V at *
  have hp := hm'.c 0 rfl
  have a0 := hx.c 0 rfl
  have a1 := hx.c 1 rfl
  have a2 := hx.c 2 rfl
  have a3 := hx.c 3 rfl
  have a4 := hx.c 4 rfl
  have a5 := hx.c 5 rfl
  have a6 := hx.c 6 rfl
  have a7 := hx.c 7 rfl
  have a8 := hx.c 8 rfl
  have a9 := hx.c 9 rfl
  obtain ⟨c0, c1, c2, c3⟩ := own_cells ho' hk
  rw [he] at c0 c1 c2 c3
  have HO := Lib.hid ho'
  have HM := Lib.hid hm'
  have HE := Lib.hid he
  clear hm' ho' hx he
  generalize w.heap.size = h at *
  go_region_held3 (fun U => U.cell? ⟨p, 0, none⟩ = some (.slice (some ⟨g, 0, none⟩) l.length cap) ∧ U.cell? ⟨h, 1, none⟩ = some (.int .i64 k) ∧ U.cell? ⟨h, 2, none⟩ = some (.int .u64 o.t) ∧ U.cell? ⟨h, 3, none⟩ = some (.int .u64 o.a) ∧ U.cell? ⟨h, 4, none⟩ = some (.int .u64 o.b) ∧ U.cell? ⟨h, 5, none⟩ = some (.int .u64 o.c) ∧ U.cell? ⟨g, k * 4, none⟩ = some (.int .u64 o.t) ∧ U.cell? ⟨g, k * 4 + 1, none⟩ = some (.int .u64 o.a) ∧ U.cell? ⟨g, k * 4 + 2, none⟩ = some (.int .u64 o.b) ∧ U.cell? ⟨g, k * 4 + 3, none⟩ = some (.int .u64 o.c)) (go_keep) (fail)
  all_goals go_split_ands
  all_goals go_wp2_with fail
  all_goals refine (store_any p g cap k B kd l o x _ HM.out.drew (World.ownsRow.drew HO.out) hk hpg).mono ?_
  all_goals rintro e w' ⟨rfl, ho2, hg2⟩
  all_goals have HO2 := Lib.hid ho2
  all_goals have HG2 := Lib.hid hg2
  all_goals clear ho2 hg2
  all_goals go_wp2_with fail
  all_goals go_ret
  all_goals exact ⟨rfl, HO2.out, (grown_drew HG.out).trans HG2.out⟩

theorem celsV_set1 : ∀ (l : List Cel) (k a : Nat), k < l.length → celsV (l.set k ⟨(l.getD k .zero).t, a, (l.getD k .zero).b, (l.getD k .zero).c⟩) = (celsV l).set (k * 4 + 1) (.int .u64 a)
  | [], k, a, h => by simp at h
  | y :: l, 0, a, _ => rfl
  | y :: l, k + 1, a, h => by
    have ih := celsV_set1 l k a (by simpa using h)
    rw [show (k + 1) * 4 = k * 4 + 4 from by omega, celsV_cons]
    show celsV (y :: l.set k ⟨(l.getD k .zero).t, a, (l.getD k .zero).b, (l.getD k .zero).c⟩) = _
    rw [celsV_cons, ih]
    rfl
theorem own_stored1 {W : World} {B g cap : Nat} {l : List Cel} (h : Own W B (.slice (some ⟨g, 0, none⟩) l.length cap) l) {k : Nat} (hk : k < l.length) (a : Nat) :
    Own (W.setCell ⟨g, k * 4 + 1, none⟩ (.int .u64 a)) B (.slice (some ⟨g, 0, none⟩) l.length cap) (l.set k ⟨(l.getD k .zero).t, a, (l.getD k .zero).b, (l.getD k .zero).c⟩) ∧ W.grownBy (W.setCell ⟨g, k * 4 + 1, none⟩ (.int .u64 a)) (some g) := by
  have h0 := World.ownsRow.stored h (k * 4 + 1) (.int .u64 a)
  refine ⟨?_, h0.2⟩
  unfold Own
  rw [celsV_set1 l k a hk, List.length_set]
  exact h0.1
theorem u64_add (a b : Nat) : IntKind.u64.wrap ((a : Int) + (b : Int)) = (((a + b) % 18446744073709551616 : Nat) : Int) := by
  rw [IntKind.wrap_u64]; omega
def plusN (a b : Nat) : Nat := (a + b) % 18446744073709551616

set_option maxRecDepth 100000 in
set_option maxHeartbeats 800000 in
theorem add_any (p g cap k B : Nat) (kd : Int) (l : List Cel) (o x : Cel) (w : World) (hm : Box w p [.slice (some ⟨g, 0, none⟩) l.length cap]) (ho : Own w B (.slice (some ⟨g, 0, none⟩) l.length cap) l) (hk : k < l.length) (hpg : p ≠ g) :
    Calls Tryd.prog 64 #[.pointer (some ⟨p, 0, none⟩), .agg #[.int .u8 kd, .int .i64 k, .int .u64 o.t, .int .u64 o.a, .int .u64 o.b, .int .u64 o.c, .int .u64 x.t, .int .u64 x.a, .int .u64 x.b, .int .u64 x.c]] w fun e w' =>
      e = .returned (.bool true) ∧ Own w' B (.slice (some ⟨g, 0, none⟩) l.length cap) (l.set k ⟨(l.getD k .zero).t, plusN (l.getD k .zero).a x.a, (l.getD k .zero).b, (l.getD k .zero).c⟩) ∧ w.grownBy w' (some g) := by
  have i1 : (0 : Int) ≤ (k : Int) := by omega
  have i2 : (k : Int) < (l.length : Int) := by omega
  go_enter Tryd.func64, Tryd.ntmps64
  go_wp2_with fail
  have hx := Box.new w 31 [.int .u8 kd, .int .i64 k, .int .u64 o.t, .int .u64 o.a, .int .u64 o.b, .int .u64 o.c, .int .u64 x.t, .int .u64 x.a, .int .u64 x.b, .int .u64 x.c]
  have hm' := hm.alloc (.cells #[.int .u8 kd, .int .i64 k, .int .u64 o.t, .int .u64 o.a, .int .u64 o.b, .int .u64 o.c, .int .u64 x.t, .int .u64 x.a, .int .u64 x.b, .int .u64 x.c] 31)
  have ho' : Own (w.alloc (.cells #[.int .u8 kd, .int .i64 k, .int .u64 o.t, .int .u64 o.a, .int .u64 o.b, .int .u64 o.c, .int .u64 x.t, .int .u64 x.a, .int .u64 x.b, .int .u64 x.c] 31)) B _ l := World.ownsRow.alloc ho _
  have hg := World.grownBy_alloc w (.cells #[.int .u8 kd, .int .i64 k, .int .u64 o.t, .int .u64 o.a, .int .u64 o.b, .int .u64 o.c, .int .u64 x.t, .int .u64 x.a, .int .u64 x.b, .int .u64 x.c] 31) (some g)
  have HG := Lib.hid hg
  have hlt : g < w.heap.size := (World.ownsRow.lt ho g rfl).2
  have n1 : ¬ (p = g) := hpg
  have n2 : ¬ (g = p) := fun e => hpg e.symm
  have n3 : ¬ (w.heap.size = g) := by omega
  have n4 : ¬ (g = w.heap.size) := by omega
  clear hm ho hg hlt
  generalize w.alloc _ = V at *
  have hp := hm'.c 0 rfl
  have a0 := hx.c 0 rfl
  have a1 := hx.c 1 rfl
  have a2 := hx.c 2 rfl
  have a3 := hx.c 3 rfl
  have a4 := hx.c 4 rfl
  have a5 := hx.c 5 rfl
  have a6 := hx.c 6 rfl
  have a7 := hx.c 7 rfl
  have a8 := hx.c 8 rfl
  have a9 := hx.c 9 rfl
  obtain ⟨c0, c1, c2, c3⟩ := own_cells ho' hk
  have f1 := ho'.frozenAt (k * 4 + 1)
  have hsum : IntKind.u64.wrap (((l.getD k .zero).a : Int) + (x.a : Int)) = (plusN (l.getD k .zero).a x.a : Int) := u64_add _ _
  have HS := Lib.hid (own_stored1 ho' hk (plusN (l.getD k .zero).a x.a))
  clear hm' ho' hx hpg a0 a2 a3 a4 a5 a6 a8 a9 c0 c2 c3
  generalize w.heap.size = h at *
  obtain ⟨s, hs⟩ : ∃ s, s = plusN (l.getD k .zero).a x.a := ⟨_, rfl⟩
  rw [← hs] at hsum HS
  have HE := Lib.hid hs
  clear hs
  generalize hY : (l.getD k .zero).a = y at hsum c1
  have HY := Lib.hid hY
  clear hY
  go_still_tail 15, (by kernel_rfl)
  go_wp2_with fail
  go_ret
  have e := HE.out
  subst e
  exact ⟨rfl, World.ownsRow.drew HS.out.1, HG.out.trans (grown_drew HS.out.2)⟩

theorem load_any (p g cap B : Nat) (cs : Array Value) (l : List Cel) (w : World) (ho : Own w B (.slice (some ⟨g, 0, none⟩) l.length cap) l) :
    Calls Tryd.prog 61 #[.pointer (some ⟨p, 0, none⟩), .agg cs] w fun e w' =>
      e = .returned (.bool true) ∧ Own w' B (.slice (some ⟨g, 0, none⟩) l.length cap) l ∧ w.grownBy w' (some g) := by
  have HO := Lib.hid ho
  clear ho
  go_enter Tryd.func61, Tryd.ntmps61
  go_wp2_with fail
  go_ret
  exact ⟨rfl, World.ownsRow.alloc HO.out _, World.grownBy_alloc _ _ _⟩

end Go.Proofs.YtecjbgddjejjdaaDoor
