/- Contract of (*Mem).Do, where the access is at a place of the memory. -/
import Derived.Test.YtecjbgddjejjdaaDoorCellDo
namespace Go.Proofs.YtecjbgddjejjdaaDoor
open Go.RowKit

set_option maxHeartbeats 1600000 in
theorem Do_kind (p g k cap B : Nat) (kd : Int) (l : List Cel) (o x : Cel) (w : World) (hm : Box w p [.slice (some ⟨g, 0, none⟩) l.length cap]) (ho : Own w B (.slice (some ⟨g, 0, none⟩) l.length cap) l) (hk : k < l.length) (hk0 : kd < 1 ∨ 4 < kd) :
    Calls Tryd.prog 38 #[.pointer (some ⟨p, 0, none⟩), .agg #[.int .u8 kd, .int .i64 k, .int .u64 o.t, .int .u64 o.a, .int .u64 o.b, .int .u64 o.c, .int .u64 x.t, .int .u64 x.a, .int .u64 x.b, .int .u64 x.c]] w fun e w' =>
      e = .returned (.tuple #[.agg #[.int .u64 0, .int .u64 0, .int .u64 0, .int .u64 0, .bool false], .int .i64 2]) ∧ Own w' B (.slice (some ⟨g, 0, none⟩) l.length cap) (l) ∧ w.grownBy w' (some g) := by
  have e1 : (kd == 1) = false := beq_eq_false_iff_ne.2 (by omega)
  have e2 : (kd == 2) = false := beq_eq_false_iff_ne.2 (by omega)
  have e3 : (kd == 3) = false := beq_eq_false_iff_ne.2 (by omega)
  have e4 : (kd == 4) = false := beq_eq_false_iff_ne.2 (by omega)
  clear hk0
  have hgw := (World.ownsRow.lt ho g rfl).2
  have hne : (Value.slice (some ⟨g, 0, none⟩) l.length cap).ownBlock ≠ some (w.heap.size + 1) := by
    intro e
    simp [Value.ownBlock] at e
    omega
  have HNE := Lib.hid hne
  have n3 : ¬ (w.heap.size + 1 = g) := by omega
  have n4 : ¬ (g = w.heap.size + 1) := by omega
  have n5 : ¬ (w.heap.size = g) := by omega
  have n6 : ¬ (g = w.heap.size) := by omega
  have i1 : (0 : Int) ≤ (k : Int) := by omega
  have i2 : (k : Int) < (l.length : Int) := by omega
  clear hne
  go_enter Tryd.func38, Tryd.ntmps38
  go_wp2_with fail
  have hx := (Box.new w 31 [.int .u8 kd, .int .i64 k, .int .u64 o.t, .int .u64 o.a, .int .u64 o.b, .int .u64 o.c, .int .u64 x.t, .int .u64 x.a, .int .u64 x.b, .int .u64 x.c]).alloc (.cells #[.int .u64 0, .int .u64 0, .int .u64 0, .int .u64 0, .bool false] 81)
  have hr := Box.newAt (w.alloc (.cells #[.int .u8 kd, .int .i64 k, .int .u64 o.t, .int .u64 o.a, .int .u64 o.b, .int .u64 o.c, .int .u64 x.t, .int .u64 x.a, .int .u64 x.b, .int .u64 x.c] 31)) 81 [.int .u64 0, .int .u64 0, .int .u64 0, .int .u64 0, .bool false] (g := w.heap.size + 1) (by simp)
  have hm' := (hm.alloc (.cells #[.int .u8 kd, .int .i64 k, .int .u64 o.t, .int .u64 o.a, .int .u64 o.b, .int .u64 o.c, .int .u64 x.t, .int .u64 x.a, .int .u64 x.b, .int .u64 x.c] 31)).alloc (.cells #[.int .u64 0, .int .u64 0, .int .u64 0, .int .u64 0, .bool false] 81)
  have ho' : Own ((w.alloc (.cells #[.int .u8 kd, .int .i64 k, .int .u64 o.t, .int .u64 o.a, .int .u64 o.b, .int .u64 o.c, .int .u64 x.t, .int .u64 x.a, .int .u64 x.b, .int .u64 x.c] 31)).alloc (.cells #[.int .u64 0, .int .u64 0, .int .u64 0, .int .u64 0, .bool false] 81)) B _ l := World.ownsRow.alloc (World.ownsRow.alloc ho _) _
  have hg := grown_alloc (World.grownBy_alloc w (.cells #[.int .u8 kd, .int .i64 k, .int .u64 o.t, .int .u64 o.a, .int .u64 o.b, .int .u64 o.c, .int .u64 x.t, .int .u64 x.a, .int .u64 x.b, .int .u64 x.c] 31) (some g)) (.cells #[.int .u64 0, .int .u64 0, .int .u64 0, .int .u64 0, .bool false] 81)
  have HG := Lib.hid hg
  clear hm ho hg
  generalize (w.alloc _).alloc _ = V at *
  have hp := hm'.c 0 rfl
  have r0 := hr.c 0 rfl
  have r1 := hr.c 1 rfl
  have r2 := hr.c 2 rfl
  have r3 := hr.c 3 rfl
  have r4 := hr.c 4 rfl
  have f0 := hr.f 0
  have f1 := hr.f 1
  have f2 := hr.f 2
  have f3 := hr.f 3
  have f4 := hr.f 4
  have HR := Lib.hid hr
  have HO := Lib.hid ho'
  have b0 := hx.c 0 rfl
  have b1 := hx.c 1 rfl
  have b2 := hx.c 2 rfl
  have b3 := hx.c 3 rfl
  have b4 := hx.c 4 rfl
  have b5 := hx.c 5 rfl
  have b6 := hx.c 6 rfl
  have b7 := hx.c 7 rfl
  have b8 := hx.c 8 rfl
  have b9 := hx.c 9 rfl
  obtain ⟨c0, c1, c2, c3⟩ := own_cells ho' hk
  have HX := Lib.hid hx
  have HM := Lib.hid hm'
  clear hm' ho' hx hr
  have HH := Lib.hid (show w.heap.size ≤ w.heap.size + 1 by omega)
  generalize w.heap.size + 1 = h at *
  go_quiet (fail)
  go_wp2_with fail
  have hf := seen_fin (HR.out.drewN nq) (own_drewN HO.out nq) (grown_drewN HG.out nq) HNE.out HH.out (.int .u64 0) (.int .u64 0) (.int .u64 0) (.int .u64 0) (.bool false)
  exact bodyPost_ret (v := .tuple #[.agg #[.int .u64 0, .int .u64 0, .int .u64 0, .int .u64 0, .bool false], .int .i64 2]) (hf.1.results2 rfl Tryd.isAgg81 Tryd.sizeOf81 rfl rfl) rfl ⟨rfl, hf.2.1, hf.2.2⟩
set_option maxHeartbeats 1600000 in
theorem Do_load (p g k cap B : Nat) (l : List Cel) (o x : Cel) (w : World) (hm : Box w p [.slice (some ⟨g, 0, none⟩) l.length cap]) (ho : Own w B (.slice (some ⟨g, 0, none⟩) l.length cap) l) (hk : k < l.length) :
    Calls Tryd.prog 38 #[.pointer (some ⟨p, 0, none⟩), .agg #[.int .u8 1, .int .i64 k, .int .u64 o.t, .int .u64 o.a, .int .u64 o.b, .int .u64 o.c, .int .u64 x.t, .int .u64 x.a, .int .u64 x.b, .int .u64 x.c]] w fun e w' =>
      e = .returned (.tuple #[.agg #[.int .u64 (l.getD k .zero).t, .int .u64 (l.getD k .zero).a, .int .u64 (l.getD k .zero).b, .int .u64 (l.getD k .zero).c, .bool true], .int .i64 0]) ∧ Own w' B (.slice (some ⟨g, 0, none⟩) l.length cap) (l) ∧ w.grownBy w' (some g) := by
  have hgw := (World.ownsRow.lt ho g rfl).2
  have hne : (Value.slice (some ⟨g, 0, none⟩) l.length cap).ownBlock ≠ some (w.heap.size + 1) := by
    intro e
    simp [Value.ownBlock] at e
    omega
  have HNE := Lib.hid hne
  have n3 : ¬ (w.heap.size + 1 = g) := by omega
  have n4 : ¬ (g = w.heap.size + 1) := by omega
  have n5 : ¬ (w.heap.size = g) := by omega
  have n6 : ¬ (g = w.heap.size) := by omega
  have i1 : (0 : Int) ≤ (k : Int) := by omega
  have i2 : (k : Int) < (l.length : Int) := by omega
  clear hne
  go_enter Tryd.func38, Tryd.ntmps38
  go_wp2_with fail
  have hx := (Box.new w 31 [.int .u8 1, .int .i64 k, .int .u64 o.t, .int .u64 o.a, .int .u64 o.b, .int .u64 o.c, .int .u64 x.t, .int .u64 x.a, .int .u64 x.b, .int .u64 x.c]).alloc (.cells #[.int .u64 0, .int .u64 0, .int .u64 0, .int .u64 0, .bool false] 81)
  have hr := Box.newAt (w.alloc (.cells #[.int .u8 1, .int .i64 k, .int .u64 o.t, .int .u64 o.a, .int .u64 o.b, .int .u64 o.c, .int .u64 x.t, .int .u64 x.a, .int .u64 x.b, .int .u64 x.c] 31)) 81 [.int .u64 0, .int .u64 0, .int .u64 0, .int .u64 0, .bool false] (g := w.heap.size + 1) (by simp)
  have hm' := (hm.alloc (.cells #[.int .u8 1, .int .i64 k, .int .u64 o.t, .int .u64 o.a, .int .u64 o.b, .int .u64 o.c, .int .u64 x.t, .int .u64 x.a, .int .u64 x.b, .int .u64 x.c] 31)).alloc (.cells #[.int .u64 0, .int .u64 0, .int .u64 0, .int .u64 0, .bool false] 81)
  have ho' : Own ((w.alloc (.cells #[.int .u8 1, .int .i64 k, .int .u64 o.t, .int .u64 o.a, .int .u64 o.b, .int .u64 o.c, .int .u64 x.t, .int .u64 x.a, .int .u64 x.b, .int .u64 x.c] 31)).alloc (.cells #[.int .u64 0, .int .u64 0, .int .u64 0, .int .u64 0, .bool false] 81)) B _ l := World.ownsRow.alloc (World.ownsRow.alloc ho _) _
  have hg := grown_alloc (World.grownBy_alloc w (.cells #[.int .u8 1, .int .i64 k, .int .u64 o.t, .int .u64 o.a, .int .u64 o.b, .int .u64 o.c, .int .u64 x.t, .int .u64 x.a, .int .u64 x.b, .int .u64 x.c] 31) (some g)) (.cells #[.int .u64 0, .int .u64 0, .int .u64 0, .int .u64 0, .bool false] 81)
  have HG := Lib.hid hg
  clear hm ho hg
  generalize (w.alloc _).alloc _ = V at *
  have hp := hm'.c 0 rfl
  have r0 := hr.c 0 rfl
  have r1 := hr.c 1 rfl
  have r2 := hr.c 2 rfl
  have r3 := hr.c 3 rfl
  have r4 := hr.c 4 rfl
  have f0 := hr.f 0
  have f1 := hr.f 1
  have f2 := hr.f 2
  have f3 := hr.f 3
  have f4 := hr.f 4
  have HR := Lib.hid hr
  have HO := Lib.hid ho'
  have b0 := hx.c 0 rfl
  have b1 := hx.c 1 rfl
  have b2 := hx.c 2 rfl
  have b3 := hx.c 3 rfl
  have b4 := hx.c 4 rfl
  have b5 := hx.c 5 rfl
  have b6 := hx.c 6 rfl
  have b7 := hx.c 7 rfl
  have b8 := hx.c 8 rfl
  have b9 := hx.c 9 rfl
  obtain ⟨c0, c1, c2, c3⟩ := own_cells ho' hk
  have HX := Lib.hid hx
  have HM := Lib.hid hm'
  clear hm' ho' hx hr
  have HH := Lib.hid (show w.heap.size ≤ w.heap.size + 1 by omega)
  generalize w.heap.size + 1 = h at *
  go_quiet (fail)
  go_wp2_with fail
  have hr := HR.out.drewN nq
  have ho' := own_drewN HO.out nq
  have hm' := HM.out.drewN nq
  have hx := HX.out.drewN nq
  have HG2 := Lib.hid (grown_drewN HG.out nq)
  clear hp b0 b1 b2 b3 b4 b5 b6 b7 b8 b9 c0 c1 c2 c3 r0 r1 r2 r3 r4 f0 f1 f2 f3 f4 HR HO HM HX HG
  generalize V.drewN nq = U0 at *
  have hp := hm'.c 0 rfl
  have b1 := hx.c 1 rfl
  obtain ⟨c0, c1, c2, c3⟩ := own_cells ho' hk
  have HR := Lib.hid hr
  have HO := Lib.hid ho'
  have HM := Lib.hid hm'
  have HX := Lib.hid hx
  clear hr ho' hm' hx
  obtain ⟨y, hy⟩ : ∃ y, y = l.getD k .zero := ⟨_, rfl⟩
  rw [← hy] at c0 c1 c2 c3
  have HY := Lib.hid hy
  clear hy
  have hgU : g < U0.heap.size := (World.ownsRow.lt HO.out g rfl).2
  have hhU : h < U0.heap.size := HR.out.lt
  have b0 := fun o => (HX.out.alloc o).c 0 rfl
  have b1 := fun o => (HX.out.alloc o).c 1 rfl
  have b2 := fun o => (HX.out.alloc o).c 2 rfl
  have b3 := fun o => (HX.out.alloc o).c 3 rfl
  have b4 := fun o => (HX.out.alloc o).c 4 rfl
  have b5 := fun o => (HX.out.alloc o).c 5 rfl
  have b6 := fun o => (HX.out.alloc o).c 6 rfl
  have b7 := fun o => (HX.out.alloc o).c 7 rfl
  have b8 := fun o => (HX.out.alloc o).c 8 rfl
  have b9 := fun o => (HX.out.alloc o).c 9 rfl
  go_region_held3 (fun U => U.cell? ⟨p, 0, none⟩ = some (.slice (some ⟨g, 0, none⟩) l.length cap) ∧ U.cell? ⟨w.heap.size, 1, none⟩ = some (.int .i64 k) ∧ U.cell? ⟨g, k * 4, none⟩ = some (.int .u64 y.t) ∧ U.cell? ⟨g, k * 4 + 1, none⟩ = some (.int .u64 y.a) ∧ U.cell? ⟨g, k * 4 + 2, none⟩ = some (.int .u64 y.b) ∧ U.cell? ⟨g, k * 4 + 3, none⟩ = some (.int .u64 y.c)) (go_keep) (fail)
  all_goals go_split_ands
  all_goals go_wp2_with fail
  all_goals refine (load_any p g cap B _ l _ (World.ownsRow.drew (World.ownsRow.alloc HO.out _))).mono ?_
  all_goals rintro e w' ⟨rfl, ho2, hg2⟩
  all_goals have hw2 := ((Box.new U0 29 [.int .u64 y.t, .int .u64 y.a, .int .u64 y.b, .int .u64 y.c]).drew).grown hg2 (by simp; omega)
  all_goals have hr2 := ((HR.out.alloc (.cells #[.int .u64 y.t, .int .u64 y.a, .int .u64 y.b, .int .u64 y.c] 29)).drew).grown hg2 (by simp; omega)
  all_goals have HG3 := Lib.hid ((grown_drew (grown_alloc HG2.out (.cells #[.int .u64 y.t, .int .u64 y.a, .int .u64 y.b, .int .u64 y.c] 29))).trans hg2)
  all_goals obtain ⟨z0, z1, z2, z3⟩ := box4 hw2
  all_goals have HO3 := Lib.hid ho2
  all_goals have HR3 := Lib.hid hr2
  all_goals have r0 := hr2.c 0 rfl
  all_goals have r1 := hr2.c 1 rfl
  all_goals have r2 := hr2.c 2 rfl
  all_goals have r3 := hr2.c 3 rfl
  all_goals have r4 := hr2.c 4 rfl
  all_goals have f0 := hr2.f 0
  all_goals have f1 := hr2.f 1
  all_goals have f2 := hr2.f 2
  all_goals have f3 := hr2.f 3
  all_goals have f4 := hr2.f 4
  all_goals have hgw' : ¬ (U0.heap.size = h) := by omega
  all_goals have hgw2 : ¬ (h = U0.heap.size) := by omega
  all_goals clear hw2 hr2 ho2 hg2 HX HM HR HO HG2 b0 b1 b2 b3 b4 b5 b6 b7 b8 b9 hp c0 c1 c2 c3
  all_goals go_wp2_with fail
  all_goals have hf := seen_fin HR3.out HO3.out HG3.out HNE.out HH.out (.int .u64 y.t) (.int .u64 y.a) (.int .u64 y.b) (.int .u64 y.c) (.bool true)
  all_goals have e := HY.out
  all_goals subst e
  all_goals exact bodyPost_ret (v := .tuple #[.agg #[.int .u64 (l.getD k .zero).t, .int .u64 (l.getD k .zero).a, .int .u64 (l.getD k .zero).b, .int .u64 (l.getD k .zero).c, .bool true], .int .i64 0]) (hf.1.results2 rfl Tryd.isAgg81 Tryd.sizeOf81 rfl rfl) rfl ⟨rfl, hf.2.1, hf.2.2⟩

set_option maxHeartbeats 1600000 in
theorem Do_store (p g k cap B : Nat) (l : List Cel) (o x : Cel) (w : World) (hm : Box w p [.slice (some ⟨g, 0, none⟩) l.length cap]) (ho : Own w B (.slice (some ⟨g, 0, none⟩) l.length cap) l) (hk : k < l.length) (hpg : p ≠ g) :
    Calls Tryd.prog 38 #[.pointer (some ⟨p, 0, none⟩), .agg #[.int .u8 2, .int .i64 k, .int .u64 o.t, .int .u64 o.a, .int .u64 o.b, .int .u64 o.c, .int .u64 x.t, .int .u64 x.a, .int .u64 x.b, .int .u64 x.c]] w fun e w' =>
      e = .returned (.tuple #[.agg #[.int .u64 (l.getD k .zero).t, .int .u64 (l.getD k .zero).a, .int .u64 (l.getD k .zero).b, .int .u64 (l.getD k .zero).c, .bool true], .int .i64 0]) ∧ Own w' B (.slice (some ⟨g, 0, none⟩) l.length cap) (l.set k x) ∧ w.grownBy w' (some g) := by
  have hgw := (World.ownsRow.lt ho g rfl).2
  have hne : (Value.slice (some ⟨g, 0, none⟩) l.length cap).ownBlock ≠ some (w.heap.size + 1) := by
    intro e
    simp [Value.ownBlock] at e
    omega
  have HNE := Lib.hid hne
  have n3 : ¬ (w.heap.size + 1 = g) := by omega
  have n4 : ¬ (g = w.heap.size + 1) := by omega
  have n5 : ¬ (w.heap.size = g) := by omega
  have n6 : ¬ (g = w.heap.size) := by omega
  have i1 : (0 : Int) ≤ (k : Int) := by omega
  have i2 : (k : Int) < (l.length : Int) := by omega
  clear hne
  go_enter Tryd.func38, Tryd.ntmps38
  go_wp2_with fail
  have hx := (Box.new w 31 [.int .u8 2, .int .i64 k, .int .u64 o.t, .int .u64 o.a, .int .u64 o.b, .int .u64 o.c, .int .u64 x.t, .int .u64 x.a, .int .u64 x.b, .int .u64 x.c]).alloc (.cells #[.int .u64 0, .int .u64 0, .int .u64 0, .int .u64 0, .bool false] 81)
  have hr := Box.newAt (w.alloc (.cells #[.int .u8 2, .int .i64 k, .int .u64 o.t, .int .u64 o.a, .int .u64 o.b, .int .u64 o.c, .int .u64 x.t, .int .u64 x.a, .int .u64 x.b, .int .u64 x.c] 31)) 81 [.int .u64 0, .int .u64 0, .int .u64 0, .int .u64 0, .bool false] (g := w.heap.size + 1) (by simp)
  have hm' := (hm.alloc (.cells #[.int .u8 2, .int .i64 k, .int .u64 o.t, .int .u64 o.a, .int .u64 o.b, .int .u64 o.c, .int .u64 x.t, .int .u64 x.a, .int .u64 x.b, .int .u64 x.c] 31)).alloc (.cells #[.int .u64 0, .int .u64 0, .int .u64 0, .int .u64 0, .bool false] 81)
  have ho' : Own ((w.alloc (.cells #[.int .u8 2, .int .i64 k, .int .u64 o.t, .int .u64 o.a, .int .u64 o.b, .int .u64 o.c, .int .u64 x.t, .int .u64 x.a, .int .u64 x.b, .int .u64 x.c] 31)).alloc (.cells #[.int .u64 0, .int .u64 0, .int .u64 0, .int .u64 0, .bool false] 81)) B _ l := World.ownsRow.alloc (World.ownsRow.alloc ho _) _
  have hg := grown_alloc (World.grownBy_alloc w (.cells #[.int .u8 2, .int .i64 k, .int .u64 o.t, .int .u64 o.a, .int .u64 o.b, .int .u64 o.c, .int .u64 x.t, .int .u64 x.a, .int .u64 x.b, .int .u64 x.c] 31) (some g)) (.cells #[.int .u64 0, .int .u64 0, .int .u64 0, .int .u64 0, .bool false] 81)
  have HG := Lib.hid hg
  clear hm ho hg
  generalize (w.alloc _).alloc _ = V at *
  have hp := hm'.c 0 rfl
  have r0 := hr.c 0 rfl
  have r1 := hr.c 1 rfl
  have r2 := hr.c 2 rfl
  have r3 := hr.c 3 rfl
  have r4 := hr.c 4 rfl
  have f0 := hr.f 0
  have f1 := hr.f 1
  have f2 := hr.f 2
  have f3 := hr.f 3
  have f4 := hr.f 4
  have HR := Lib.hid hr
  have HO := Lib.hid ho'
  have b0 := hx.c 0 rfl
  have b1 := hx.c 1 rfl
  have b2 := hx.c 2 rfl
  have b3 := hx.c 3 rfl
  have b4 := hx.c 4 rfl
  have b5 := hx.c 5 rfl
  have b6 := hx.c 6 rfl
  have b7 := hx.c 7 rfl
  have b8 := hx.c 8 rfl
  have b9 := hx.c 9 rfl
  obtain ⟨c0, c1, c2, c3⟩ := own_cells ho' hk
  have HX := Lib.hid hx
  have HM := Lib.hid hm'
  clear hm' ho' hx hr
  have HH := Lib.hid (show w.heap.size ≤ w.heap.size + 1 by omega)
  generalize w.heap.size + 1 = h at *
  go_quiet (fail)
  go_wp2_with fail
  have hr := HR.out.drewN nq
  have ho' := own_drewN HO.out nq
  have hm' := HM.out.drewN nq
  have hx := HX.out.drewN nq
  have HG2 := Lib.hid (grown_drewN HG.out nq)
  clear hp b0 b1 b2 b3 b4 b5 b6 b7 b8 b9 c0 c1 c2 c3 r0 r1 r2 r3 r4 f0 f1 f2 f3 f4 HR HO HM HX HG
  generalize V.drewN nq = U0 at *
  have hp := hm'.c 0 rfl
  have b1 := hx.c 1 rfl
  obtain ⟨c0, c1, c2, c3⟩ := own_cells ho' hk
  have HR := Lib.hid hr
  have HO := Lib.hid ho'
  have HM := Lib.hid hm'
  have HX := Lib.hid hx
  clear hr ho' hm' hx
  obtain ⟨y, hy⟩ : ∃ y, y = l.getD k .zero := ⟨_, rfl⟩
  rw [← hy] at c0 c1 c2 c3
  have HY := Lib.hid hy
  clear hy
  have hgU : g < U0.heap.size := (World.ownsRow.lt HO.out g rfl).2
  have hhU : h < U0.heap.size := HR.out.lt
  have b0 := fun o => (HX.out.alloc o).c 0 rfl
  have b1 := fun o => (HX.out.alloc o).c 1 rfl
  have b2 := fun o => (HX.out.alloc o).c 2 rfl
  have b3 := fun o => (HX.out.alloc o).c 3 rfl
  have b4 := fun o => (HX.out.alloc o).c 4 rfl
  have b5 := fun o => (HX.out.alloc o).c 5 rfl
  have b6 := fun o => (HX.out.alloc o).c 6 rfl
  have b7 := fun o => (HX.out.alloc o).c 7 rfl
  have b8 := fun o => (HX.out.alloc o).c 8 rfl
  have b9 := fun o => (HX.out.alloc o).c 9 rfl
  go_region_held3 (fun U => U.cell? ⟨p, 0, none⟩ = some (.slice (some ⟨g, 0, none⟩) l.length cap) ∧ U.cell? ⟨w.heap.size, 1, none⟩ = some (.int .i64 k) ∧ U.cell? ⟨g, k * 4, none⟩ = some (.int .u64 y.t) ∧ U.cell? ⟨g, k * 4 + 1, none⟩ = some (.int .u64 y.a) ∧ U.cell? ⟨g, k * 4 + 2, none⟩ = some (.int .u64 y.b) ∧ U.cell? ⟨g, k * 4 + 3, none⟩ = some (.int .u64 y.c)) (go_keep) (fail)
  all_goals go_split_ands
  all_goals go_wp2_with fail
  all_goals refine (store_any p g cap k B 2 l o x _ ((HM.out.alloc _).drew) (World.ownsRow.drew (World.ownsRow.alloc HO.out _)) hk hpg).mono ?_
  all_goals rintro e w' ⟨rfl, ho2, hg2⟩
  all_goals have hw2 := ((Box.new U0 29 [.int .u64 y.t, .int .u64 y.a, .int .u64 y.b, .int .u64 y.c]).drew).grown hg2 (by simp; omega)
  all_goals have hr2 := ((HR.out.alloc (.cells #[.int .u64 y.t, .int .u64 y.a, .int .u64 y.b, .int .u64 y.c] 29)).drew).grown hg2 (by simp; omega)
  all_goals have HG3 := Lib.hid ((grown_drew (grown_alloc HG2.out (.cells #[.int .u64 y.t, .int .u64 y.a, .int .u64 y.b, .int .u64 y.c] 29))).trans hg2)
  all_goals obtain ⟨z0, z1, z2, z3⟩ := box4 hw2
  all_goals have HO3 := Lib.hid ho2
  all_goals have HR3 := Lib.hid hr2
  all_goals have r0 := hr2.c 0 rfl
  all_goals have r1 := hr2.c 1 rfl
  all_goals have r2 := hr2.c 2 rfl
  all_goals have r3 := hr2.c 3 rfl
  all_goals have r4 := hr2.c 4 rfl
  all_goals have f0 := hr2.f 0
  all_goals have f1 := hr2.f 1
  all_goals have f2 := hr2.f 2
  all_goals have f3 := hr2.f 3
  all_goals have f4 := hr2.f 4
  all_goals have hgw' : ¬ (U0.heap.size = h) := by omega
  all_goals have hgw2 : ¬ (h = U0.heap.size) := by omega
  all_goals clear hw2 hr2 ho2 hg2 HX HM HR HO HG2 b0 b1 b2 b3 b4 b5 b6 b7 b8 b9 hp c0 c1 c2 c3
  all_goals go_wp2_with fail
  all_goals have hf := seen_fin HR3.out HO3.out HG3.out HNE.out HH.out (.int .u64 y.t) (.int .u64 y.a) (.int .u64 y.b) (.int .u64 y.c) (.bool true)
  all_goals have e := HY.out
  all_goals subst e
  all_goals exact bodyPost_ret (v := .tuple #[.agg #[.int .u64 (l.getD k .zero).t, .int .u64 (l.getD k .zero).a, .int .u64 (l.getD k .zero).b, .int .u64 (l.getD k .zero).c, .bool true], .int .i64 0]) (hf.1.results2 rfl Tryd.isAgg81 Tryd.sizeOf81 rfl rfl) rfl ⟨rfl, hf.2.1, hf.2.2⟩

set_option maxHeartbeats 1600000 in
theorem Do_add (p g k cap B : Nat) (l : List Cel) (o x : Cel) (w : World) (hm : Box w p [.slice (some ⟨g, 0, none⟩) l.length cap]) (ho : Own w B (.slice (some ⟨g, 0, none⟩) l.length cap) l) (hk : k < l.length) (hpg : p ≠ g) :
    Calls Tryd.prog 38 #[.pointer (some ⟨p, 0, none⟩), .agg #[.int .u8 4, .int .i64 k, .int .u64 o.t, .int .u64 o.a, .int .u64 o.b, .int .u64 o.c, .int .u64 x.t, .int .u64 x.a, .int .u64 x.b, .int .u64 x.c]] w fun e w' =>
      e = .returned (.tuple #[.agg #[.int .u64 (l.getD k .zero).t, .int .u64 (l.getD k .zero).a, .int .u64 (l.getD k .zero).b, .int .u64 (l.getD k .zero).c, .bool true], .int .i64 0]) ∧ Own w' B (.slice (some ⟨g, 0, none⟩) l.length cap) (l.set k ⟨(l.getD k .zero).t, plusN (l.getD k .zero).a x.a, (l.getD k .zero).b, (l.getD k .zero).c⟩) ∧ w.grownBy w' (some g) := by
  have hgw := (World.ownsRow.lt ho g rfl).2
  have hne : (Value.slice (some ⟨g, 0, none⟩) l.length cap).ownBlock ≠ some (w.heap.size + 1) := by
    intro e
    simp [Value.ownBlock] at e
    omega
  have HNE := Lib.hid hne
  have n3 : ¬ (w.heap.size + 1 = g) := by omega
  have n4 : ¬ (g = w.heap.size + 1) := by omega
  have n5 : ¬ (w.heap.size = g) := by omega
  have n6 : ¬ (g = w.heap.size) := by omega
  have i1 : (0 : Int) ≤ (k : Int) := by omega
  have i2 : (k : Int) < (l.length : Int) := by omega
  clear hne
  go_enter Tryd.func38, Tryd.ntmps38
  go_wp2_with fail
  have hx := (Box.new w 31 [.int .u8 4, .int .i64 k, .int .u64 o.t, .int .u64 o.a, .int .u64 o.b, .int .u64 o.c, .int .u64 x.t, .int .u64 x.a, .int .u64 x.b, .int .u64 x.c]).alloc (.cells #[.int .u64 0, .int .u64 0, .int .u64 0, .int .u64 0, .bool false] 81)
  have hr := Box.newAt (w.alloc (.cells #[.int .u8 4, .int .i64 k, .int .u64 o.t, .int .u64 o.a, .int .u64 o.b, .int .u64 o.c, .int .u64 x.t, .int .u64 x.a, .int .u64 x.b, .int .u64 x.c] 31)) 81 [.int .u64 0, .int .u64 0, .int .u64 0, .int .u64 0, .bool false] (g := w.heap.size + 1) (by simp)
  have hm' := (hm.alloc (.cells #[.int .u8 4, .int .i64 k, .int .u64 o.t, .int .u64 o.a, .int .u64 o.b, .int .u64 o.c, .int .u64 x.t, .int .u64 x.a, .int .u64 x.b, .int .u64 x.c] 31)).alloc (.cells #[.int .u64 0, .int .u64 0, .int .u64 0, .int .u64 0, .bool false] 81)
  have ho' : Own ((w.alloc (.cells #[.int .u8 4, .int .i64 k, .int .u64 o.t, .int .u64 o.a, .int .u64 o.b, .int .u64 o.c, .int .u64 x.t, .int .u64 x.a, .int .u64 x.b, .int .u64 x.c] 31)).alloc (.cells #[.int .u64 0, .int .u64 0, .int .u64 0, .int .u64 0, .bool false] 81)) B _ l := World.ownsRow.alloc (World.ownsRow.alloc ho _) _
  have hg := grown_alloc (World.grownBy_alloc w (.cells #[.int .u8 4, .int .i64 k, .int .u64 o.t, .int .u64 o.a, .int .u64 o.b, .int .u64 o.c, .int .u64 x.t, .int .u64 x.a, .int .u64 x.b, .int .u64 x.c] 31) (some g)) (.cells #[.int .u64 0, .int .u64 0, .int .u64 0, .int .u64 0, .bool false] 81)
  have HG := Lib.hid hg
  clear hm ho hg
  generalize (w.alloc _).alloc _ = V at *
  have hp := hm'.c 0 rfl
  have r0 := hr.c 0 rfl
  have r1 := hr.c 1 rfl
  have r2 := hr.c 2 rfl
  have r3 := hr.c 3 rfl
  have r4 := hr.c 4 rfl
  have f0 := hr.f 0
  have f1 := hr.f 1
  have f2 := hr.f 2
  have f3 := hr.f 3
  have f4 := hr.f 4
  have HR := Lib.hid hr
  have HO := Lib.hid ho'
  have b0 := hx.c 0 rfl
  have b1 := hx.c 1 rfl
  have b2 := hx.c 2 rfl
  have b3 := hx.c 3 rfl
  have b4 := hx.c 4 rfl
  have b5 := hx.c 5 rfl
  have b6 := hx.c 6 rfl
  have b7 := hx.c 7 rfl
  have b8 := hx.c 8 rfl
  have b9 := hx.c 9 rfl
  obtain ⟨c0, c1, c2, c3⟩ := own_cells ho' hk
  have HX := Lib.hid hx
  have HM := Lib.hid hm'
  clear hm' ho' hx hr
  have HH := Lib.hid (show w.heap.size ≤ w.heap.size + 1 by omega)
  generalize w.heap.size + 1 = h at *
  go_quiet (fail)
  go_wp2_with fail
  have hr := HR.out.drewN nq
  have ho' := own_drewN HO.out nq
  have hm' := HM.out.drewN nq
  have hx := HX.out.drewN nq
  have HG2 := Lib.hid (grown_drewN HG.out nq)
  clear hp b0 b1 b2 b3 b4 b5 b6 b7 b8 b9 c0 c1 c2 c3 r0 r1 r2 r3 r4 f0 f1 f2 f3 f4 HR HO HM HX HG
  generalize V.drewN nq = U0 at *
  have hp := hm'.c 0 rfl
  have b1 := hx.c 1 rfl
  obtain ⟨c0, c1, c2, c3⟩ := own_cells ho' hk
  have HR := Lib.hid hr
  have HO := Lib.hid ho'
  have HM := Lib.hid hm'
  have HX := Lib.hid hx
  clear hr ho' hm' hx
  obtain ⟨y, hy⟩ : ∃ y, y = l.getD k .zero := ⟨_, rfl⟩
  rw [← hy] at c0 c1 c2 c3
  have HY := Lib.hid hy
  clear hy
  have hgU : g < U0.heap.size := (World.ownsRow.lt HO.out g rfl).2
  have hhU : h < U0.heap.size := HR.out.lt
  have b0 := fun o => (HX.out.alloc o).c 0 rfl
  have b1 := fun o => (HX.out.alloc o).c 1 rfl
  have b2 := fun o => (HX.out.alloc o).c 2 rfl
  have b3 := fun o => (HX.out.alloc o).c 3 rfl
  have b4 := fun o => (HX.out.alloc o).c 4 rfl
  have b5 := fun o => (HX.out.alloc o).c 5 rfl
  have b6 := fun o => (HX.out.alloc o).c 6 rfl
  have b7 := fun o => (HX.out.alloc o).c 7 rfl
  have b8 := fun o => (HX.out.alloc o).c 8 rfl
  have b9 := fun o => (HX.out.alloc o).c 9 rfl
  go_region_held3 (fun U => U.cell? ⟨p, 0, none⟩ = some (.slice (some ⟨g, 0, none⟩) l.length cap) ∧ U.cell? ⟨w.heap.size, 1, none⟩ = some (.int .i64 k) ∧ U.cell? ⟨g, k * 4, none⟩ = some (.int .u64 y.t) ∧ U.cell? ⟨g, k * 4 + 1, none⟩ = some (.int .u64 y.a) ∧ U.cell? ⟨g, k * 4 + 2, none⟩ = some (.int .u64 y.b) ∧ U.cell? ⟨g, k * 4 + 3, none⟩ = some (.int .u64 y.c)) (go_keep) (fail)
  all_goals go_split_ands
  all_goals go_wp2_with fail
  all_goals refine (add_any p g cap k B 4 l o x _ ((HM.out.alloc _).drew) (World.ownsRow.drew (World.ownsRow.alloc HO.out _)) hk hpg).mono ?_
  all_goals rintro e w' ⟨rfl, ho2, hg2⟩
  all_goals have hw2 := ((Box.new U0 29 [.int .u64 y.t, .int .u64 y.a, .int .u64 y.b, .int .u64 y.c]).drew).grown hg2 (by simp; omega)
  all_goals have hr2 := ((HR.out.alloc (.cells #[.int .u64 y.t, .int .u64 y.a, .int .u64 y.b, .int .u64 y.c] 29)).drew).grown hg2 (by simp; omega)
  all_goals have HG3 := Lib.hid ((grown_drew (grown_alloc HG2.out (.cells #[.int .u64 y.t, .int .u64 y.a, .int .u64 y.b, .int .u64 y.c] 29))).trans hg2)
  all_goals obtain ⟨z0, z1, z2, z3⟩ := box4 hw2
  all_goals have HO3 := Lib.hid ho2
  all_goals have HR3 := Lib.hid hr2
  all_goals have r0 := hr2.c 0 rfl
  all_goals have r1 := hr2.c 1 rfl
  all_goals have r2 := hr2.c 2 rfl
  all_goals have r3 := hr2.c 3 rfl
  all_goals have r4 := hr2.c 4 rfl
  all_goals have f0 := hr2.f 0
  all_goals have f1 := hr2.f 1
  all_goals have f2 := hr2.f 2
  all_goals have f3 := hr2.f 3
  all_goals have f4 := hr2.f 4
  all_goals have hgw' : ¬ (U0.heap.size = h) := by omega
  all_goals have hgw2 : ¬ (h = U0.heap.size) := by omega
  all_goals clear hw2 hr2 ho2 hg2 HX HM HR HO HG2 b0 b1 b2 b3 b4 b5 b6 b7 b8 b9 hp c0 c1 c2 c3
  all_goals go_wp2_with fail
  all_goals have hf := seen_fin HR3.out HO3.out HG3.out HNE.out HH.out (.int .u64 y.t) (.int .u64 y.a) (.int .u64 y.b) (.int .u64 y.c) (.bool true)
  all_goals have e := HY.out
  all_goals subst e
  all_goals exact bodyPost_ret (v := .tuple #[.agg #[.int .u64 (l.getD k .zero).t, .int .u64 (l.getD k .zero).a, .int .u64 (l.getD k .zero).b, .int .u64 (l.getD k .zero).c, .bool true], .int .i64 0]) (hf.1.results2 rfl Tryd.isAgg81 Tryd.sizeOf81 rfl rfl) rfl ⟨rfl, hf.2.1, hf.2.2⟩

set_option maxHeartbeats 1600000 in
theorem Do_swap_yes (p g k cap B : Nat) (l : List Cel) (o x : Cel) (w : World) (hm : Box w p [.slice (some ⟨g, 0, none⟩) l.length cap]) (ho : Own w B (.slice (some ⟨g, 0, none⟩) l.length cap) l) (hk : k < l.length) (hpg : p ≠ g) (he : l.getD k .zero = o) :
    Calls Tryd.prog 38 #[.pointer (some ⟨p, 0, none⟩), .agg #[.int .u8 3, .int .i64 k, .int .u64 o.t, .int .u64 o.a, .int .u64 o.b, .int .u64 o.c, .int .u64 x.t, .int .u64 x.a, .int .u64 x.b, .int .u64 x.c]] w fun e w' =>
      e = .returned (.tuple #[.agg #[.int .u64 (l.getD k .zero).t, .int .u64 (l.getD k .zero).a, .int .u64 (l.getD k .zero).b, .int .u64 (l.getD k .zero).c, .bool true], .int .i64 0]) ∧ Own w' B (.slice (some ⟨g, 0, none⟩) l.length cap) (l.set k x) ∧ w.grownBy w' (some g) := by
  have HE := Lib.hid he
  clear he
  have hgw := (World.ownsRow.lt ho g rfl).2
  have hne : (Value.slice (some ⟨g, 0, none⟩) l.length cap).ownBlock ≠ some (w.heap.size + 1) := by
    intro e
    simp [Value.ownBlock] at e
    omega
  have HNE := Lib.hid hne
  have n3 : ¬ (w.heap.size + 1 = g) := by omega
  have n4 : ¬ (g = w.heap.size + 1) := by omega
  have n5 : ¬ (w.heap.size = g) := by omega
  have n6 : ¬ (g = w.heap.size) := by omega
  have i1 : (0 : Int) ≤ (k : Int) := by omega
  have i2 : (k : Int) < (l.length : Int) := by omega
  clear hne
  go_enter Tryd.func38, Tryd.ntmps38
  go_wp2_with fail
  have hx := (Box.new w 31 [.int .u8 3, .int .i64 k, .int .u64 o.t, .int .u64 o.a, .int .u64 o.b, .int .u64 o.c, .int .u64 x.t, .int .u64 x.a, .int .u64 x.b, .int .u64 x.c]).alloc (.cells #[.int .u64 0, .int .u64 0, .int .u64 0, .int .u64 0, .bool false] 81)
  have hr := Box.newAt (w.alloc (.cells #[.int .u8 3, .int .i64 k, .int .u64 o.t, .int .u64 o.a, .int .u64 o.b, .int .u64 o.c, .int .u64 x.t, .int .u64 x.a, .int .u64 x.b, .int .u64 x.c] 31)) 81 [.int .u64 0, .int .u64 0, .int .u64 0, .int .u64 0, .bool false] (g := w.heap.size + 1) (by simp)
  have hm' := (hm.alloc (.cells #[.int .u8 3, .int .i64 k, .int .u64 o.t, .int .u64 o.a, .int .u64 o.b, .int .u64 o.c, .int .u64 x.t, .int .u64 x.a, .int .u64 x.b, .int .u64 x.c] 31)).alloc (.cells #[.int .u64 0, .int .u64 0, .int .u64 0, .int .u64 0, .bool false] 81)
  have ho' : Own ((w.alloc (.cells #[.int .u8 3, .int .i64 k, .int .u64 o.t, .int .u64 o.a, .int .u64 o.b, .int .u64 o.c, .int .u64 x.t, .int .u64 x.a, .int .u64 x.b, .int .u64 x.c] 31)).alloc (.cells #[.int .u64 0, .int .u64 0, .int .u64 0, .int .u64 0, .bool false] 81)) B _ l := World.ownsRow.alloc (World.ownsRow.alloc ho _) _
  have hg := grown_alloc (World.grownBy_alloc w (.cells #[.int .u8 3, .int .i64 k, .int .u64 o.t, .int .u64 o.a, .int .u64 o.b, .int .u64 o.c, .int .u64 x.t, .int .u64 x.a, .int .u64 x.b, .int .u64 x.c] 31) (some g)) (.cells #[.int .u64 0, .int .u64 0, .int .u64 0, .int .u64 0, .bool false] 81)
  have HG := Lib.hid hg
  clear hm ho hg
  generalize (w.alloc _).alloc _ = V at *
  have hp := hm'.c 0 rfl
  have r0 := hr.c 0 rfl
  have r1 := hr.c 1 rfl
  have r2 := hr.c 2 rfl
  have r3 := hr.c 3 rfl
  have r4 := hr.c 4 rfl
  have f0 := hr.f 0
  have f1 := hr.f 1
  have f2 := hr.f 2
  have f3 := hr.f 3
  have f4 := hr.f 4
  have HR := Lib.hid hr
  have HO := Lib.hid ho'
  have b0 := hx.c 0 rfl
  have b1 := hx.c 1 rfl
  have b2 := hx.c 2 rfl
  have b3 := hx.c 3 rfl
  have b4 := hx.c 4 rfl
  have b5 := hx.c 5 rfl
  have b6 := hx.c 6 rfl
  have b7 := hx.c 7 rfl
  have b8 := hx.c 8 rfl
  have b9 := hx.c 9 rfl
  obtain ⟨c0, c1, c2, c3⟩ := own_cells ho' hk
  have HX := Lib.hid hx
  have HM := Lib.hid hm'
  clear hm' ho' hx hr
  have HH := Lib.hid (show w.heap.size ≤ w.heap.size + 1 by omega)
  generalize w.heap.size + 1 = h at *
  go_quiet (fail)
  go_wp2_with fail
  have hr := HR.out.drewN nq
  have ho' := own_drewN HO.out nq
  have hm' := HM.out.drewN nq
  have hx := HX.out.drewN nq
  have HG2 := Lib.hid (grown_drewN HG.out nq)
  clear hp b0 b1 b2 b3 b4 b5 b6 b7 b8 b9 c0 c1 c2 c3 r0 r1 r2 r3 r4 f0 f1 f2 f3 f4 HR HO HM HX HG
  generalize V.drewN nq = U0 at *
  have hp := hm'.c 0 rfl
  have b1 := hx.c 1 rfl
  obtain ⟨c0, c1, c2, c3⟩ := own_cells ho' hk
  have HR := Lib.hid hr
  have HO := Lib.hid ho'
  have HM := Lib.hid hm'
  have HX := Lib.hid hx
  clear hr ho' hm' hx
  obtain ⟨y, hy⟩ : ∃ y, y = l.getD k .zero := ⟨_, rfl⟩
  rw [← hy] at c0 c1 c2 c3
  have HY := Lib.hid hy
  clear hy
  have hgU : g < U0.heap.size := (World.ownsRow.lt HO.out g rfl).2
  have hhU : h < U0.heap.size := HR.out.lt
  have b0 := fun o => (HX.out.alloc o).c 0 rfl
  have b1 := fun o => (HX.out.alloc o).c 1 rfl
  have b2 := fun o => (HX.out.alloc o).c 2 rfl
  have b3 := fun o => (HX.out.alloc o).c 3 rfl
  have b4 := fun o => (HX.out.alloc o).c 4 rfl
  have b5 := fun o => (HX.out.alloc o).c 5 rfl
  have b6 := fun o => (HX.out.alloc o).c 6 rfl
  have b7 := fun o => (HX.out.alloc o).c 7 rfl
  have b8 := fun o => (HX.out.alloc o).c 8 rfl
  have b9 := fun o => (HX.out.alloc o).c 9 rfl
  go_region_held3 (fun U => U.cell? ⟨p, 0, none⟩ = some (.slice (some ⟨g, 0, none⟩) l.length cap) ∧ U.cell? ⟨w.heap.size, 1, none⟩ = some (.int .i64 k) ∧ U.cell? ⟨g, k * 4, none⟩ = some (.int .u64 y.t) ∧ U.cell? ⟨g, k * 4 + 1, none⟩ = some (.int .u64 y.a) ∧ U.cell? ⟨g, k * 4 + 2, none⟩ = some (.int .u64 y.b) ∧ U.cell? ⟨g, k * 4 + 3, none⟩ = some (.int .u64 y.c)) (go_keep) (fail)
  all_goals go_split_ands
  all_goals go_wp2_with fail
  all_goals refine (swap_yes p g cap k B 3 l o x _ ((HM.out.alloc _).drew) (World.ownsRow.drew (World.ownsRow.alloc HO.out _)) hk hpg HE.out).mono ?_
  all_goals rintro e w' ⟨rfl, ho2, hg2⟩
  all_goals have hw2 := ((Box.new U0 29 [.int .u64 y.t, .int .u64 y.a, .int .u64 y.b, .int .u64 y.c]).drew).grown hg2 (by simp; omega)
  all_goals have hr2 := ((HR.out.alloc (.cells #[.int .u64 y.t, .int .u64 y.a, .int .u64 y.b, .int .u64 y.c] 29)).drew).grown hg2 (by simp; omega)
  all_goals have HG3 := Lib.hid ((grown_drew (grown_alloc HG2.out (.cells #[.int .u64 y.t, .int .u64 y.a, .int .u64 y.b, .int .u64 y.c] 29))).trans hg2)
  all_goals obtain ⟨z0, z1, z2, z3⟩ := box4 hw2
  all_goals have HO3 := Lib.hid ho2
  all_goals have HR3 := Lib.hid hr2
  all_goals have r0 := hr2.c 0 rfl
  all_goals have r1 := hr2.c 1 rfl
  all_goals have r2 := hr2.c 2 rfl
  all_goals have r3 := hr2.c 3 rfl
  all_goals have r4 := hr2.c 4 rfl
  all_goals have f0 := hr2.f 0
  all_goals have f1 := hr2.f 1
  all_goals have f2 := hr2.f 2
  all_goals have f3 := hr2.f 3
  all_goals have f4 := hr2.f 4
  all_goals have hgw' : ¬ (U0.heap.size = h) := by omega
  all_goals have hgw2 : ¬ (h = U0.heap.size) := by omega
  all_goals clear hw2 hr2 ho2 hg2 HX HM HR HO HG2 b0 b1 b2 b3 b4 b5 b6 b7 b8 b9 hp c0 c1 c2 c3
  all_goals go_wp2_with fail
  all_goals have hf := seen_fin HR3.out HO3.out HG3.out HNE.out HH.out (.int .u64 y.t) (.int .u64 y.a) (.int .u64 y.b) (.int .u64 y.c) (.bool true)
  all_goals have e := HY.out
  all_goals subst e
  all_goals exact bodyPost_ret (v := .tuple #[.agg #[.int .u64 (l.getD k .zero).t, .int .u64 (l.getD k .zero).a, .int .u64 (l.getD k .zero).b, .int .u64 (l.getD k .zero).c, .bool true], .int .i64 0]) (hf.1.results2 rfl Tryd.isAgg81 Tryd.sizeOf81 rfl rfl) rfl ⟨rfl, hf.2.1, hf.2.2⟩

set_option maxHeartbeats 1600000 in
theorem Do_swap_no (p g k cap B : Nat) (l : List Cel) (o x : Cel) (w : World) (hm : Box w p [.slice (some ⟨g, 0, none⟩) l.length cap]) (ho : Own w B (.slice (some ⟨g, 0, none⟩) l.length cap) l) (hk : k < l.length) (hpg : p ≠ g) (he : l.getD k .zero ≠ o) :
    Calls Tryd.prog 38 #[.pointer (some ⟨p, 0, none⟩), .agg #[.int .u8 3, .int .i64 k, .int .u64 o.t, .int .u64 o.a, .int .u64 o.b, .int .u64 o.c, .int .u64 x.t, .int .u64 x.a, .int .u64 x.b, .int .u64 x.c]] w fun e w' =>
      e = .returned (.tuple #[.agg #[.int .u64 (l.getD k .zero).t, .int .u64 (l.getD k .zero).a, .int .u64 (l.getD k .zero).b, .int .u64 (l.getD k .zero).c, .bool false], .int .i64 0]) ∧ Own w' B (.slice (some ⟨g, 0, none⟩) l.length cap) (l) ∧ w.grownBy w' (some g) := by
  have HE := Lib.hid he
  clear he
  have hgw := (World.ownsRow.lt ho g rfl).2
  have hne : (Value.slice (some ⟨g, 0, none⟩) l.length cap).ownBlock ≠ some (w.heap.size + 1) := by
    intro e
    simp [Value.ownBlock] at e
    omega
  have HNE := Lib.hid hne
  have n3 : ¬ (w.heap.size + 1 = g) := by omega
  have n4 : ¬ (g = w.heap.size + 1) := by omega
  have n5 : ¬ (w.heap.size = g) := by omega
  have n6 : ¬ (g = w.heap.size) := by omega
  have i1 : (0 : Int) ≤ (k : Int) := by omega
  have i2 : (k : Int) < (l.length : Int) := by omega
  clear hne
  go_enter Tryd.func38, Tryd.ntmps38
  go_wp2_with fail
  have hx := (Box.new w 31 [.int .u8 3, .int .i64 k, .int .u64 o.t, .int .u64 o.a, .int .u64 o.b, .int .u64 o.c, .int .u64 x.t, .int .u64 x.a, .int .u64 x.b, .int .u64 x.c]).alloc (.cells #[.int .u64 0, .int .u64 0, .int .u64 0, .int .u64 0, .bool false] 81)
  have hr := Box.newAt (w.alloc (.cells #[.int .u8 3, .int .i64 k, .int .u64 o.t, .int .u64 o.a, .int .u64 o.b, .int .u64 o.c, .int .u64 x.t, .int .u64 x.a, .int .u64 x.b, .int .u64 x.c] 31)) 81 [.int .u64 0, .int .u64 0, .int .u64 0, .int .u64 0, .bool false] (g := w.heap.size + 1) (by simp)
  have hm' := (hm.alloc (.cells #[.int .u8 3, .int .i64 k, .int .u64 o.t, .int .u64 o.a, .int .u64 o.b, .int .u64 o.c, .int .u64 x.t, .int .u64 x.a, .int .u64 x.b, .int .u64 x.c] 31)).alloc (.cells #[.int .u64 0, .int .u64 0, .int .u64 0, .int .u64 0, .bool false] 81)
  have ho' : Own ((w.alloc (.cells #[.int .u8 3, .int .i64 k, .int .u64 o.t, .int .u64 o.a, .int .u64 o.b, .int .u64 o.c, .int .u64 x.t, .int .u64 x.a, .int .u64 x.b, .int .u64 x.c] 31)).alloc (.cells #[.int .u64 0, .int .u64 0, .int .u64 0, .int .u64 0, .bool false] 81)) B _ l := World.ownsRow.alloc (World.ownsRow.alloc ho _) _
  have hg := grown_alloc (World.grownBy_alloc w (.cells #[.int .u8 3, .int .i64 k, .int .u64 o.t, .int .u64 o.a, .int .u64 o.b, .int .u64 o.c, .int .u64 x.t, .int .u64 x.a, .int .u64 x.b, .int .u64 x.c] 31) (some g)) (.cells #[.int .u64 0, .int .u64 0, .int .u64 0, .int .u64 0, .bool false] 81)
  have HG := Lib.hid hg
  clear hm ho hg
  generalize (w.alloc _).alloc _ = V at *
  have hp := hm'.c 0 rfl
  have r0 := hr.c 0 rfl
  have r1 := hr.c 1 rfl
  have r2 := hr.c 2 rfl
  have r3 := hr.c 3 rfl
  have r4 := hr.c 4 rfl
  have f0 := hr.f 0
  have f1 := hr.f 1
  have f2 := hr.f 2
  have f3 := hr.f 3
  have f4 := hr.f 4
  have HR := Lib.hid hr
  have HO := Lib.hid ho'
  have b0 := hx.c 0 rfl
  have b1 := hx.c 1 rfl
  have b2 := hx.c 2 rfl
  have b3 := hx.c 3 rfl
  have b4 := hx.c 4 rfl
  have b5 := hx.c 5 rfl
  have b6 := hx.c 6 rfl
  have b7 := hx.c 7 rfl
  have b8 := hx.c 8 rfl
  have b9 := hx.c 9 rfl
  obtain ⟨c0, c1, c2, c3⟩ := own_cells ho' hk
  have HX := Lib.hid hx
  have HM := Lib.hid hm'
  clear hm' ho' hx hr
  have HH := Lib.hid (show w.heap.size ≤ w.heap.size + 1 by omega)
  generalize w.heap.size + 1 = h at *
  go_quiet (fail)
  go_wp2_with fail
  have hr := HR.out.drewN nq
  have ho' := own_drewN HO.out nq
  have hm' := HM.out.drewN nq
  have hx := HX.out.drewN nq
  have HG2 := Lib.hid (grown_drewN HG.out nq)
  clear hp b0 b1 b2 b3 b4 b5 b6 b7 b8 b9 c0 c1 c2 c3 r0 r1 r2 r3 r4 f0 f1 f2 f3 f4 HR HO HM HX HG
  generalize V.drewN nq = U0 at *
  have hp := hm'.c 0 rfl
  have b1 := hx.c 1 rfl
  obtain ⟨c0, c1, c2, c3⟩ := own_cells ho' hk
  have HR := Lib.hid hr
  have HO := Lib.hid ho'
  have HM := Lib.hid hm'
  have HX := Lib.hid hx
  clear hr ho' hm' hx
  obtain ⟨y, hy⟩ : ∃ y, y = l.getD k .zero := ⟨_, rfl⟩
  rw [← hy] at c0 c1 c2 c3
  have HY := Lib.hid hy
  clear hy
  have hgU : g < U0.heap.size := (World.ownsRow.lt HO.out g rfl).2
  have hhU : h < U0.heap.size := HR.out.lt
  have b0 := fun o => (HX.out.alloc o).c 0 rfl
  have b1 := fun o => (HX.out.alloc o).c 1 rfl
  have b2 := fun o => (HX.out.alloc o).c 2 rfl
  have b3 := fun o => (HX.out.alloc o).c 3 rfl
  have b4 := fun o => (HX.out.alloc o).c 4 rfl
  have b5 := fun o => (HX.out.alloc o).c 5 rfl
  have b6 := fun o => (HX.out.alloc o).c 6 rfl
  have b7 := fun o => (HX.out.alloc o).c 7 rfl
  have b8 := fun o => (HX.out.alloc o).c 8 rfl
  have b9 := fun o => (HX.out.alloc o).c 9 rfl
  go_region_held3 (fun U => U.cell? ⟨p, 0, none⟩ = some (.slice (some ⟨g, 0, none⟩) l.length cap) ∧ U.cell? ⟨w.heap.size, 1, none⟩ = some (.int .i64 k) ∧ U.cell? ⟨g, k * 4, none⟩ = some (.int .u64 y.t) ∧ U.cell? ⟨g, k * 4 + 1, none⟩ = some (.int .u64 y.a) ∧ U.cell? ⟨g, k * 4 + 2, none⟩ = some (.int .u64 y.b) ∧ U.cell? ⟨g, k * 4 + 3, none⟩ = some (.int .u64 y.c)) (go_keep) (fail)
  all_goals go_split_ands
  all_goals go_wp2_with fail
  all_goals refine (swap_no p g cap k B 3 l o x _ ((HM.out.alloc _).drew) (World.ownsRow.drew (World.ownsRow.alloc HO.out _)) hk hpg HE.out).mono ?_
  all_goals rintro e w' ⟨rfl, ho2, hg2⟩
  all_goals have hw2 := ((Box.new U0 29 [.int .u64 y.t, .int .u64 y.a, .int .u64 y.b, .int .u64 y.c]).drew).grown hg2 (by simp; omega)
  all_goals have hr2 := ((HR.out.alloc (.cells #[.int .u64 y.t, .int .u64 y.a, .int .u64 y.b, .int .u64 y.c] 29)).drew).grown hg2 (by simp; omega)
  all_goals have HG3 := Lib.hid ((grown_drew (grown_alloc HG2.out (.cells #[.int .u64 y.t, .int .u64 y.a, .int .u64 y.b, .int .u64 y.c] 29))).trans hg2)
  all_goals obtain ⟨z0, z1, z2, z3⟩ := box4 hw2
  all_goals have HO3 := Lib.hid ho2
  all_goals have HR3 := Lib.hid hr2
  all_goals have r0 := hr2.c 0 rfl
  all_goals have r1 := hr2.c 1 rfl
  all_goals have r2 := hr2.c 2 rfl
  all_goals have r3 := hr2.c 3 rfl
  all_goals have r4 := hr2.c 4 rfl
  all_goals have f0 := hr2.f 0
  all_goals have f1 := hr2.f 1
  all_goals have f2 := hr2.f 2
  all_goals have f3 := hr2.f 3
  all_goals have f4 := hr2.f 4
  all_goals have hgw' : ¬ (U0.heap.size = h) := by omega
  all_goals have hgw2 : ¬ (h = U0.heap.size) := by omega
  all_goals clear hw2 hr2 ho2 hg2 HX HM HR HO HG2 b0 b1 b2 b3 b4 b5 b6 b7 b8 b9 hp c0 c1 c2 c3
  all_goals go_wp2_with fail
  all_goals have hf := seen_fin HR3.out HO3.out HG3.out HNE.out HH.out (.int .u64 y.t) (.int .u64 y.a) (.int .u64 y.b) (.int .u64 y.c) (.bool false)
  all_goals have e := HY.out
  all_goals subst e
  all_goals exact bodyPost_ret (v := .tuple #[.agg #[.int .u64 (l.getD k .zero).t, .int .u64 (l.getD k .zero).a, .int .u64 (l.getD k .zero).b, .int .u64 (l.getD k .zero).c, .bool false], .int .i64 0]) (hf.1.results2 rfl Tryd.isAgg81 Tryd.sizeOf81 rfl rfl) rfl ⟨rfl, hf.2.1, hf.2.2⟩


end Go.Proofs.YtecjbgddjejjdaaDoor
