/- Contract of (*Mem).Do. -/
import Derived.Test.YtecjbgddjejjdaaDoorCell
namespace Go.Proofs.YtecjbgddjejjdaaDoor
open Go.RowKit

/-- The block of an answer, stored anew. -/
theorem seen_set {W : World} {h : Nat} (hr : Box W h [.int .u64 0, .int .u64 0, .int .u64 0, .int .u64 0, .bool false]) (v0 v1 v2 v3 v4 : Value) :
    Box (((((W.setCell ⟨h, 0, none⟩ v0).setCell ⟨h, 1, none⟩ v1).setCell ⟨h, 2, none⟩ v2).setCell ⟨h, 3, none⟩ v3).setCell ⟨h, 4, none⟩ v4) h [v0, v1, v2, v3, v4] :=
  (((((hr.set 0 _).set 1 _).set 2 _).set 3 _).set 4 _).as rfl
theorem grown_new {A B : World} {row : Option Nat} (h : A.grownBy B row) {g j : Nat} (hg : A.heap.size ≤ g) (v : Value) : A.grownBy (B.setCell ⟨g, j, none⟩ v) row :=
  ⟨h.os, h.tape, h.output, by simpa using h.size, fun k hk hne => (Below.heap_setCell B ⟨g, j, none⟩ v k (by show k ≠ g; omega)).trans (h.block k hk hne)⟩
theorem own_far {W : World} {B g j : Nat} {v : Value} {l : List Cel} (h : Own W B v l) (hne : v.ownBlock ≠ some g) (u : Value) : Own (W.setCell ⟨g, j, none⟩ u) B v l := ownsRow_setCell_other h (a := ⟨g, j, none⟩) hne u

theorem own_drewN {W : World} {B : Nat} {v : Value} {l : List Cel} (h : Own W B v l) (n : Nat) : Own (W.drewN n) B v l := h
theorem grown_drewN {A B : World} {row : Option Nat} (h : A.grownBy B row) (n : Nat) : A.grownBy (B.drewN n) row := ⟨h.os, h.tape, h.output, h.size, h.block⟩
theorem seen_fin {w V : World} {B h : Nat} {v : Value} {row : Option Nat} {l : List Cel} (hr : Box V h [.int .u64 0, .int .u64 0, .int .u64 0, .int .u64 0, .bool false]) (ho : Own V B v l) (hg : w.grownBy V row) (hne : v.ownBlock ≠ some h) (hh : w.heap.size ≤ h) (v0 v1 v2 v3 v4 : Value) :
    Box (((((V.setCell ⟨h, 0, none⟩ v0).setCell ⟨h, 1, none⟩ v1).setCell ⟨h, 2, none⟩ v2).setCell ⟨h, 3, none⟩ v3).setCell ⟨h, 4, none⟩ v4) h [v0, v1, v2, v3, v4]
    ∧ Own (((((V.setCell ⟨h, 0, none⟩ v0).setCell ⟨h, 1, none⟩ v1).setCell ⟨h, 2, none⟩ v2).setCell ⟨h, 3, none⟩ v3).setCell ⟨h, 4, none⟩ v4) B v l
    ∧ w.grownBy (((((V.setCell ⟨h, 0, none⟩ v0).setCell ⟨h, 1, none⟩ v1).setCell ⟨h, 2, none⟩ v2).setCell ⟨h, 3, none⟩ v3).setCell ⟨h, 4, none⟩ v4) row :=
  ⟨seen_set hr v0 v1 v2 v3 v4, own_far (own_far (own_far (own_far (own_far ho hne v0) hne v1) hne v2) hne v3) hne v4, grown_new (grown_new (grown_new (grown_new (grown_new hg hh v0) hh v1) hh v2) hh v3) hh v4⟩
set_option maxHeartbeats 1600000 in
theorem Do_at (p cap B : Nat) (a : Option Addr) (kd i : Int) (l : List Cel) (o x : Cel) (w : World) (hm : Box w p [.slice a l.length cap]) (ho : Own w B (.slice a l.length cap) l) (hi : i < 0 ∨ (l.length : Int) ≤ i) :
    Calls Tryd.prog 38 #[.pointer (some ⟨p, 0, none⟩), .agg #[.int .u8 kd, .int .i64 i, .int .u64 o.t, .int .u64 o.a, .int .u64 o.b, .int .u64 o.c, .int .u64 x.t, .int .u64 x.a, .int .u64 x.b, .int .u64 x.c]] w fun e w' =>
      e = .returned (.tuple #[.agg #[.int .u64 0, .int .u64 0, .int .u64 0, .int .u64 0, .bool false], .int .i64 2]) ∧ Own w' B (.slice a l.length cap) (l) ∧ w.grownBy w' (Value.slice a l.length cap).ownBlock := by
  have hne : (Value.slice a l.length cap).ownBlock ≠ some (w.heap.size + 1) := by
    intro e
    have := (World.ownsRow.lt ho _ e).2
    omega
  have HNE := Lib.hid hne
  clear hne
  have HI := Lib.hid hi
  clear hi
  go_enter Tryd.func38, Tryd.ntmps38
  go_wp2_with fail
  have hx := (Box.new w 31 [.int .u8 kd, .int .i64 i, .int .u64 o.t, .int .u64 o.a, .int .u64 o.b, .int .u64 o.c, .int .u64 x.t, .int .u64 x.a, .int .u64 x.b, .int .u64 x.c]).alloc (.cells #[.int .u64 0, .int .u64 0, .int .u64 0, .int .u64 0, .bool false] 81)
  have hr := Box.newAt (w.alloc (.cells #[.int .u8 kd, .int .i64 i, .int .u64 o.t, .int .u64 o.a, .int .u64 o.b, .int .u64 o.c, .int .u64 x.t, .int .u64 x.a, .int .u64 x.b, .int .u64 x.c] 31)) 81 [.int .u64 0, .int .u64 0, .int .u64 0, .int .u64 0, .bool false] (g := w.heap.size + 1) (by simp)
  have hm' := (hm.alloc (.cells #[.int .u8 kd, .int .i64 i, .int .u64 o.t, .int .u64 o.a, .int .u64 o.b, .int .u64 o.c, .int .u64 x.t, .int .u64 x.a, .int .u64 x.b, .int .u64 x.c] 31)).alloc (.cells #[.int .u64 0, .int .u64 0, .int .u64 0, .int .u64 0, .bool false] 81)
  have ho' : Own ((w.alloc (.cells #[.int .u8 kd, .int .i64 i, .int .u64 o.t, .int .u64 o.a, .int .u64 o.b, .int .u64 o.c, .int .u64 x.t, .int .u64 x.a, .int .u64 x.b, .int .u64 x.c] 31)).alloc (.cells #[.int .u64 0, .int .u64 0, .int .u64 0, .int .u64 0, .bool false] 81)) B _ l := World.ownsRow.alloc (World.ownsRow.alloc ho _) _
  have hg := grown_alloc (World.grownBy_alloc w (.cells #[.int .u8 kd, .int .i64 i, .int .u64 o.t, .int .u64 o.a, .int .u64 o.b, .int .u64 o.c, .int .u64 x.t, .int .u64 x.a, .int .u64 x.b, .int .u64 x.c] 31) (Value.slice a l.length cap).ownBlock) (.cells #[.int .u64 0, .int .u64 0, .int .u64 0, .int .u64 0, .bool false] 81)
  have HG := Lib.hid hg
  clear hm ho hg
  generalize (w.alloc _).alloc _ = V at *
  have hp := hm'.c 0 rfl
  have a0 := hx.c 0 rfl
  have a1 := hx.c 1 rfl
  have r0 := hr.c 0 rfl
  have r1 := hr.c 1 rfl
  have r2 := hr.c 2 rfl
  have r3 := hr.c 3 rfl
  have r4 := hr.c 4 rfl
  have f0 := hr.f 0
  have f1 := hr.f 1
  have f2 := hr.f 2
  have f3 := hr.f 3
  have f4 := hr.f 4
  have HR := Lib.hid hr
  have HO := Lib.hid ho'
  clear hm' ho' hx hr
  have HH := Lib.hid (show w.heap.size ≤ w.heap.size + 1 by omega)
  generalize w.heap.size + 1 = h at *
  rcases Int.lt_or_le i 0 with h1 | h1
  · go_quiet (fail)
    go_wp2_with fail
    have hf := seen_fin (HR.out.drewN nq) (own_drewN HO.out nq) (grown_drewN HG.out nq) HNE.out HH.out (.int .u64 0) (.int .u64 0) (.int .u64 0) (.int .u64 0) (.bool false)
    exact bodyPost_ret (v := .tuple #[.agg #[.int .u64 0, .int .u64 0, .int .u64 0, .int .u64 0, .bool false], .int .i64 2]) (hf.1.results2 rfl Tryd.isAgg81 Tryd.sizeOf81 rfl rfl) rfl ⟨rfl, hf.2.1, hf.2.2⟩
  · have h2 : (l.length : Int) ≤ i := by have := HI.out; omega
    go_quiet (fail)
    go_wp2_with fail
    have hf := seen_fin (HR.out.drewN nq) (own_drewN HO.out nq) (grown_drewN HG.out nq) HNE.out HH.out (.int .u64 0) (.int .u64 0) (.int .u64 0) (.int .u64 0) (.bool false)
    exact bodyPost_ret (v := .tuple #[.agg #[.int .u64 0, .int .u64 0, .int .u64 0, .int .u64 0, .bool false], .int .i64 2]) (hf.1.results2 rfl Tryd.isAgg81 Tryd.sizeOf81 rfl rfl) rfl ⟨rfl, hf.2.1, hf.2.2⟩

end Go.Proofs.YtecjbgddjejjdaaDoor
