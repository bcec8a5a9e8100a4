/- The walk of PartStands. -/
import Derived.Test.YtoamhkgnnjoaaaaDoorPartN
namespace Go.Proofs.YtoamhkgnnjoaaaaDoor
open Go.RowKit


theorem plR_form (p : Pl) (e : Int) : plR p e = .tuple #[.agg #[.int .u8 p.k, .int .i64 p.a, .int .i64 p.b], .int .i64 e] := rfl

set_option maxHeartbeats 3200000 in
theorem stands_walk (c : Cfg) (k a b i : Int) (w : World) (hk : 0 ≤ c.most) (hk0 : 0 ≤ k) (hp : Pw w) :
    Calls Tryd.prog 5 #[.agg #[.int .u8 c.ob, .int .i64 c.inst, .int .i64 c.thr, .int .u8 c.kd, .int .i64 c.str, .int .i64 c.bits, .int .i64 c.cap, .int .i64 c.node, .int .i64 c.bat, .int .i64 c.chk, .int .u64 c.lim, .int .u64 c.most], .agg #[.int .u8 k, .int .i64 a, .int .i64 b], .int .i64 i] w fun e w' => e = .returned (.bool true) ∧ Below w.heap.size w w' := by
  have HK := Lib.hid hk; have HK0 := Lib.hid hk0; have HP := Lib.hid hp
  clear hk hk0 hp
  go_enter Tryd.func5, Tryd.ntmps5
  go_wp2_with fail
  have hx := (Box.new w 24 (cfgL c)).alloc (.cells #[.int .u8 k, .int .i64 a, .int .i64 b] 48)
  have hq := Box.new (w.alloc (.cells ⟨cfgL c⟩ 24)) 48 [.int .u8 k, .int .i64 a, .int .i64 b]
  have HB := Lib.hid (moreB (newB w (.cells ⟨cfgL c⟩ 24)) (.cells #[.int .u8 k, .int .i64 a, .int .i64 b] 48))
  rw [World.size_alloc] at hq
  unfold cfgL at *
  generalize (w.alloc _).alloc _ = V at *
  have HX := Lib.hid hx; have HQ := Lib.hid hq
  clear hx hq
  refine (At_any c k a b V (HP.out.more HB.out) HK0.out).mono ?_
  rintro e w1 ⟨rfl, hb⟩
  have HB := Lib.hid (keepB hb HB.out); have HX := Lib.hid (HX.out.below hb); have HQ := Lib.hid (HQ.out.below hb)
  have x0 := HX.out.c 0 rfl
  have x1 := HX.out.c 1 rfl
  have x2 := HX.out.c 2 rfl
  have x3 := HX.out.c 3 rfl
  have x4 := HX.out.c 4 rfl
  have x5 := HX.out.c 5 rfl
  have x6 := HX.out.c 6 rfl
  have x7 := HX.out.c 7 rfl
  have x8 := HX.out.c 8 rfl
  have x9 := HX.out.c 9 rfl
  have x10 := HX.out.c 10 rfl
  have x11 := HX.out.c 11 rfl
  have p0 := HQ.out.c 0 rfl
  have p1 := HQ.out.c 1 rfl
  have p2 := HQ.out.c 2 rfl
  clear hb
  go_wp2_with fail
  refine (rAt_any c k a b _ HK.out HK0.out).mono ?_
  rintro e w2 ⟨rfl, hb⟩
  have HB := Lib.hid (keepB hb HB.out); have HX := Lib.hid (HX.out.below hb)
  clear x0 x1 x2 x3 x4 x5 x6 x7 x8 x9 x10 x11 p0 p1 p2 hb HQ
  have x0 := HX.out.c 0 rfl
  have x1 := HX.out.c 1 rfl
  have x2 := HX.out.c 2 rfl
  have x3 := HX.out.c 3 rfl
  have x4 := HX.out.c 4 rfl
  have x5 := HX.out.c 5 rfl
  have x6 := HX.out.c 6 rfl
  have x7 := HX.out.c 7 rfl
  have x8 := HX.out.c 8 rfl
  have x9 := HX.out.c 9 rfl
  have x10 := HX.out.c 10 rfl
  have x11 := HX.out.c 11 rfl
  generalize atV c k a b = v1
  generalize atE c k a b = v2
  go_wp2_with fail
  refine (What_any c i _ (HP.out.more HB.out)).mono ?_
  rintro e w3 ⟨rfl, hb⟩
  have HB := Lib.hid (keepB hb HB.out); have HX := Lib.hid (HX.out.below hb)
  clear x0 x1 x2 x3 x4 x5 x6 x7 x8 x9 x10 x11 hb
  have x0 := fun o => (HX.out.alloc o).c 0 rfl
  have x1 := fun o => (HX.out.alloc o).c 1 rfl
  have x2 := fun o => (HX.out.alloc o).c 2 rfl
  have x3 := fun o => (HX.out.alloc o).c 3 rfl
  have x4 := fun o => (HX.out.alloc o).c 4 rfl
  have x5 := fun o => (HX.out.alloc o).c 5 rfl
  have x6 := fun o => (HX.out.alloc o).c 6 rfl
  have x7 := fun o => (HX.out.alloc o).c 7 rfl
  have x8 := fun o => (HX.out.alloc o).c 8 rfl
  have x9 := fun o => (HX.out.alloc o).c 9 rfl
  have x10 := fun o => (HX.out.alloc o).c 10 rfl
  have x11 := fun o => (HX.out.alloc o).c 11 rfl
  generalize hP : whatP c i = q
  generalize hE : whatE c i = v3
  have HPP := Lib.hid hP; have HEE := Lib.hid hE
  clear hP hE
  rw [plR_form]
  go_wp2_with fail
  refine (rWhat_any c i _ HK.out).mono ?_
  rintro e w4 ⟨rfl, hb⟩
  rw [HPP.out, HEE.out, plR_form]
  have HB := Lib.hid (keepB hb (moreB HB.out _))
  have hy := ((Box.new w3 48 [.int .u8 q.k, .int .i64 q.a, .int .i64 q.b]).below hb)
  clear x0 x1 x2 x3 x4 x5 x6 x7 x8 x9 x10 x11 hb
  have y0 := fun o => (hy.alloc o).c 0 rfl
  have y1 := fun o => (hy.alloc o).c 1 rfl
  have y2 := fun o => (hy.alloc o).c 2 rfl
  clear hy
  go_wp2_with fail
  go_ret
  exact ⟨rfl, moreB HB.out _⟩

set_option linter.unusedVariables false in
theorem walk_PartStands (n0_0 n0_1 n0_2 n0_3 n0_4 n0_5 n0_6 n0_7 n0_8 n0_9 n0_10 n0_11 n1_0 n1_1 n1_2 n2 : Int) (w : World) (b0_0 : IntKind.u8.min ≤ n0_0 ∧ n0_0 ≤ IntKind.u8.max) (b0_1 : IntKind.i64.min ≤ n0_1 ∧ n0_1 ≤ IntKind.i64.max) (b0_2 : IntKind.i64.min ≤ n0_2 ∧ n0_2 ≤ IntKind.i64.max) (b0_3 : IntKind.u8.min ≤ n0_3 ∧ n0_3 ≤ IntKind.u8.max) (b0_4 : IntKind.i64.min ≤ n0_4 ∧ n0_4 ≤ IntKind.i64.max) (b0_5 : IntKind.i64.min ≤ n0_5 ∧ n0_5 ≤ IntKind.i64.max) (b0_6 : IntKind.i64.min ≤ n0_6 ∧ n0_6 ≤ IntKind.i64.max) (b0_7 : IntKind.i64.min ≤ n0_7 ∧ n0_7 ≤ IntKind.i64.max) (b0_8 : IntKind.i64.min ≤ n0_8 ∧ n0_8 ≤ IntKind.i64.max) (b0_9 : IntKind.i64.min ≤ n0_9 ∧ n0_9 ≤ IntKind.i64.max) (b0_10 : IntKind.u64.min ≤ n0_10 ∧ n0_10 ≤ IntKind.u64.max) (b0_11 : IntKind.u64.min ≤ n0_11 ∧ n0_11 ≤ IntKind.u64.max) (b1_0 : IntKind.u8.min ≤ n1_0 ∧ n1_0 ≤ IntKind.u8.max) (b1_1 : IntKind.i64.min ≤ n1_1 ∧ n1_1 ≤ IntKind.i64.max) (b1_2 : IntKind.i64.min ≤ n1_2 ∧ n1_2 ≤ IntKind.i64.max) (b2 : IntKind.i64.min ≤ n2 ∧ n2 ≤ IntKind.i64.max) (hp : Pw w) :
    Calls Tryd.prog 5 #[.agg #[.int .u8 n0_0, .int .i64 n0_1, .int .i64 n0_2, .int .u8 n0_3, .int .i64 n0_4, .int .i64 n0_5, .int .i64 n0_6, .int .i64 n0_7, .int .i64 n0_8, .int .i64 n0_9, .int .u64 n0_10, .int .u64 n0_11], .agg #[.int .u8 n1_0, .int .i64 n1_1, .int .i64 n1_2], .int .i64 n2] w fun e w' => e = .returned (.bool true) ∧ Below w.heap.size w w' := by
  simp [IntKind.min, IntKind.max, IntKind.signed, IntKind.bits] at b0_11 b1_0
  exact stands_walk ⟨n0_0, n0_1, n0_2, n0_3, n0_4, n0_5, n0_6, n0_7, n0_8, n0_9, n0_10, n0_11⟩ n1_0 n1_1 n1_2 n2 w b0_11.1 b1_0.1 hp

end Go.Proofs.YtoamhkgnnjoaaaaDoor
