/- The walk of PostAnnounces. -/
import Derived.Test.YtecjbgddjejjdaaDoorAnnR
namespace Go.Proofs.YtecjbgddjejjdaaDoor
open Go.RowKit


set_option maxRecDepth 100000 in
set_option maxHeartbeats 6400000 in
theorem ann_walk (c : Cfg) (t : Int) (s k a b x : Nat) (w : World) (hk : k < 256) (ha : a < 4294967296) (hb : b < 4294967296) (hx : x < 4294967296) (hmo : 0 ≤ c.most) (hp : Pw w) (hO : Ob w) (hW : Wr w) :
    Calls Tryd.prog 3 #[.agg #[.int .u8 c.ob, .int .i64 c.inst, .int .i64 c.thr, .int .u8 c.kd, .int .i64 c.str, .int .i64 c.bits, .int .i64 c.cap, .int .i64 c.node, .int .i64 c.bat, .int .i64 c.chk, .int .u64 c.lim, .int .u64 c.most], .int .i64 t, .int .u64 s, .agg #[.int .u8 k, .int .u32 a, .int .u32 b, .int .u32 x]] w fun e w' => e = .returned (.bool true) ∧ Below w.heap.size w w' := by
  have HMO := Lib.hid hmo; have HP := Lib.hid hp; have HOB := Lib.hid hO; have HWR := Lib.hid hW; have HH := Lib.hid (And.intro hk (And.intro ha (And.intro hb hx)))
  clear hmo hk ha hb hx hp hO hW
  go_enter Tryd.func3, Tryd.ntmps3
  go_wp2_with fail
  have HX := Lib.hid ((Box.new w 24 (cfgL c)).alloc (.cells #[.int .u8 k, .int .u32 a, .int .u32 b, .int .u32 x] 27))
  have hq := Box.new (w.alloc (.cells ⟨cfgL c⟩ 24)) 27 [.int .u8 k, .int .u32 a, .int .u32 b, .int .u32 x]
  have HB := Lib.hid (moreB (newB w (.cells ⟨cfgL c⟩ 24)) (.cells #[.int .u8 k, .int .u32 a, .int .u32 b, .int .u32 x] 27))
  simp only [World.size_alloc] at hq
  have HQ := Lib.hid hq
  clear hq
  unfold cfgL at *
  generalize (w.alloc _).alloc _ = V at *
  refine (Ann_any c t s k a b x V HH.out.1 HH.out.2.1 HH.out.2.2.1 HH.out.2.2.2 (HP.out.more HB.out) (HOB.out.more HB.out) (HWR.out.more HB.out)).mono ?_
  rintro e w1 ⟨rfl, hb⟩
  generalize hq1 : annA c t s k a b x = p
  generalize hq2 : annE c t s k a b x = E
  have HQ1 := Lib.hid hq1; have HQ2 := Lib.hid hq2
  clear hq1 hq2
  rw [accV_form]
  have HQ := Lib.hid (HQ.out.below hb)
  have HB := Lib.hid (keepB hb HB.out); have HX := Lib.hid (HX.out.below hb); clear hb
  have x0 := fun o => (HX.out.alloc o).c 0 rfl; have x1 := fun o => (HX.out.alloc o).c 1 rfl; have x2 := fun o => (HX.out.alloc o).c 2 rfl; have x3 := fun o => (HX.out.alloc o).c 3 rfl; have x4 := fun o => (HX.out.alloc o).c 4 rfl; have x5 := fun o => (HX.out.alloc o).c 5 rfl; have x6 := fun o => (HX.out.alloc o).c 6 rfl; have x7 := fun o => (HX.out.alloc o).c 7 rfl; have x8 := fun o => (HX.out.alloc o).c 8 rfl; have x9 := fun o => (HX.out.alloc o).c 9 rfl; have x10 := fun o => (HX.out.alloc o).c 10 rfl; have x11 := fun o => (HX.out.alloc o).c 11 rfl
  have q0 := fun o => (HQ.out.alloc o).c 0 rfl
  have q1 := fun o => (HQ.out.alloc o).c 1 rfl
  have q2 := fun o => (HQ.out.alloc o).c 2 rfl
  have q3 := fun o => (HQ.out.alloc o).c 3 rfl
  go_wp2_with fail
  refine (rAnn_any c t s k a b x _ HH.out.1 HH.out.2.1 HH.out.2.2.1 HH.out.2.2.2 HMO.out).mono ?_
  rintro e w2 ⟨rfl, hb⟩
  rw [HQ1.out, HQ2.out, accV_form]
  have HA := Lib.hid ((Box.new w1 31 [.int .u8 p.k, .int .i64 p.at', .int .u64 p.old.t, .int .u64 p.old.a, .int .u64 p.old.b, .int .u64 p.old.c, .int .u64 p.new.t, .int .u64 p.new.a, .int .u64 p.new.b, .int .u64 p.new.c]).below hb)
  have HB := Lib.hid (keepB hb (moreB HB.out _))
  clear x0 x1 x2 x3 x4 x5 x6 x7 x8 x9 x10 x11
  clear q0 q1 q2 q3 hb
  have a0 := fun o => (HA.out.alloc o).c 0 rfl
  have a1 := fun o => (HA.out.alloc o).c 1 rfl
  have a2 := fun o => (HA.out.alloc o).c 2 rfl
  have a3 := fun o => (HA.out.alloc o).c 3 rfl
  have a4 := fun o => (HA.out.alloc o).c 4 rfl
  have a5 := fun o => (HA.out.alloc o).c 5 rfl
  have a6 := fun o => (HA.out.alloc o).c 6 rfl
  have a7 := fun o => (HA.out.alloc o).c 7 rfl
  have a8 := fun o => (HA.out.alloc o).c 8 rfl
  have a9 := fun o => (HA.out.alloc o).c 9 rfl
  go_wp2_with fail
  go_ret
  exact ⟨rfl, moreB HB.out _⟩

set_option linter.unusedVariables false in
theorem walk_PostAnnounces (n0_0 n0_1 n0_2 n0_3 n0_4 n0_5 n0_6 n0_7 n0_8 n0_9 n0_10 n0_11 n1 n2 n3_0 n3_1 n3_2 n3_3 : Int) (w : World) (b0_0 : IntKind.u8.min ≤ n0_0 ∧ n0_0 ≤ IntKind.u8.max) (b0_1 : IntKind.i64.min ≤ n0_1 ∧ n0_1 ≤ IntKind.i64.max) (b0_2 : IntKind.i64.min ≤ n0_2 ∧ n0_2 ≤ IntKind.i64.max) (b0_3 : IntKind.u8.min ≤ n0_3 ∧ n0_3 ≤ IntKind.u8.max) (b0_4 : IntKind.i64.min ≤ n0_4 ∧ n0_4 ≤ IntKind.i64.max) (b0_5 : IntKind.i64.min ≤ n0_5 ∧ n0_5 ≤ IntKind.i64.max) (b0_6 : IntKind.i64.min ≤ n0_6 ∧ n0_6 ≤ IntKind.i64.max) (b0_7 : IntKind.i64.min ≤ n0_7 ∧ n0_7 ≤ IntKind.i64.max) (b0_8 : IntKind.i64.min ≤ n0_8 ∧ n0_8 ≤ IntKind.i64.max) (b0_9 : IntKind.i64.min ≤ n0_9 ∧ n0_9 ≤ IntKind.i64.max) (b0_10 : IntKind.u64.min ≤ n0_10 ∧ n0_10 ≤ IntKind.u64.max) (b0_11 : IntKind.u64.min ≤ n0_11 ∧ n0_11 ≤ IntKind.u64.max) (b1 : IntKind.i64.min ≤ n1 ∧ n1 ≤ IntKind.i64.max) (b2 : IntKind.u64.min ≤ n2 ∧ n2 ≤ IntKind.u64.max) (b3_0 : IntKind.u8.min ≤ n3_0 ∧ n3_0 ≤ IntKind.u8.max) (b3_1 : IntKind.u32.min ≤ n3_1 ∧ n3_1 ≤ IntKind.u32.max) (b3_2 : IntKind.u32.min ≤ n3_2 ∧ n3_2 ≤ IntKind.u32.max) (b3_3 : IntKind.u32.min ≤ n3_3 ∧ n3_3 ≤ IntKind.u32.max) (hL : Pw w ∧ Ob w ∧ Wr w) :
    Calls Tryd.prog 3 #[.agg #[.int .u8 n0_0, .int .i64 n0_1, .int .i64 n0_2, .int .u8 n0_3, .int .i64 n0_4, .int .i64 n0_5, .int .i64 n0_6, .int .i64 n0_7, .int .i64 n0_8, .int .i64 n0_9, .int .u64 n0_10, .int .u64 n0_11], .int .i64 n1, .int .u64 n2, .agg #[.int .u8 n3_0, .int .u32 n3_1, .int .u32 n3_2, .int .u32 n3_3]] w fun e w' => e = .returned (.bool true) ∧ Below w.heap.size w w' := by
  simp [IntKind.min, IntKind.max, IntKind.signed, IntKind.bits] at b0_11 b2 b3_0 b3_1 b3_2 b3_3
  obtain ⟨s, rfl⟩ := Int.eq_ofNat_of_zero_le b2.1
  obtain ⟨k, rfl⟩ := Int.eq_ofNat_of_zero_le b3_0.1
  obtain ⟨a, rfl⟩ := Int.eq_ofNat_of_zero_le b3_1.1
  obtain ⟨b, rfl⟩ := Int.eq_ofNat_of_zero_le b3_2.1
  obtain ⟨x, rfl⟩ := Int.eq_ofNat_of_zero_le b3_3.1
  exact ann_walk ⟨n0_0, n0_1, n0_2, n0_3, n0_4, n0_5, n0_6, n0_7, n0_8, n0_9, n0_10, n0_11⟩ n1 s k a b x w (by omega) (by omega) (by omega) (by omega) b0_11.1 hL.1 hL.2.1 hL.2.2

end Go.Proofs.YtecjbgddjejjdaaDoor
