/- Chapter 19: Arrive, Depart, Look. -/
import Derived.Test.YtecjbgddjejjdaaMarkB
namespace Go.Proofs.Ytecjbgddjejjdaa
open Go.RowKit

theorem accV_form (x : Acc) : accV x = .agg #[.int .u8 x.k, .int .i64 x.at', .int .u64 x.old.t, .int .u64 x.old.a, .int .u64 x.old.b, .int .u64 x.old.c, .int .u64 x.new.t, .int .u64 x.new.a, .int .u64 x.new.b, .int .u64 x.new.c] := rfl
def accArr : Acc := ⟨2, 0, ⟨0, 0, 0, 0⟩, ⟨0, 1, 0, 0⟩⟩
def accDep : Acc := ⟨2, 0, ⟨0, 0, 0, 0⟩, ⟨0, 0, 0, 0⟩⟩
def accLook : Acc := ⟨1, 0, ⟨0, 0, 0, 0⟩, ⟨0, 0, 0, 0⟩⟩

set_option maxRecDepth 100000 in
set_option maxHeartbeats 1600000 in
theorem mArrive_any (c : Cfg) (v t : Int) (w : World) (hp : PwO c w) : Calls Try.prog 77 #[.agg #[.int .u8 c.ob, .int .i64 c.inst, .int .i64 c.thr, .int .u8 c.kd, .int .i64 c.str, .int .i64 c.bits, .int .i64 c.cap, .int .i64 c.node, .int .i64 c.bat, .int .i64 c.chk, .int .u64 c.lim, .int .u64 c.most], .int .i64 v, .int .i64 t] w fun e w' => e = .returned (.tuple #[accV (mkA c v t accArr), .int .i64 (mkE c v t)]) ∧ Below w.heap.size w w' := by
  have HP := Lib.hid hp
  clear hp
  go_enter Try.func77, Try.ntmps77
  go_wp2_with fail
  have HR := Lib.hid (Box.new (w.alloc (.cells ⟨cfgL c⟩ 37)) 39 [.int .u8 0, .int .i64 0, .int .u64 0, .int .u64 0, .int .u64 0, .int .u64 0, .int .u64 0, .int .u64 0, .int .u64 0, .int .u64 0])
  have HB := Lib.hid (moreB (newB w (.cells ⟨cfgL c⟩ 37)) (.cells ⟨[.int .u8 0, .int .i64 0, .int .u64 0, .int .u64 0, .int .u64 0, .int .u64 0, .int .u64 0, .int .u64 0, .int .u64 0, .int .u64 0]⟩ 39))
  rw [World.size_alloc] at HR
  unfold cfgL at *
  generalize (w.alloc _).alloc _ = V at *
  refine (markAt_any c v t accArr V (HP.out.more HB.out)).mono ?_
  rintro e w1 ⟨rfl, hb⟩
  have HR := Lib.hid (HR.out.below hb)
  have HB := Lib.hid (keepB hb HB.out)
  clear hb
  generalize hY : mkA c v t accArr = y
  generalize hE : mkE c v t = E
  have HY := Lib.hid hY; have HE := Lib.hid hE
  clear hY hE
  rw [accV_form]
  have hr := HR.out
  have r0 := hr.c 0 rfl
  have r1 := hr.c 1 rfl
  have r2 := hr.c 2 rfl
  have r3 := hr.c 3 rfl
  have r4 := hr.c 4 rfl
  have r5 := hr.c 5 rfl
  have r6 := hr.c 6 rfl
  have r7 := hr.c 7 rfl
  have r8 := hr.c 8 rfl
  have r9 := hr.c 9 rfl
  have g0 := hr.f 0
  have g1 := hr.f 1
  have g2 := hr.f 2
  have g3 := hr.f 3
  have g4 := hr.f 4
  have g5 := hr.f 5
  have g6 := hr.f 6
  have g7 := hr.f 7
  have g8 := hr.f 8
  have g9 := hr.f 9
  clear hr
  go_wp2_with fail
  refine bodyPost_ret (v := .tuple #[.agg ⟨[.int .u8 y.k, .int .i64 y.at', .int .u64 y.old.t, .int .u64 y.old.a, .int .u64 y.old.b, .int .u64 y.old.c, .int .u64 y.new.t, .int .u64 y.new.a, .int .u64 y.new.b, .int .u64 y.new.c]⟩, .int .i64 E]) ?_ rfl ⟨by rw [HY.out, HE.out]; rfl, below_acc HB.out (by omega) _ _ _ _ _ _ _ _ _ _⟩
  exact (HR.out.acc _ _ _ _ _ _ _ _ _ _).results2 (t := 39) rfl (fun _ => by kernel_rfl) (fun _ => by kernel_rfl) rfl rfl

set_option maxRecDepth 100000 in
set_option maxHeartbeats 1600000 in
theorem mDepart_any (c : Cfg) (v t : Int) (w : World) (hp : PwO c w) : Calls Try.prog 78 #[.agg #[.int .u8 c.ob, .int .i64 c.inst, .int .i64 c.thr, .int .u8 c.kd, .int .i64 c.str, .int .i64 c.bits, .int .i64 c.cap, .int .i64 c.node, .int .i64 c.bat, .int .i64 c.chk, .int .u64 c.lim, .int .u64 c.most], .int .i64 v, .int .i64 t] w fun e w' => e = .returned (.tuple #[accV (mkA c v t accDep), .int .i64 (mkE c v t)]) ∧ Below w.heap.size w w' := by
  have HP := Lib.hid hp
  clear hp
  go_enter Try.func78, Try.ntmps78
  go_wp2_with fail
  have HR := Lib.hid (Box.new (w.alloc (.cells ⟨cfgL c⟩ 37)) 39 [.int .u8 0, .int .i64 0, .int .u64 0, .int .u64 0, .int .u64 0, .int .u64 0, .int .u64 0, .int .u64 0, .int .u64 0, .int .u64 0])
  have HB := Lib.hid (moreB (newB w (.cells ⟨cfgL c⟩ 37)) (.cells ⟨[.int .u8 0, .int .i64 0, .int .u64 0, .int .u64 0, .int .u64 0, .int .u64 0, .int .u64 0, .int .u64 0, .int .u64 0, .int .u64 0]⟩ 39))
  rw [World.size_alloc] at HR
  unfold cfgL at *
  generalize (w.alloc _).alloc _ = V at *
  refine (markAt_any c v t accDep V (HP.out.more HB.out)).mono ?_
  rintro e w1 ⟨rfl, hb⟩
  have HR := Lib.hid (HR.out.below hb)
  have HB := Lib.hid (keepB hb HB.out)
  clear hb
  generalize hY : mkA c v t accDep = y
  generalize hE : mkE c v t = E
  have HY := Lib.hid hY; have HE := Lib.hid hE
  clear hY hE
  rw [accV_form]
  have hr := HR.out
  have r0 := hr.c 0 rfl
  have r1 := hr.c 1 rfl
  have r2 := hr.c 2 rfl
  have r3 := hr.c 3 rfl
  have r4 := hr.c 4 rfl
  have r5 := hr.c 5 rfl
  have r6 := hr.c 6 rfl
  have r7 := hr.c 7 rfl
  have r8 := hr.c 8 rfl
  have r9 := hr.c 9 rfl
  have g0 := hr.f 0
  have g1 := hr.f 1
  have g2 := hr.f 2
  have g3 := hr.f 3
  have g4 := hr.f 4
  have g5 := hr.f 5
  have g6 := hr.f 6
  have g7 := hr.f 7
  have g8 := hr.f 8
  have g9 := hr.f 9
  clear hr
  go_wp2_with fail
  refine bodyPost_ret (v := .tuple #[.agg ⟨[.int .u8 y.k, .int .i64 y.at', .int .u64 y.old.t, .int .u64 y.old.a, .int .u64 y.old.b, .int .u64 y.old.c, .int .u64 y.new.t, .int .u64 y.new.a, .int .u64 y.new.b, .int .u64 y.new.c]⟩, .int .i64 E]) ?_ rfl ⟨by rw [HY.out, HE.out]; rfl, below_acc HB.out (by omega) _ _ _ _ _ _ _ _ _ _⟩
  exact (HR.out.acc _ _ _ _ _ _ _ _ _ _).results2 (t := 39) rfl (fun _ => by kernel_rfl) (fun _ => by kernel_rfl) rfl rfl

set_option maxRecDepth 100000 in
set_option maxHeartbeats 1600000 in
theorem mLook_any (c : Cfg) (v tg t sm : Int) (w : World) (hp : PwO c w) : Calls Try.prog 79 #[.agg #[.int .u8 c.ob, .int .i64 c.inst, .int .i64 c.thr, .int .u8 c.kd, .int .i64 c.str, .int .i64 c.bits, .int .i64 c.cap, .int .i64 c.node, .int .i64 c.bat, .int .i64 c.chk, .int .u64 c.lim, .int .u64 c.most], .int .i64 v, .agg #[.int .u64 tg, .int .i64 t, .int .u64 sm]] w fun e w' => e = .returned (.tuple #[accV (mkA c v t accLook), .int .i64 (mkE c v t)]) ∧ Below w.heap.size w w' := by
  have HP := Lib.hid hp
  clear hp
  go_enter Try.func79, Try.ntmps79
  go_wp2_with fail
  have HR := Lib.hid (Box.new ((w.alloc (.cells ⟨cfgL c⟩ 37)).alloc (.cells #[.int .u64 tg, .int .i64 t, .int .u64 sm] 54)) 39 [.int .u8 0, .int .i64 0, .int .u64 0, .int .u64 0, .int .u64 0, .int .u64 0, .int .u64 0, .int .u64 0, .int .u64 0, .int .u64 0])
  have HB := Lib.hid (moreB (moreB (newB w (.cells ⟨cfgL c⟩ 37)) (.cells #[.int .u64 tg, .int .i64 t, .int .u64 sm] 54)) (.cells ⟨[.int .u8 0, .int .i64 0, .int .u64 0, .int .u64 0, .int .u64 0, .int .u64 0, .int .u64 0, .int .u64 0, .int .u64 0, .int .u64 0]⟩ 39))
  simp only [World.size_alloc] at HR
  unfold cfgL at *
  generalize ((w.alloc _).alloc _).alloc _ = V at *
  refine (markAt_any c v t accLook V (HP.out.more HB.out)).mono ?_
  rintro e w1 ⟨rfl, hb⟩
  have HR := Lib.hid (HR.out.below hb)
  have HB := Lib.hid (keepB hb HB.out)
  clear hb
  generalize hY : mkA c v t accLook = y
  generalize hE : mkE c v t = E
  have HY := Lib.hid hY; have HE := Lib.hid hE
  clear hY hE
  rw [accV_form]
  have hr := HR.out
  have r0 := hr.c 0 rfl
  have r1 := hr.c 1 rfl
  have r2 := hr.c 2 rfl
  have r3 := hr.c 3 rfl
  have r4 := hr.c 4 rfl
  have r5 := hr.c 5 rfl
  have r6 := hr.c 6 rfl
  have r7 := hr.c 7 rfl
  have r8 := hr.c 8 rfl
  have r9 := hr.c 9 rfl
  have g0 := hr.f 0
  have g1 := hr.f 1
  have g2 := hr.f 2
  have g3 := hr.f 3
  have g4 := hr.f 4
  have g5 := hr.f 5
  have g6 := hr.f 6
  have g7 := hr.f 7
  have g8 := hr.f 8
  have g9 := hr.f 9
  clear hr
  go_wp2_with fail
  refine bodyPost_ret (v := .tuple #[.agg ⟨[.int .u8 y.k, .int .i64 y.at', .int .u64 y.old.t, .int .u64 y.old.a, .int .u64 y.old.b, .int .u64 y.old.c, .int .u64 y.new.t, .int .u64 y.new.a, .int .u64 y.new.b, .int .u64 y.new.c]⟩, .int .i64 E]) ?_ rfl ⟨by rw [HY.out, HE.out]; rfl, below_acc HB.out (by omega) _ _ _ _ _ _ _ _ _ _⟩
  exact (HR.out.acc _ _ _ _ _ _ _ _ _ _).results2 (t := 39) rfl (fun _ => by kernel_rfl) (fun _ => by kernel_rfl) rfl rfl

theorem mkE_zero {c : Cfg} {v t : Int} (h : mkE c v t = 0) : (c.May ∧ c.kd = 1) ∧ 0 ≤ v ∧ v < 2 ∧ 0 ≤ t ∧ t < c.thr := by
  unfold mkE at h
  split at h
  · rename_i h1
    split at h
    · rename_i h2; exact ⟨h1, h2⟩
    · omega
  · omega

end Go.Proofs.Ytecjbgddjejjdaa
