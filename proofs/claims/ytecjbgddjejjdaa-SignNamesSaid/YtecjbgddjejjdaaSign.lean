/- Chapter 21: the methods of the two indicators. -/
import Derived.Test.YtecjbgddjejjdaaStripeE
import Derived.Test.YtecjbgddjejjdaaMarkE
namespace Go.Proofs.Ytecjbgddjejjdaa
open Go.RowKit

set_option maxRecDepth 100000 in
set_option maxHeartbeats 1600000 in
theorem marks_arrive (c : Cfg) (v t : Int) (w : World) (hp : PwO c w) : Calls Try.prog 71 #[.agg #[.int .u8 c.ob, .int .i64 c.inst, .int .i64 c.thr, .int .u8 c.kd, .int .i64 c.str, .int .i64 c.bits, .int .i64 c.cap, .int .i64 c.node, .int .i64 c.bat, .int .i64 c.chk, .int .u64 c.lim, .int .u64 c.most], .int .i64 v, .int .i64 t] w fun e w' => e = .returned (.tuple #[accV (mkA c v t accArr), .int .i64 (mkE c v t)]) ∧ Below w.heap.size w w' := by
  have HP := Lib.hid hp
  clear hp
  go_enter Try.func71, Try.ntmps71
  go_wp2_with fail
  have HR := Lib.hid (Box.new (w.alloc (.cells ⟨cfgL c⟩ 80)) 39 [.int .u8 0, .int .i64 0, .int .u64 0, .int .u64 0, .int .u64 0, .int .u64 0, .int .u64 0, .int .u64 0, .int .u64 0, .int .u64 0])
  have HB := Lib.hid (moreB (moreB (Below.refl w.heap.size w) (.cells ⟨cfgL c⟩ 80)) (.cells ⟨[.int .u8 0, .int .i64 0, .int .u64 0, .int .u64 0, .int .u64 0, .int .u64 0, .int .u64 0, .int .u64 0, .int .u64 0, .int .u64 0]⟩ 39))
  simp only [World.size_alloc] at HR
  unfold cfgL at *
  generalize (w.alloc _).alloc _ = V at *
  refine (mArrive_any c v t V (HP.out.more HB.out)).mono ?_
  rintro e w1 ⟨rfl, hb⟩
  have HR := Lib.hid (HR.out.below hb)
  have HB := Lib.hid (keepB hb HB.out)
  clear hb
  generalize hY : mkA c v t accArr = y
  generalize hE : mkE c v t = E
  have HY := Lib.hid hY; have HE := Lib.hid hE
  clear hY hE
  rw [accV_form]
  have hr := HR.out
  have r0 := hr.c 0 rfl
  have r1 := hr.c 1 rfl
  have r2 := hr.c 2 rfl
  have r3 := hr.c 3 rfl
  have r4 := hr.c 4 rfl
  have r5 := hr.c 5 rfl
  have r6 := hr.c 6 rfl
  have r7 := hr.c 7 rfl
  have r8 := hr.c 8 rfl
  have r9 := hr.c 9 rfl
  have g0 := hr.f 0
  have g1 := hr.f 1
  have g2 := hr.f 2
  have g3 := hr.f 3
  have g4 := hr.f 4
  have g5 := hr.f 5
  have g6 := hr.f 6
  have g7 := hr.f 7
  have g8 := hr.f 8
  have g9 := hr.f 9
  clear hr
  go_wp2_with fail
  refine bodyPost_ret (v := .tuple #[.agg ⟨[.int .u8 y.k, .int .i64 y.at', .int .u64 y.old.t, .int .u64 y.old.a, .int .u64 y.old.b, .int .u64 y.old.c, .int .u64 y.new.t, .int .u64 y.new.a, .int .u64 y.new.b, .int .u64 y.new.c]⟩, .int .i64 E]) ?_ rfl ⟨by first | (rw [HY.out, HE.out]; rfl) | rfl, below_acc HB.out (by omega) _ _ _ _ _ _ _ _ _ _⟩
  exact (HR.out.acc _ _ _ _ _ _ _ _ _ _).results2 (t := 39) rfl (fun _ => by kernel_rfl) (fun _ => by kernel_rfl) rfl rfl

set_option maxRecDepth 100000 in
set_option maxHeartbeats 1600000 in
theorem marks_depart (c : Cfg) (v t : Int) (w : World) (hp : PwO c w) : Calls Try.prog 72 #[.agg #[.int .u8 c.ob, .int .i64 c.inst, .int .i64 c.thr, .int .u8 c.kd, .int .i64 c.str, .int .i64 c.bits, .int .i64 c.cap, .int .i64 c.node, .int .i64 c.bat, .int .i64 c.chk, .int .u64 c.lim, .int .u64 c.most], .int .i64 v, .int .i64 t] w fun e w' => e = .returned (.tuple #[accV (mkA c v t accDep), .int .i64 (mkE c v t)]) ∧ Below w.heap.size w w' := by
  have HP := Lib.hid hp
  clear hp
  go_enter Try.func72, Try.ntmps72
  go_wp2_with fail
  have HR := Lib.hid (Box.new (w.alloc (.cells ⟨cfgL c⟩ 80)) 39 [.int .u8 0, .int .i64 0, .int .u64 0, .int .u64 0, .int .u64 0, .int .u64 0, .int .u64 0, .int .u64 0, .int .u64 0, .int .u64 0])
  have HB := Lib.hid (moreB (moreB (Below.refl w.heap.size w) (.cells ⟨cfgL c⟩ 80)) (.cells ⟨[.int .u8 0, .int .i64 0, .int .u64 0, .int .u64 0, .int .u64 0, .int .u64 0, .int .u64 0, .int .u64 0, .int .u64 0, .int .u64 0]⟩ 39))
  simp only [World.size_alloc] at HR
  unfold cfgL at *
  generalize (w.alloc _).alloc _ = V at *
  refine (mDepart_any c v t V (HP.out.more HB.out)).mono ?_
  rintro e w1 ⟨rfl, hb⟩
  have HR := Lib.hid (HR.out.below hb)
  have HB := Lib.hid (keepB hb HB.out)
  clear hb
  generalize hY : mkA c v t accDep = y
  generalize hE : mkE c v t = E
  have HY := Lib.hid hY; have HE := Lib.hid hE
  clear hY hE
  rw [accV_form]
  have hr := HR.out
  have r0 := hr.c 0 rfl
  have r1 := hr.c 1 rfl
  have r2 := hr.c 2 rfl
  have r3 := hr.c 3 rfl
  have r4 := hr.c 4 rfl
  have r5 := hr.c 5 rfl
  have r6 := hr.c 6 rfl
  have r7 := hr.c 7 rfl
  have r8 := hr.c 8 rfl
  have r9 := hr.c 9 rfl
  have g0 := hr.f 0
  have g1 := hr.f 1
  have g2 := hr.f 2
  have g3 := hr.f 3
  have g4 := hr.f 4
  have g5 := hr.f 5
  have g6 := hr.f 6
  have g7 := hr.f 7
  have g8 := hr.f 8
  have g9 := hr.f 9
  clear hr
  go_wp2_with fail
  refine bodyPost_ret (v := .tuple #[.agg ⟨[.int .u8 y.k, .int .i64 y.at', .int .u64 y.old.t, .int .u64 y.old.a, .int .u64 y.old.b, .int .u64 y.old.c, .int .u64 y.new.t, .int .u64 y.new.a, .int .u64 y.new.b, .int .u64 y.new.c]⟩, .int .i64 E]) ?_ rfl ⟨by first | (rw [HY.out, HE.out]; rfl) | rfl, below_acc HB.out (by omega) _ _ _ _ _ _ _ _ _ _⟩
  exact (HR.out.acc _ _ _ _ _ _ _ _ _ _).results2 (t := 39) rfl (fun _ => by kernel_rfl) (fun _ => by kernel_rfl) rfl rfl

set_option maxRecDepth 100000 in
set_option maxHeartbeats 1600000 in
theorem marks_look (c : Cfg) (v tg i sm : Int) (w : World) (hp : PwO c w) : Calls Try.prog 74 #[.agg #[.int .u8 c.ob, .int .i64 c.inst, .int .i64 c.thr, .int .u8 c.kd, .int .i64 c.str, .int .i64 c.bits, .int .i64 c.cap, .int .i64 c.node, .int .i64 c.bat, .int .i64 c.chk, .int .u64 c.lim, .int .u64 c.most], .int .i64 v, .agg #[.int .u64 tg, .int .i64 i, .int .u64 sm]] w fun e w' => e = .returned (.tuple #[accV (mkA c v i accLook), .int .i64 (mkE c v i)]) ∧ Below w.heap.size w w' := by
  have HP := Lib.hid hp
  clear hp
  go_enter Try.func74, Try.ntmps74
  go_wp2_with fail
  have HR := Lib.hid (Box.new ((w.alloc (.cells ⟨cfgL c⟩ 80)).alloc (.cells #[.int .u64 tg, .int .i64 i, .int .u64 sm] 54)) 39 [.int .u8 0, .int .i64 0, .int .u64 0, .int .u64 0, .int .u64 0, .int .u64 0, .int .u64 0, .int .u64 0, .int .u64 0, .int .u64 0])
  have HB := Lib.hid (moreB (moreB (moreB (Below.refl w.heap.size w) (.cells ⟨cfgL c⟩ 80)) (.cells #[.int .u64 tg, .int .i64 i, .int .u64 sm] 54)) (.cells ⟨[.int .u8 0, .int .i64 0, .int .u64 0, .int .u64 0, .int .u64 0, .int .u64 0, .int .u64 0, .int .u64 0, .int .u64 0, .int .u64 0]⟩ 39))
  simp only [World.size_alloc] at HR
  unfold cfgL at *
  generalize ((w.alloc _).alloc _).alloc _ = V at *
  refine (mLook_any c v tg i sm V (HP.out.more HB.out)).mono ?_
  rintro e w1 ⟨rfl, hb⟩
  have HR := Lib.hid (HR.out.below hb)
  have HB := Lib.hid (keepB hb HB.out)
  clear hb
  generalize hY : mkA c v i accLook = y
  generalize hE : mkE c v i = E
  have HY := Lib.hid hY; have HE := Lib.hid hE
  clear hY hE
  rw [accV_form]
  have hr := HR.out
  have r0 := hr.c 0 rfl
  have r1 := hr.c 1 rfl
  have r2 := hr.c 2 rfl
  have r3 := hr.c 3 rfl
  have r4 := hr.c 4 rfl
  have r5 := hr.c 5 rfl
  have r6 := hr.c 6 rfl
  have r7 := hr.c 7 rfl
  have r8 := hr.c 8 rfl
  have r9 := hr.c 9 rfl
  have g0 := hr.f 0
  have g1 := hr.f 1
  have g2 := hr.f 2
  have g3 := hr.f 3
  have g4 := hr.f 4
  have g5 := hr.f 5
  have g6 := hr.f 6
  have g7 := hr.f 7
  have g8 := hr.f 8
  have g9 := hr.f 9
  clear hr
  go_wp2_with fail
  refine bodyPost_ret (v := .tuple #[.agg ⟨[.int .u8 y.k, .int .i64 y.at', .int .u64 y.old.t, .int .u64 y.old.a, .int .u64 y.old.b, .int .u64 y.old.c, .int .u64 y.new.t, .int .u64 y.new.a, .int .u64 y.new.b, .int .u64 y.new.c]⟩, .int .i64 E]) ?_ rfl ⟨by first | (rw [HY.out, HE.out]; rfl) | rfl, below_acc HB.out (by omega) _ _ _ _ _ _ _ _ _ _⟩
  exact (HR.out.acc _ _ _ _ _ _ _ _ _ _).results2 (t := 39) rfl (fun _ => by kernel_rfl) (fun _ => by kernel_rfl) rfl rfl

set_option maxRecDepth 100000 in
set_option maxHeartbeats 1600000 in
theorem marks_seen (c : Cfg) (tg i sm l0 la l2 l3 : Int) (na nn ns : Int) (em : Bool) (er : Int) (w : World) (hh : seenR c tg i la = .tuple #[.agg #[.int .u64 na, .int .i64 nn, .int .u64 ns], .bool em, .int .i64 er]) : Calls Try.prog 76 #[.agg #[.int .u8 c.ob, .int .i64 c.inst, .int .i64 c.thr, .int .u8 c.kd, .int .i64 c.str, .int .i64 c.bits, .int .i64 c.cap, .int .i64 c.node, .int .i64 c.bat, .int .i64 c.chk, .int .u64 c.lim, .int .u64 c.most], .agg #[.int .u64 tg, .int .i64 i, .int .u64 sm], .agg #[.int .u64 l0, .int .u64 la, .int .u64 l2, .int .u64 l3]] w fun e w' => e = .returned (.tuple #[.agg #[.int .u64 na, .int .i64 nn, .int .u64 ns], .bool em, .int .i64 er]) ∧ Below w.heap.size w w' := by
  have HH := Lib.hid hh
  clear hh
  go_enter Try.func76, Try.ntmps76
  go_wp2_with fail
  have HR := Lib.hid (Box.new (((w.alloc (.cells ⟨cfgL c⟩ 80)).alloc (.cells #[.int .u64 tg, .int .i64 i, .int .u64 sm] 54)).alloc (.cells #[.int .u64 l0, .int .u64 la, .int .u64 l2, .int .u64 l3] 29)) 54 [.int .u64 0, .int .i64 0, .int .u64 0])
  have HB := Lib.hid (moreB (moreB (moreB (moreB (Below.refl w.heap.size w) (.cells ⟨cfgL c⟩ 80)) (.cells #[.int .u64 tg, .int .i64 i, .int .u64 sm] 54)) (.cells #[.int .u64 l0, .int .u64 la, .int .u64 l2, .int .u64 l3] 29)) (.cells #[.int .u64 0, .int .i64 0, .int .u64 0] 54))
  simp only [World.size_alloc] at HR
  unfold cfgL at *
  generalize (((w.alloc _).alloc _).alloc _).alloc _ = V at *
  refine ((mSeen_any c tg i sm l0 la l2 l3 V).mono fun e w1 h => (show e = .returned (.tuple #[.agg #[.int .u64 na, .int .i64 nn, .int .u64 ns], .bool em, .int .i64 er]) ∧ Below V.heap.size V w1 from ⟨by rw [h.1, HH.out], h.2⟩)).mono ?_
  rintro e w1 ⟨rfl, hb⟩
  have HR := Lib.hid (HR.out.below hb)
  have HB := Lib.hid (keepB hb HB.out)
  clear hb
  have hr := HR.out
  have r0 := hr.c 0 rfl
  have r1 := hr.c 1 rfl
  have r2 := hr.c 2 rfl
  have g0 := hr.f 0
  have g1 := hr.f 1
  have g2 := hr.f 2
  clear hr
  go_wp2_with fail
  refine bodyPost_ret (v := .tuple #[.agg ⟨[.int .u64 na, .int .i64 nn, .int .u64 ns]⟩, .bool em, .int .i64 er]) ?_ rfl ⟨rfl, below_look HB.out (by omega) _ _ _⟩
  exact (HR.out.look _ _ _).resultsL (t := 54) rfl (fun _ => by kernel_rfl) (fun _ => by kernel_rfl) rfl rfl rfl

set_option maxRecDepth 100000 in
set_option maxHeartbeats 1600000 in
theorem counts_arrive (c : Cfg) (v t : Int) (w : World) (hp : PwO c w) : Calls Try.prog 91 #[.agg #[.int .u8 c.ob, .int .i64 c.inst, .int .i64 c.thr, .int .u8 c.kd, .int .i64 c.str, .int .i64 c.bits, .int .i64 c.cap, .int .i64 c.node, .int .i64 c.bat, .int .i64 c.chk, .int .u64 c.lim, .int .u64 c.most], .int .i64 v, .int .i64 t] w fun e w' => e = .returned (.tuple #[accV (stA c (sideK 1) v t), .int .i64 (stE c v t)]) ∧ Below w.heap.size w w' := by
  have HP := Lib.hid hp
  clear hp
  go_enter Try.func91, Try.ntmps91
  go_wp2_with fail
  have HR := Lib.hid (Box.new (w.alloc (.cells ⟨cfgL c⟩ 81)) 39 [.int .u8 0, .int .i64 0, .int .u64 0, .int .u64 0, .int .u64 0, .int .u64 0, .int .u64 0, .int .u64 0, .int .u64 0, .int .u64 0])
  have HB := Lib.hid (moreB (moreB (Below.refl w.heap.size w) (.cells ⟨cfgL c⟩ 81)) (.cells ⟨[.int .u8 0, .int .i64 0, .int .u64 0, .int .u64 0, .int .u64 0, .int .u64 0, .int .u64 0, .int .u64 0, .int .u64 0, .int .u64 0]⟩ 39))
  simp only [World.size_alloc] at HR
  unfold cfgL at *
  generalize (w.alloc _).alloc _ = V at *
  refine (sArrive_any c v t V (HP.out.more HB.out)).mono ?_
  rintro e w1 ⟨rfl, hb⟩
  have HR := Lib.hid (HR.out.below hb)
  have HB := Lib.hid (keepB hb HB.out)
  clear hb
  generalize hY : stA c (sideK 1) v t = y
  generalize hE : stE c v t = E
  have HY := Lib.hid hY; have HE := Lib.hid hE
  clear hY hE
  rw [accV_form]
  have hr := HR.out
  have r0 := hr.c 0 rfl
  have r1 := hr.c 1 rfl
  have r2 := hr.c 2 rfl
  have r3 := hr.c 3 rfl
  have r4 := hr.c 4 rfl
  have r5 := hr.c 5 rfl
  have r6 := hr.c 6 rfl
  have r7 := hr.c 7 rfl
  have r8 := hr.c 8 rfl
  have r9 := hr.c 9 rfl
  have g0 := hr.f 0
  have g1 := hr.f 1
  have g2 := hr.f 2
  have g3 := hr.f 3
  have g4 := hr.f 4
  have g5 := hr.f 5
  have g6 := hr.f 6
  have g7 := hr.f 7
  have g8 := hr.f 8
  have g9 := hr.f 9
  clear hr
  go_wp2_with fail
  refine bodyPost_ret (v := .tuple #[.agg ⟨[.int .u8 y.k, .int .i64 y.at', .int .u64 y.old.t, .int .u64 y.old.a, .int .u64 y.old.b, .int .u64 y.old.c, .int .u64 y.new.t, .int .u64 y.new.a, .int .u64 y.new.b, .int .u64 y.new.c]⟩, .int .i64 E]) ?_ rfl ⟨by first | (rw [HY.out, HE.out]; rfl) | rfl, below_acc HB.out (by omega) _ _ _ _ _ _ _ _ _ _⟩
  exact (HR.out.acc _ _ _ _ _ _ _ _ _ _).results2 (t := 39) rfl (fun _ => by kernel_rfl) (fun _ => by kernel_rfl) rfl rfl

set_option maxRecDepth 100000 in
set_option maxHeartbeats 1600000 in
theorem counts_depart (c : Cfg) (v t : Int) (w : World) (hp : PwO c w) : Calls Try.prog 92 #[.agg #[.int .u8 c.ob, .int .i64 c.inst, .int .i64 c.thr, .int .u8 c.kd, .int .i64 c.str, .int .i64 c.bits, .int .i64 c.cap, .int .i64 c.node, .int .i64 c.bat, .int .i64 c.chk, .int .u64 c.lim, .int .u64 c.most], .int .i64 v, .int .i64 t] w fun e w' => e = .returned (.tuple #[accV (stA c (sideK 0) v t), .int .i64 (stE c v t)]) ∧ Below w.heap.size w w' := by
  have HP := Lib.hid hp
  clear hp
  go_enter Try.func92, Try.ntmps92
  go_wp2_with fail
  have HR := Lib.hid (Box.new (w.alloc (.cells ⟨cfgL c⟩ 81)) 39 [.int .u8 0, .int .i64 0, .int .u64 0, .int .u64 0, .int .u64 0, .int .u64 0, .int .u64 0, .int .u64 0, .int .u64 0, .int .u64 0])
  have HB := Lib.hid (moreB (moreB (Below.refl w.heap.size w) (.cells ⟨cfgL c⟩ 81)) (.cells ⟨[.int .u8 0, .int .i64 0, .int .u64 0, .int .u64 0, .int .u64 0, .int .u64 0, .int .u64 0, .int .u64 0, .int .u64 0, .int .u64 0]⟩ 39))
  simp only [World.size_alloc] at HR
  unfold cfgL at *
  generalize (w.alloc _).alloc _ = V at *
  refine (sDepart_any c v t V (HP.out.more HB.out)).mono ?_
  rintro e w1 ⟨rfl, hb⟩
  have HR := Lib.hid (HR.out.below hb)
  have HB := Lib.hid (keepB hb HB.out)
  clear hb
  generalize hY : stA c (sideK 0) v t = y
  generalize hE : stE c v t = E
  have HY := Lib.hid hY; have HE := Lib.hid hE
  clear hY hE
  rw [accV_form]
  have hr := HR.out
  have r0 := hr.c 0 rfl
  have r1 := hr.c 1 rfl
  have r2 := hr.c 2 rfl
  have r3 := hr.c 3 rfl
  have r4 := hr.c 4 rfl
  have r5 := hr.c 5 rfl
  have r6 := hr.c 6 rfl
  have r7 := hr.c 7 rfl
  have r8 := hr.c 8 rfl
  have r9 := hr.c 9 rfl
  have g0 := hr.f 0
  have g1 := hr.f 1
  have g2 := hr.f 2
  have g3 := hr.f 3
  have g4 := hr.f 4
  have g5 := hr.f 5
  have g6 := hr.f 6
  have g7 := hr.f 7
  have g8 := hr.f 8
  have g9 := hr.f 9
  clear hr
  go_wp2_with fail
  refine bodyPost_ret (v := .tuple #[.agg ⟨[.int .u8 y.k, .int .i64 y.at', .int .u64 y.old.t, .int .u64 y.old.a, .int .u64 y.old.b, .int .u64 y.old.c, .int .u64 y.new.t, .int .u64 y.new.a, .int .u64 y.new.b, .int .u64 y.new.c]⟩, .int .i64 E]) ?_ rfl ⟨by first | (rw [HY.out, HE.out]; rfl) | rfl, below_acc HB.out (by omega) _ _ _ _ _ _ _ _ _ _⟩
  exact (HR.out.acc _ _ _ _ _ _ _ _ _ _).results2 (t := 39) rfl (fun _ => by kernel_rfl) (fun _ => by kernel_rfl) rfl rfl

set_option maxRecDepth 100000 in
set_option maxHeartbeats 1600000 in
theorem counts_look (c : Cfg) (v tg i sm : Int) (w : World) (hp : PwO c w) (hi : i ≤ 9223372036854775807) : Calls Try.prog 94 #[.agg #[.int .u8 c.ob, .int .i64 c.inst, .int .i64 c.thr, .int .u8 c.kd, .int .i64 c.str, .int .i64 c.bits, .int .i64 c.cap, .int .i64 c.node, .int .i64 c.bat, .int .i64 c.chk, .int .u64 c.lim, .int .u64 c.most], .int .i64 v, .agg #[.int .u64 tg, .int .i64 i, .int .u64 sm]] w fun e w' => e = .returned (.tuple #[accV (lkA c v i), .int .i64 (lkE c v i)]) ∧ Below w.heap.size w w' := by
  have HP := Lib.hid hp
  have HI := Lib.hid hi
  clear hp hi
  go_enter Try.func94, Try.ntmps94
  go_wp2_with fail
  have HR := Lib.hid (Box.new ((w.alloc (.cells ⟨cfgL c⟩ 81)).alloc (.cells #[.int .u64 tg, .int .i64 i, .int .u64 sm] 54)) 39 [.int .u8 0, .int .i64 0, .int .u64 0, .int .u64 0, .int .u64 0, .int .u64 0, .int .u64 0, .int .u64 0, .int .u64 0, .int .u64 0])
  have HB := Lib.hid (moreB (moreB (moreB (Below.refl w.heap.size w) (.cells ⟨cfgL c⟩ 81)) (.cells #[.int .u64 tg, .int .i64 i, .int .u64 sm] 54)) (.cells ⟨[.int .u8 0, .int .i64 0, .int .u64 0, .int .u64 0, .int .u64 0, .int .u64 0, .int .u64 0, .int .u64 0, .int .u64 0, .int .u64 0]⟩ 39))
  simp only [World.size_alloc] at HR
  unfold cfgL at *
  generalize ((w.alloc _).alloc _).alloc _ = V at *
  refine (sLook_any c v tg i sm V (HP.out.more HB.out) HI.out).mono ?_
  rintro e w1 ⟨rfl, hb⟩
  have HR := Lib.hid (HR.out.below hb)
  have HB := Lib.hid (keepB hb HB.out)
  clear hb
  generalize hY : lkA c v i = y
  generalize hE : lkE c v i = E
  have HY := Lib.hid hY; have HE := Lib.hid hE
  clear hY hE
  rw [accV_form]
  have hr := HR.out
  have r0 := hr.c 0 rfl
  have r1 := hr.c 1 rfl
  have r2 := hr.c 2 rfl
  have r3 := hr.c 3 rfl
  have r4 := hr.c 4 rfl
  have r5 := hr.c 5 rfl
  have r6 := hr.c 6 rfl
  have r7 := hr.c 7 rfl
  have r8 := hr.c 8 rfl
  have r9 := hr.c 9 rfl
  have g0 := hr.f 0
  have g1 := hr.f 1
  have g2 := hr.f 2
  have g3 := hr.f 3
  have g4 := hr.f 4
  have g5 := hr.f 5
  have g6 := hr.f 6
  have g7 := hr.f 7
  have g8 := hr.f 8
  have g9 := hr.f 9
  clear hr
  go_wp2_with fail
  refine bodyPost_ret (v := .tuple #[.agg ⟨[.int .u8 y.k, .int .i64 y.at', .int .u64 y.old.t, .int .u64 y.old.a, .int .u64 y.old.b, .int .u64 y.old.c, .int .u64 y.new.t, .int .u64 y.new.a, .int .u64 y.new.b, .int .u64 y.new.c]⟩, .int .i64 E]) ?_ rfl ⟨by first | (rw [HY.out, HE.out]; rfl) | rfl, below_acc HB.out (by omega) _ _ _ _ _ _ _ _ _ _⟩
  exact (HR.out.acc _ _ _ _ _ _ _ _ _ _).results2 (t := 39) rfl (fun _ => by kernel_rfl) (fun _ => by kernel_rfl) rfl rfl

set_option maxRecDepth 100000 in
set_option maxHeartbeats 1600000 in
theorem counts_seen (c : Cfg) (tg i sm l0 la l2 l3 : Int) (na nn ns : Int) (em : Bool) (er : Int) (w : World) (hh : i ≤ 9223372036854775807 ∧ ssR c tg i sm la = .tuple #[.agg #[.int .u64 na, .int .i64 nn, .int .u64 ns], .bool em, .int .i64 er]) : Calls Try.prog 96 #[.agg #[.int .u8 c.ob, .int .i64 c.inst, .int .i64 c.thr, .int .u8 c.kd, .int .i64 c.str, .int .i64 c.bits, .int .i64 c.cap, .int .i64 c.node, .int .i64 c.bat, .int .i64 c.chk, .int .u64 c.lim, .int .u64 c.most], .agg #[.int .u64 tg, .int .i64 i, .int .u64 sm], .agg #[.int .u64 l0, .int .u64 la, .int .u64 l2, .int .u64 l3]] w fun e w' => e = .returned (.tuple #[.agg #[.int .u64 na, .int .i64 nn, .int .u64 ns], .bool em, .int .i64 er]) ∧ Below w.heap.size w w' := by
  have HH := Lib.hid hh
  clear hh
  go_enter Try.func96, Try.ntmps96
  go_wp2_with fail
  have HR := Lib.hid (Box.new (((w.alloc (.cells ⟨cfgL c⟩ 81)).alloc (.cells #[.int .u64 tg, .int .i64 i, .int .u64 sm] 54)).alloc (.cells #[.int .u64 l0, .int .u64 la, .int .u64 l2, .int .u64 l3] 29)) 54 [.int .u64 0, .int .i64 0, .int .u64 0])
  have HB := Lib.hid (moreB (moreB (moreB (moreB (Below.refl w.heap.size w) (.cells ⟨cfgL c⟩ 81)) (.cells #[.int .u64 tg, .int .i64 i, .int .u64 sm] 54)) (.cells #[.int .u64 l0, .int .u64 la, .int .u64 l2, .int .u64 l3] 29)) (.cells #[.int .u64 0, .int .i64 0, .int .u64 0] 54))
  simp only [World.size_alloc] at HR
  unfold cfgL at *
  generalize (((w.alloc _).alloc _).alloc _).alloc _ = V at *
  refine ((sSeen_any c tg i sm l0 la l2 l3 V HH.out.1).mono fun e w1 h => (show e = .returned (.tuple #[.agg #[.int .u64 na, .int .i64 nn, .int .u64 ns], .bool em, .int .i64 er]) ∧ Below V.heap.size V w1 from ⟨by rw [h.1, HH.out.2], h.2⟩)).mono ?_
  rintro e w1 ⟨rfl, hb⟩
  have HR := Lib.hid (HR.out.below hb)
  have HB := Lib.hid (keepB hb HB.out)
  clear hb
  have hr := HR.out
  have r0 := hr.c 0 rfl
  have r1 := hr.c 1 rfl
  have r2 := hr.c 2 rfl
  have g0 := hr.f 0
  have g1 := hr.f 1
  have g2 := hr.f 2
  clear hr
  go_wp2_with fail
  refine bodyPost_ret (v := .tuple #[.agg ⟨[.int .u64 na, .int .i64 nn, .int .u64 ns]⟩, .bool em, .int .i64 er]) ?_ rfl ⟨rfl, below_look HB.out (by omega) _ _ _⟩
  exact (HR.out.look _ _ _).resultsL (t := 54) rfl (fun _ => by kernel_rfl) (fun _ => by kernel_rfl) rfl rfl rfl

set_option maxRecDepth 100000 in
set_option maxHeartbeats 1600000 in
theorem marks_full (c : Cfg) (l0 la l2 l3 : Int) (w : World) : Calls Try.prog 73 #[.agg #[.int .u8 c.ob, .int .i64 c.inst, .int .i64 c.thr, .int .u8 c.kd, .int .i64 c.str, .int .i64 c.bits, .int .i64 c.cap, .int .i64 c.node, .int .i64 c.bat, .int .i64 c.chk, .int .u64 c.lim, .int .u64 c.most], .agg #[.int .u64 l0, .int .u64 la, .int .u64 l2, .int .u64 l3]] w fun e w' => e = .returned (.tuple #[.bool false, .int .i64 0]) ∧ Below w.heap.size w w' := by
  go_enter Try.func73, Try.ntmps73
  go_wp2_with fail
  go_ret2
  exact ⟨rfl, by (repeat (first | exact Below.refl _ _ | assumption | apply Below.drew | apply below_drewN | (refine Below.alloc ?_ (by simp <;> omega) _) | (refine Below.setCell ?_ (by simp <;> omega) _)))⟩

set_option maxRecDepth 100000 in
set_option maxHeartbeats 1600000 in
theorem marks_many (c : Cfg) (w : World) : Calls Try.prog 75 #[.agg #[.int .u8 c.ob, .int .i64 c.inst, .int .i64 c.thr, .int .u8 c.kd, .int .i64 c.str, .int .i64 c.bits, .int .i64 c.cap, .int .i64 c.node, .int .i64 c.bat, .int .i64 c.chk, .int .u64 c.lim, .int .u64 c.most]] w fun e w' => e = .returned (.int .i64 c.thr) ∧ Below w.heap.size w w' := by
  go_enter Try.func75, Try.ntmps75
  go_wp2_with fail
  go_ret
  exact ⟨rfl, by (repeat (first | exact Below.refl _ _ | assumption | apply Below.drew | apply below_drewN | (refine Below.alloc ?_ (by simp <;> omega) _) | (refine Below.setCell ?_ (by simp <;> omega) _)))⟩

set_option maxRecDepth 100000 in
set_option maxHeartbeats 1600000 in
theorem counts_full (c : Cfg) (l0 la l2 l3 : Int) (w : World) : Calls Try.prog 93 #[.agg #[.int .u8 c.ob, .int .i64 c.inst, .int .i64 c.thr, .int .u8 c.kd, .int .i64 c.str, .int .i64 c.bits, .int .i64 c.cap, .int .i64 c.node, .int .i64 c.bat, .int .i64 c.chk, .int .u64 c.lim, .int .u64 c.most], .agg #[.int .u64 l0, .int .u64 la, .int .u64 l2, .int .u64 l3]] w fun e w' => e = .returned (.tuple #[.bool (fullB c la), .int .i64 (fullE c)]) ∧ Below w.heap.size w w' := by
  go_enter Try.func93, Try.ntmps93
  go_wp2_with fail
  have HB := Lib.hid (moreB (newB w (.cells ⟨cfgL c⟩ 81)) (.cells #[.int .u64 l0, .int .u64 la, .int .u64 l2, .int .u64 l3] 29))
  unfold cfgL at *
  generalize (w.alloc _).alloc _ = V at *
  refine (sFull_any c l0 la l2 l3 V).mono ?_
  rintro e w1 ⟨rfl, hb⟩
  have HB := Lib.hid (keepB hb HB.out)
  clear hb
  go_wp2_with fail
  go_ret2
  exact ⟨rfl, HB.out⟩

set_option maxRecDepth 100000 in
set_option maxHeartbeats 1600000 in
theorem counts_many (c : Cfg) (m : Int) (w : World) (hm : IntKind.i64.wrap (2 * c.str) = m) : Calls Try.prog 95 #[.agg #[.int .u8 c.ob, .int .i64 c.inst, .int .i64 c.thr, .int .u8 c.kd, .int .i64 c.str, .int .i64 c.bits, .int .i64 c.cap, .int .i64 c.node, .int .i64 c.bat, .int .i64 c.chk, .int .u64 c.lim, .int .u64 c.most]] w fun e w' => e = .returned (.int .i64 m) ∧ Below w.heap.size w w' := by
  go_enter Try.func95, Try.ntmps95
  go_wp2_with fail
  go_ret
  exact ⟨rfl, by (repeat (first | exact Below.refl _ _ | assumption | apply Below.drew | apply below_drewN | (refine Below.alloc ?_ (by simp <;> omega) _) | (refine Below.setCell ?_ (by simp <;> omega) _)))⟩

end Go.Proofs.Ytecjbgddjejjdaa
