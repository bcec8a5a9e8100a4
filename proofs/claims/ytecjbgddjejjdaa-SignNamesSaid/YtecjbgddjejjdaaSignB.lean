/- Chapter 21: package sign's functions, of slots and of stripes. -/
import Derived.Test.YtecjbgddjejjdaaSign
import Derived.Handy
import Derived.Test.YtecjbgddjejjdaaMrkAt
namespace Go.Proofs.Ytecjbgddjejjdaa
open Go.RowKit

set_option maxRecDepth 100000 in
set_option maxHeartbeats 1600000 in
theorem signOf_slots (c : Cfg) (w : World) (hc : c.Slots) : Calls Try.prog 30 #[.agg #[.int .u8 c.ob, .int .i64 c.inst, .int .i64 c.thr, .int .u8 c.kd, .int .i64 c.str, .int .i64 c.bits, .int .i64 c.cap, .int .i64 c.node, .int .i64 c.bat, .int .i64 c.chk, .int .u64 c.lim, .int .u64 c.most]] w fun e w' => e = .returned (.tuple #[.iface 80 (.agg #[.int .u8 c.ob, .int .i64 c.inst, .int .i64 c.thr, .int .u8 c.kd, .int .i64 c.str, .int .i64 c.bits, .int .i64 c.cap, .int .i64 c.node, .int .i64 c.bat, .int .i64 c.chk, .int .u64 c.lim, .int .u64 c.most]), .int .i64 0]) ∧ Below w.heap.size w w' := by
  have HC := Lib.hid hc
  clear hc
  go_enter Try.func30, Try.ntmps30
  go_wp2_with fail
  have HX := Lib.hid (Box.new w 37 (cfgL c))
  have HB := Lib.hid (newB w (.cells ⟨cfgL c⟩ 37))
  unfold cfgL at *
  generalize w.alloc _ = V at *
  refine (Check_any c V).mono ?_
  rintro e w1 ⟨rfl, hb⟩
  have HB := Lib.hid (keepB hb HB.out); have HX := Lib.hid (HX.out.below hb); clear hb
  have x0 := HX.out.c 0 rfl; have x1 := HX.out.c 1 rfl; have x2 := HX.out.c 2 rfl; have x3 := HX.out.c 3 rfl; have x4 := HX.out.c 4 rfl; have x5 := HX.out.c 5 rfl; have x6 := HX.out.c 6 rfl; have x7 := HX.out.c 7 rfl; have x8 := HX.out.c 8 rfl; have x9 := HX.out.c 9 rfl; have x10 := HX.out.c 10 rfl; have x11 := HX.out.c 11 rfl
  rw [show checkE c = 0 by simp [checkE, HC.out.1]]
  have e1 : (c.kd == 1) = true := by have := HC.out.2; simp [this]
  go_wp2_with fail
  go_ret2
  exact ⟨rfl, HB.out⟩

set_option maxRecDepth 100000 in
set_option maxHeartbeats 1600000 in
theorem signOf_strs (c : Cfg) (w : World) (hc : c.Strs) : Calls Try.prog 30 #[.agg #[.int .u8 c.ob, .int .i64 c.inst, .int .i64 c.thr, .int .u8 c.kd, .int .i64 c.str, .int .i64 c.bits, .int .i64 c.cap, .int .i64 c.node, .int .i64 c.bat, .int .i64 c.chk, .int .u64 c.lim, .int .u64 c.most]] w fun e w' => e = .returned (.tuple #[.iface 81 (.agg #[.int .u8 c.ob, .int .i64 c.inst, .int .i64 c.thr, .int .u8 c.kd, .int .i64 c.str, .int .i64 c.bits, .int .i64 c.cap, .int .i64 c.node, .int .i64 c.bat, .int .i64 c.chk, .int .u64 c.lim, .int .u64 c.most]), .int .i64 0]) ∧ Below w.heap.size w w' := by
  have HC := Lib.hid hc
  clear hc
  go_enter Try.func30, Try.ntmps30
  go_wp2_with fail
  have HX := Lib.hid (Box.new w 37 (cfgL c))
  have HB := Lib.hid (newB w (.cells ⟨cfgL c⟩ 37))
  unfold cfgL at *
  generalize w.alloc _ = V at *
  refine (Check_any c V).mono ?_
  rintro e w1 ⟨rfl, hb⟩
  have HB := Lib.hid (keepB hb HB.out); have HX := Lib.hid (HX.out.below hb); clear hb
  have x0 := HX.out.c 0 rfl; have x1 := HX.out.c 1 rfl; have x2 := HX.out.c 2 rfl; have x3 := HX.out.c 3 rfl; have x4 := HX.out.c 4 rfl; have x5 := HX.out.c 5 rfl; have x6 := HX.out.c 6 rfl; have x7 := HX.out.c 7 rfl; have x8 := HX.out.c 8 rfl; have x9 := HX.out.c 9 rfl; have x10 := HX.out.c 10 rfl; have x11 := HX.out.c 11 rfl
  rw [show checkE c = 0 by simp [checkE, HC.out.1]]
  have e1 : (c.kd == 1) = false := by have := HC.out.2; simp [this]
  go_wp2_with fail
  go_ret2
  exact ⟨rfl, HB.out⟩

set_option maxRecDepth 100000 in
set_option maxHeartbeats 1600000 in
theorem signOf_no (c : Cfg) (w : World) (hc : ¬ c.May) : Calls Try.prog 30 #[.agg #[.int .u8 c.ob, .int .i64 c.inst, .int .i64 c.thr, .int .u8 c.kd, .int .i64 c.str, .int .i64 c.bits, .int .i64 c.cap, .int .i64 c.node, .int .i64 c.bat, .int .i64 c.chk, .int .u64 c.lim, .int .u64 c.most]] w fun e w' => e = .returned (.tuple #[.nilIface, .int .i64 40]) ∧ Below w.heap.size w w' := by
  have HC := Lib.hid hc
  clear hc
  go_enter Try.func30, Try.ntmps30
  go_wp2_with fail
  have HX := Lib.hid (Box.new w 37 (cfgL c))
  have HB := Lib.hid (newB w (.cells ⟨cfgL c⟩ 37))
  unfold cfgL at *
  generalize w.alloc _ = V at *
  refine (Check_any c V).mono ?_
  rintro e w1 ⟨rfl, hb⟩
  have HB := Lib.hid (keepB hb HB.out); have HX := Lib.hid (HX.out.below hb); clear hb
  have x0 := HX.out.c 0 rfl; have x1 := HX.out.c 1 rfl; have x2 := HX.out.c 2 rfl; have x3 := HX.out.c 3 rfl; have x4 := HX.out.c 4 rfl; have x5 := HX.out.c 5 rfl; have x6 := HX.out.c 6 rfl; have x7 := HX.out.c 7 rfl; have x8 := HX.out.c 8 rfl; have x9 := HX.out.c 9 rfl; have x10 := HX.out.c 10 rfl; have x11 := HX.out.c 11 rfl
  rw [show checkE c = 40 by simp [checkE, HC.out]]
  go_wp2_with fail
  go_ret2
  exact ⟨rfl, HB.out⟩

set_option maxRecDepth 100000 in
set_option maxHeartbeats 1600000 in
theorem sgArrive_slots (c : Cfg) (v t : Int) (w : World) (hp : PwO c w) (hc : c.Slots) : Calls Try.prog 14 #[.agg #[.int .u8 c.ob, .int .i64 c.inst, .int .i64 c.thr, .int .u8 c.kd, .int .i64 c.str, .int .i64 c.bits, .int .i64 c.cap, .int .i64 c.node, .int .i64 c.bat, .int .i64 c.chk, .int .u64 c.lim, .int .u64 c.most], .int .i64 v, .int .i64 t] w fun e w' => e = .returned (.tuple #[accV (mkA c v t accArr), .int .i64 (mkE c v t)]) ∧ Below w.heap.size w w' := by
  have HP := Lib.hid hp
  have HC := Lib.hid hc
  clear hp hc
  go_enter Try.func14, Try.ntmps14
  go_wp2_with fail
  have hx := ((Box.new w 37 (cfgL c)).alloc (.cells ⟨[.int .u8 0, .int .i64 0, .int .u64 0, .int .u64 0, .int .u64 0, .int .u64 0, .int .u64 0, .int .u64 0, .int .u64 0, .int .u64 0]⟩ 39))
  have hr := (Box.new (w.alloc (.cells ⟨cfgL c⟩ 37)) 39 [.int .u8 0, .int .i64 0, .int .u64 0, .int .u64 0, .int .u64 0, .int .u64 0, .int .u64 0, .int .u64 0, .int .u64 0, .int .u64 0])
  have HB := Lib.hid (moreB (moreB (Below.refl w.heap.size w) (.cells ⟨cfgL c⟩ 37)) (.cells ⟨[.int .u8 0, .int .i64 0, .int .u64 0, .int .u64 0, .int .u64 0, .int .u64 0, .int .u64 0, .int .u64 0, .int .u64 0, .int .u64 0]⟩ 39))
  (try simp only [World.size_alloc] at hx hr)
  have HX := Lib.hid hx
  have HR := Lib.hid hr
  clear hx hr
  unfold cfgL at *
  generalize (w.alloc _).alloc _ = V at *
  refine (signOf_slots c V HC.out).mono ?_
  rintro e w1 ⟨rfl, hb⟩
  have HX := Lib.hid (HX.out.below hb)
  have HR := Lib.hid (HR.out.below hb)
  have HB := Lib.hid (keepB hb HB.out)
  clear hb
  go_wp2_with fail
  refine (marks_arrive c v t w1 (HP.out.more HB.out)).mono ?_
  rintro e w2 ⟨rfl, hb⟩
  have HB := Lib.hid (keepB hb HB.out)
  have HR := Lib.hid (HR.out.below hb)
  clear hb
  generalize hY : mkA c v t accArr = y
  generalize hE : mkE c v t = E
  have HY := Lib.hid hY; have HE := Lib.hid hE
  clear hY hE
  rw [accV_form]
  have hr := HR.out
  have r0 := hr.c 0 rfl
  have r1 := hr.c 1 rfl
  have r2 := hr.c 2 rfl
  have r3 := hr.c 3 rfl
  have r4 := hr.c 4 rfl
  have r5 := hr.c 5 rfl
  have r6 := hr.c 6 rfl
  have r7 := hr.c 7 rfl
  have r8 := hr.c 8 rfl
  have r9 := hr.c 9 rfl
  have g0 := hr.f 0
  have g1 := hr.f 1
  have g2 := hr.f 2
  have g3 := hr.f 3
  have g4 := hr.f 4
  have g5 := hr.f 5
  have g6 := hr.f 6
  have g7 := hr.f 7
  have g8 := hr.f 8
  have g9 := hr.f 9
  clear hr
  go_wp2_with fail
  refine bodyPost_ret (v := .tuple #[.agg ⟨[.int .u8 y.k, .int .i64 y.at', .int .u64 y.old.t, .int .u64 y.old.a, .int .u64 y.old.b, .int .u64 y.old.c, .int .u64 y.new.t, .int .u64 y.new.a, .int .u64 y.new.b, .int .u64 y.new.c]⟩, .int .i64 E]) ?_ rfl ⟨by first | (rw [HY.out, HE.out]; rfl) | rfl, below_acc HB.out (by omega) _ _ _ _ _ _ _ _ _ _⟩
  exact (HR.out.acc _ _ _ _ _ _ _ _ _ _).results2 (t := 39) rfl (fun _ => by kernel_rfl) (fun _ => by kernel_rfl) rfl rfl

set_option maxRecDepth 100000 in
set_option maxHeartbeats 1600000 in
theorem sgDepart_slots (c : Cfg) (v t : Int) (w : World) (hp : PwO c w) (hc : c.Slots) : Calls Try.prog 16 #[.agg #[.int .u8 c.ob, .int .i64 c.inst, .int .i64 c.thr, .int .u8 c.kd, .int .i64 c.str, .int .i64 c.bits, .int .i64 c.cap, .int .i64 c.node, .int .i64 c.bat, .int .i64 c.chk, .int .u64 c.lim, .int .u64 c.most], .int .i64 v, .int .i64 t] w fun e w' => e = .returned (.tuple #[accV (mkA c v t accDep), .int .i64 (mkE c v t)]) ∧ Below w.heap.size w w' := by
  have HP := Lib.hid hp
  have HC := Lib.hid hc
  clear hp hc
  go_enter Try.func16, Try.ntmps16
  go_wp2_with fail
  have hx := ((Box.new w 37 (cfgL c)).alloc (.cells ⟨[.int .u8 0, .int .i64 0, .int .u64 0, .int .u64 0, .int .u64 0, .int .u64 0, .int .u64 0, .int .u64 0, .int .u64 0, .int .u64 0]⟩ 39))
  have hr := (Box.new (w.alloc (.cells ⟨cfgL c⟩ 37)) 39 [.int .u8 0, .int .i64 0, .int .u64 0, .int .u64 0, .int .u64 0, .int .u64 0, .int .u64 0, .int .u64 0, .int .u64 0, .int .u64 0])
  have HB := Lib.hid (moreB (moreB (Below.refl w.heap.size w) (.cells ⟨cfgL c⟩ 37)) (.cells ⟨[.int .u8 0, .int .i64 0, .int .u64 0, .int .u64 0, .int .u64 0, .int .u64 0, .int .u64 0, .int .u64 0, .int .u64 0, .int .u64 0]⟩ 39))
  (try simp only [World.size_alloc] at hx hr)
  have HX := Lib.hid hx
  have HR := Lib.hid hr
  clear hx hr
  unfold cfgL at *
  generalize (w.alloc _).alloc _ = V at *
  refine (signOf_slots c V HC.out).mono ?_
  rintro e w1 ⟨rfl, hb⟩
  have HX := Lib.hid (HX.out.below hb)
  have HR := Lib.hid (HR.out.below hb)
  have HB := Lib.hid (keepB hb HB.out)
  clear hb
  go_wp2_with fail
  refine (marks_depart c v t w1 (HP.out.more HB.out)).mono ?_
  rintro e w2 ⟨rfl, hb⟩
  have HB := Lib.hid (keepB hb HB.out)
  have HR := Lib.hid (HR.out.below hb)
  clear hb
  generalize hY : mkA c v t accDep = y
  generalize hE : mkE c v t = E
  have HY := Lib.hid hY; have HE := Lib.hid hE
  clear hY hE
  rw [accV_form]
  have hr := HR.out
  have r0 := hr.c 0 rfl
  have r1 := hr.c 1 rfl
  have r2 := hr.c 2 rfl
  have r3 := hr.c 3 rfl
  have r4 := hr.c 4 rfl
  have r5 := hr.c 5 rfl
  have r6 := hr.c 6 rfl
  have r7 := hr.c 7 rfl
  have r8 := hr.c 8 rfl
  have r9 := hr.c 9 rfl
  have g0 := hr.f 0
  have g1 := hr.f 1
  have g2 := hr.f 2
  have g3 := hr.f 3
  have g4 := hr.f 4
  have g5 := hr.f 5
  have g6 := hr.f 6
  have g7 := hr.f 7
  have g8 := hr.f 8
  have g9 := hr.f 9
  clear hr
  go_wp2_with fail
  refine bodyPost_ret (v := .tuple #[.agg ⟨[.int .u8 y.k, .int .i64 y.at', .int .u64 y.old.t, .int .u64 y.old.a, .int .u64 y.old.b, .int .u64 y.old.c, .int .u64 y.new.t, .int .u64 y.new.a, .int .u64 y.new.b, .int .u64 y.new.c]⟩, .int .i64 E]) ?_ rfl ⟨by first | (rw [HY.out, HE.out]; rfl) | rfl, below_acc HB.out (by omega) _ _ _ _ _ _ _ _ _ _⟩
  exact (HR.out.acc _ _ _ _ _ _ _ _ _ _).results2 (t := 39) rfl (fun _ => by kernel_rfl) (fun _ => by kernel_rfl) rfl rfl

set_option maxRecDepth 100000 in
set_option maxHeartbeats 1600000 in
theorem sgLook_slots (c : Cfg) (v tg i sm : Int) (w : World) (hp : PwO c w) (hc : c.Slots) : Calls Try.prog 22 #[.agg #[.int .u8 c.ob, .int .i64 c.inst, .int .i64 c.thr, .int .u8 c.kd, .int .i64 c.str, .int .i64 c.bits, .int .i64 c.cap, .int .i64 c.node, .int .i64 c.bat, .int .i64 c.chk, .int .u64 c.lim, .int .u64 c.most], .int .i64 v, .agg #[.int .u64 tg, .int .i64 i, .int .u64 sm]] w fun e w' => e = .returned (.tuple #[accV (mkA c v i accLook), .int .i64 (mkE c v i)]) ∧ Below w.heap.size w w' := by
  have HP := Lib.hid hp
  have HC := Lib.hid hc
  clear hp hc
  go_enter Try.func22, Try.ntmps22
  go_wp2_with fail
  have hx := (((Box.new w 37 (cfgL c)).alloc (.cells #[.int .u64 tg, .int .i64 i, .int .u64 sm] 54)).alloc (.cells ⟨[.int .u8 0, .int .i64 0, .int .u64 0, .int .u64 0, .int .u64 0, .int .u64 0, .int .u64 0, .int .u64 0, .int .u64 0, .int .u64 0]⟩ 39))
  have hk := ((Box.new (w.alloc (.cells ⟨cfgL c⟩ 37)) 54 [.int .u64 tg, .int .i64 i, .int .u64 sm]).alloc (.cells ⟨[.int .u8 0, .int .i64 0, .int .u64 0, .int .u64 0, .int .u64 0, .int .u64 0, .int .u64 0, .int .u64 0, .int .u64 0, .int .u64 0]⟩ 39))
  have hr := (Box.new ((w.alloc (.cells ⟨cfgL c⟩ 37)).alloc (.cells #[.int .u64 tg, .int .i64 i, .int .u64 sm] 54)) 39 [.int .u8 0, .int .i64 0, .int .u64 0, .int .u64 0, .int .u64 0, .int .u64 0, .int .u64 0, .int .u64 0, .int .u64 0, .int .u64 0])
  have HB := Lib.hid (moreB (moreB (moreB (Below.refl w.heap.size w) (.cells ⟨cfgL c⟩ 37)) (.cells #[.int .u64 tg, .int .i64 i, .int .u64 sm] 54)) (.cells ⟨[.int .u8 0, .int .i64 0, .int .u64 0, .int .u64 0, .int .u64 0, .int .u64 0, .int .u64 0, .int .u64 0, .int .u64 0, .int .u64 0]⟩ 39))
  (try simp only [World.size_alloc] at hx hk hr)
  have HX := Lib.hid hx
  have HK := Lib.hid hk
  have HR := Lib.hid hr
  clear hx hk hr
  unfold cfgL at *
  generalize ((w.alloc _).alloc _).alloc _ = V at *
  refine (signOf_slots c V HC.out).mono ?_
  rintro e w1 ⟨rfl, hb⟩
  have HX := Lib.hid (HX.out.below hb)
  have HK := Lib.hid (HK.out.below hb)
  have HR := Lib.hid (HR.out.below hb)
  have HB := Lib.hid (keepB hb HB.out)
  clear hb
  have k0 := HK.out.c 0 rfl
  have k1 := HK.out.c 1 rfl
  have k2 := HK.out.c 2 rfl
  go_wp2_with fail
  clear k0 k1 k2
  refine (marks_look c v tg i sm w1 (HP.out.more HB.out)).mono ?_
  rintro e w2 ⟨rfl, hb⟩
  have HB := Lib.hid (keepB hb HB.out)
  have HR := Lib.hid (HR.out.below hb)
  clear hb
  generalize hY : mkA c v i accLook = y
  generalize hE : mkE c v i = E
  have HY := Lib.hid hY; have HE := Lib.hid hE
  clear hY hE
  rw [accV_form]
  have hr := HR.out
  have r0 := hr.c 0 rfl
  have r1 := hr.c 1 rfl
  have r2 := hr.c 2 rfl
  have r3 := hr.c 3 rfl
  have r4 := hr.c 4 rfl
  have r5 := hr.c 5 rfl
  have r6 := hr.c 6 rfl
  have r7 := hr.c 7 rfl
  have r8 := hr.c 8 rfl
  have r9 := hr.c 9 rfl
  have g0 := hr.f 0
  have g1 := hr.f 1
  have g2 := hr.f 2
  have g3 := hr.f 3
  have g4 := hr.f 4
  have g5 := hr.f 5
  have g6 := hr.f 6
  have g7 := hr.f 7
  have g8 := hr.f 8
  have g9 := hr.f 9
  clear hr
  go_wp2_with fail
  refine bodyPost_ret (v := .tuple #[.agg ⟨[.int .u8 y.k, .int .i64 y.at', .int .u64 y.old.t, .int .u64 y.old.a, .int .u64 y.old.b, .int .u64 y.old.c, .int .u64 y.new.t, .int .u64 y.new.a, .int .u64 y.new.b, .int .u64 y.new.c]⟩, .int .i64 E]) ?_ rfl ⟨by first | (rw [HY.out, HE.out]; rfl) | rfl, below_acc HB.out (by omega) _ _ _ _ _ _ _ _ _ _⟩
  exact (HR.out.acc _ _ _ _ _ _ _ _ _ _).results2 (t := 39) rfl (fun _ => by kernel_rfl) (fun _ => by kernel_rfl) rfl rfl

set_option maxRecDepth 100000 in
set_option maxHeartbeats 1600000 in
theorem sgSeen_slots (c : Cfg) (tg i sm l0 la l2 l3 : Int) (na nn ns : Int) (em : Bool) (er : Int) (w : World) (hh : seenR c tg i la = .tuple #[.agg #[.int .u64 na, .int .i64 nn, .int .u64 ns], .bool em, .int .i64 er]) (hc : c.Slots) : Calls Try.prog 24 #[.agg #[.int .u8 c.ob, .int .i64 c.inst, .int .i64 c.thr, .int .u8 c.kd, .int .i64 c.str, .int .i64 c.bits, .int .i64 c.cap, .int .i64 c.node, .int .i64 c.bat, .int .i64 c.chk, .int .u64 c.lim, .int .u64 c.most], .agg #[.int .u64 tg, .int .i64 i, .int .u64 sm], .agg #[.int .u64 l0, .int .u64 la, .int .u64 l2, .int .u64 l3]] w fun e w' => e = .returned (.tuple #[.agg #[.int .u64 na, .int .i64 nn, .int .u64 ns], .bool em, .int .i64 er]) ∧ Below w.heap.size w w' := by
  have HH := Lib.hid hh
  have HC := Lib.hid hc
  clear hh hc
  go_enter Try.func24, Try.ntmps24
  go_wp2_with fail
  have hx := ((((Box.new w 37 (cfgL c)).alloc (.cells #[.int .u64 tg, .int .i64 i, .int .u64 sm] 54)).alloc (.cells #[.int .u64 l0, .int .u64 la, .int .u64 l2, .int .u64 l3] 29)).alloc (.cells #[.int .u64 0, .int .i64 0, .int .u64 0] 54))
  have hk := (((Box.new (w.alloc (.cells ⟨cfgL c⟩ 37)) 54 [.int .u64 tg, .int .i64 i, .int .u64 sm]).alloc (.cells #[.int .u64 l0, .int .u64 la, .int .u64 l2, .int .u64 l3] 29)).alloc (.cells #[.int .u64 0, .int .i64 0, .int .u64 0] 54))
  have hl := ((Box.new ((w.alloc (.cells ⟨cfgL c⟩ 37)).alloc (.cells #[.int .u64 tg, .int .i64 i, .int .u64 sm] 54)) 29 [.int .u64 l0, .int .u64 la, .int .u64 l2, .int .u64 l3]).alloc (.cells #[.int .u64 0, .int .i64 0, .int .u64 0] 54))
  have hr := (Box.new (((w.alloc (.cells ⟨cfgL c⟩ 37)).alloc (.cells #[.int .u64 tg, .int .i64 i, .int .u64 sm] 54)).alloc (.cells #[.int .u64 l0, .int .u64 la, .int .u64 l2, .int .u64 l3] 29)) 54 [.int .u64 0, .int .i64 0, .int .u64 0])
  have HB := Lib.hid (moreB (moreB (moreB (moreB (Below.refl w.heap.size w) (.cells ⟨cfgL c⟩ 37)) (.cells #[.int .u64 tg, .int .i64 i, .int .u64 sm] 54)) (.cells #[.int .u64 l0, .int .u64 la, .int .u64 l2, .int .u64 l3] 29)) (.cells #[.int .u64 0, .int .i64 0, .int .u64 0] 54))
  (try simp only [World.size_alloc] at hx hk hl hr)
  have HX := Lib.hid hx
  have HK := Lib.hid hk
  have HL := Lib.hid hl
  have HR := Lib.hid hr
  clear hx hk hl hr
  unfold cfgL at *
  generalize (((w.alloc _).alloc _).alloc _).alloc _ = V at *
  refine (signOf_slots c V HC.out).mono ?_
  rintro e w1 ⟨rfl, hb⟩
  have HX := Lib.hid (HX.out.below hb)
  have HK := Lib.hid (HK.out.below hb)
  have HL := Lib.hid (HL.out.below hb)
  have HR := Lib.hid (HR.out.below hb)
  have HB := Lib.hid (keepB hb HB.out)
  clear hb
  have k0 := HK.out.c 0 rfl
  have k1 := HK.out.c 1 rfl
  have k2 := HK.out.c 2 rfl
  have y0 := HL.out.c 0 rfl
  have y1 := HL.out.c 1 rfl
  have y2 := HL.out.c 2 rfl
  have y3 := HL.out.c 3 rfl
  go_wp2_with fail
  clear k0 k1 k2
  clear y0 y1 y2 y3
  refine (marks_seen c tg i sm l0 la l2 l3 na nn ns em er w1 HH.out).mono ?_
  rintro e w2 ⟨rfl, hb⟩
  have HB := Lib.hid (keepB hb HB.out)
  have HR := Lib.hid (HR.out.below hb)
  clear hb
  have hr := HR.out
  have r0 := hr.c 0 rfl
  have r1 := hr.c 1 rfl
  have r2 := hr.c 2 rfl
  have g0 := hr.f 0
  have g1 := hr.f 1
  have g2 := hr.f 2
  clear hr
  go_wp2_with fail
  refine bodyPost_ret (v := .tuple #[.agg ⟨[.int .u64 na, .int .i64 nn, .int .u64 ns]⟩, .bool em, .int .i64 er]) ?_ rfl ⟨rfl, below_look HB.out (by omega) _ _ _⟩
  exact (HR.out.look _ _ _).resultsL (t := 54) rfl (fun _ => by kernel_rfl) (fun _ => by kernel_rfl) rfl rfl rfl

set_option maxRecDepth 100000 in
set_option maxHeartbeats 1600000 in
theorem sgFull_slots (c : Cfg) (l0 la l2 l3 : Int) (w : World) (hc : c.Slots) : Calls Try.prog 18 #[.agg #[.int .u8 c.ob, .int .i64 c.inst, .int .i64 c.thr, .int .u8 c.kd, .int .i64 c.str, .int .i64 c.bits, .int .i64 c.cap, .int .i64 c.node, .int .i64 c.bat, .int .i64 c.chk, .int .u64 c.lim, .int .u64 c.most], .agg #[.int .u64 l0, .int .u64 la, .int .u64 l2, .int .u64 l3]] w fun e w' => e = .returned (.tuple #[.bool false, .int .i64 0]) ∧ Below w.heap.size w w' := by
  have HC := Lib.hid hc
  clear hc
  go_enter Try.func18, Try.ntmps18
  go_wp2_with fail
  have hx := ((Box.new w 37 (cfgL c)).alloc (.cells #[.int .u64 l0, .int .u64 la, .int .u64 l2, .int .u64 l3] 29))
  have hl := (Box.new (w.alloc (.cells ⟨cfgL c⟩ 37)) 29 [.int .u64 l0, .int .u64 la, .int .u64 l2, .int .u64 l3])
  have HB := Lib.hid (moreB (moreB (Below.refl w.heap.size w) (.cells ⟨cfgL c⟩ 37)) (.cells #[.int .u64 l0, .int .u64 la, .int .u64 l2, .int .u64 l3] 29))
  (try simp only [World.size_alloc] at hx hl)
  have HX := Lib.hid hx
  have HL := Lib.hid hl
  clear hx hl
  unfold cfgL at *
  generalize (w.alloc _).alloc _ = V at *
  refine (signOf_slots c V HC.out).mono ?_
  rintro e w1 ⟨rfl, hb⟩
  have HX := Lib.hid (HX.out.below hb)
  have HL := Lib.hid (HL.out.below hb)
  have HB := Lib.hid (keepB hb HB.out)
  clear hb
  have y0 := HL.out.c 0 rfl
  have y1 := HL.out.c 1 rfl
  have y2 := HL.out.c 2 rfl
  have y3 := HL.out.c 3 rfl
  go_wp2_with fail
  clear y0 y1 y2 y3
  refine (marks_full c l0 la l2 l3 w1).mono ?_
  rintro e w2 ⟨rfl, hb⟩
  have HB := Lib.hid (keepB hb HB.out)
  clear hb
  go_wp2_with fail
  go_ret2
  exact ⟨rfl, HB.out⟩

set_option maxRecDepth 100000 in
set_option maxHeartbeats 1600000 in
theorem sgMany_slots (c : Cfg)  (w : World) (hc : c.Slots) : Calls Try.prog 20 #[.agg #[.int .u8 c.ob, .int .i64 c.inst, .int .i64 c.thr, .int .u8 c.kd, .int .i64 c.str, .int .i64 c.bits, .int .i64 c.cap, .int .i64 c.node, .int .i64 c.bat, .int .i64 c.chk, .int .u64 c.lim, .int .u64 c.most]] w fun e w' => e = .returned (.tuple #[.int .i64 c.thr, .int .i64 0]) ∧ Below w.heap.size w w' := by
  have HC := Lib.hid hc
  clear hc
  go_enter Try.func20, Try.ntmps20
  go_wp2_with fail
  have hx := (Box.new w 37 (cfgL c))
  have HB := Lib.hid (moreB (Below.refl w.heap.size w) (.cells ⟨cfgL c⟩ 37))
  (try simp only [World.size_alloc] at hx)
  have HX := Lib.hid hx
  clear hx
  unfold cfgL at *
  generalize w.alloc _ = V at *
  refine (signOf_slots c V HC.out).mono ?_
  rintro e w1 ⟨rfl, hb⟩
  have HX := Lib.hid (HX.out.below hb)
  have HB := Lib.hid (keepB hb HB.out)
  clear hb
  go_wp2_with fail
  refine (marks_many c w1).mono ?_
  rintro e w2 ⟨rfl, hb⟩
  have HB := Lib.hid (keepB hb HB.out)
  clear hb
  go_wp2_with fail
  go_ret2
  exact ⟨rfl, HB.out⟩

set_option maxRecDepth 100000 in
set_option maxHeartbeats 1600000 in
theorem sgArrive_strs (c : Cfg) (v t : Int) (w : World) (hp : PwO c w) (hc : c.Strs) : Calls Try.prog 14 #[.agg #[.int .u8 c.ob, .int .i64 c.inst, .int .i64 c.thr, .int .u8 c.kd, .int .i64 c.str, .int .i64 c.bits, .int .i64 c.cap, .int .i64 c.node, .int .i64 c.bat, .int .i64 c.chk, .int .u64 c.lim, .int .u64 c.most], .int .i64 v, .int .i64 t] w fun e w' => e = .returned (.tuple #[accV (stA c (sideK 1) v t), .int .i64 (stE c v t)]) ∧ Below w.heap.size w w' := by
  have HP := Lib.hid hp
  have HC := Lib.hid hc
  clear hp hc
  go_enter Try.func14, Try.ntmps14
  go_wp2_with fail
  have hx := ((Box.new w 37 (cfgL c)).alloc (.cells ⟨[.int .u8 0, .int .i64 0, .int .u64 0, .int .u64 0, .int .u64 0, .int .u64 0, .int .u64 0, .int .u64 0, .int .u64 0, .int .u64 0]⟩ 39))
  have hr := (Box.new (w.alloc (.cells ⟨cfgL c⟩ 37)) 39 [.int .u8 0, .int .i64 0, .int .u64 0, .int .u64 0, .int .u64 0, .int .u64 0, .int .u64 0, .int .u64 0, .int .u64 0, .int .u64 0])
  have HB := Lib.hid (moreB (moreB (Below.refl w.heap.size w) (.cells ⟨cfgL c⟩ 37)) (.cells ⟨[.int .u8 0, .int .i64 0, .int .u64 0, .int .u64 0, .int .u64 0, .int .u64 0, .int .u64 0, .int .u64 0, .int .u64 0, .int .u64 0]⟩ 39))
  (try simp only [World.size_alloc] at hx hr)
  have HX := Lib.hid hx
  have HR := Lib.hid hr
  clear hx hr
  unfold cfgL at *
  generalize (w.alloc _).alloc _ = V at *
  refine (signOf_strs c V HC.out).mono ?_
  rintro e w1 ⟨rfl, hb⟩
  have HX := Lib.hid (HX.out.below hb)
  have HR := Lib.hid (HR.out.below hb)
  have HB := Lib.hid (keepB hb HB.out)
  clear hb
  go_wp2_with fail
  refine (counts_arrive c v t w1 (HP.out.more HB.out)).mono ?_
  rintro e w2 ⟨rfl, hb⟩
  have HB := Lib.hid (keepB hb HB.out)
  have HR := Lib.hid (HR.out.below hb)
  clear hb
  generalize hY : stA c (sideK 1) v t = y
  generalize hE : stE c v t = E
  have HY := Lib.hid hY; have HE := Lib.hid hE
  clear hY hE
  rw [accV_form]
  have hr := HR.out
  have r0 := hr.c 0 rfl
  have r1 := hr.c 1 rfl
  have r2 := hr.c 2 rfl
  have r3 := hr.c 3 rfl
  have r4 := hr.c 4 rfl
  have r5 := hr.c 5 rfl
  have r6 := hr.c 6 rfl
  have r7 := hr.c 7 rfl
  have r8 := hr.c 8 rfl
  have r9 := hr.c 9 rfl
  have g0 := hr.f 0
  have g1 := hr.f 1
  have g2 := hr.f 2
  have g3 := hr.f 3
  have g4 := hr.f 4
  have g5 := hr.f 5
  have g6 := hr.f 6
  have g7 := hr.f 7
  have g8 := hr.f 8
  have g9 := hr.f 9
  clear hr
  go_wp2_with fail
  refine bodyPost_ret (v := .tuple #[.agg ⟨[.int .u8 y.k, .int .i64 y.at', .int .u64 y.old.t, .int .u64 y.old.a, .int .u64 y.old.b, .int .u64 y.old.c, .int .u64 y.new.t, .int .u64 y.new.a, .int .u64 y.new.b, .int .u64 y.new.c]⟩, .int .i64 E]) ?_ rfl ⟨by first | (rw [HY.out, HE.out]; rfl) | rfl, below_acc HB.out (by omega) _ _ _ _ _ _ _ _ _ _⟩
  exact (HR.out.acc _ _ _ _ _ _ _ _ _ _).results2 (t := 39) rfl (fun _ => by kernel_rfl) (fun _ => by kernel_rfl) rfl rfl

set_option maxRecDepth 100000 in
set_option maxHeartbeats 1600000 in
theorem sgDepart_strs (c : Cfg) (v t : Int) (w : World) (hp : PwO c w) (hc : c.Strs) : Calls Try.prog 16 #[.agg #[.int .u8 c.ob, .int .i64 c.inst, .int .i64 c.thr, .int .u8 c.kd, .int .i64 c.str, .int .i64 c.bits, .int .i64 c.cap, .int .i64 c.node, .int .i64 c.bat, .int .i64 c.chk, .int .u64 c.lim, .int .u64 c.most], .int .i64 v, .int .i64 t] w fun e w' => e = .returned (.tuple #[accV (stA c (sideK 0) v t), .int .i64 (stE c v t)]) ∧ Below w.heap.size w w' := by
  have HP := Lib.hid hp
  have HC := Lib.hid hc
  clear hp hc
  go_enter Try.func16, Try.ntmps16
  go_wp2_with fail
  have hx := ((Box.new w 37 (cfgL c)).alloc (.cells ⟨[.int .u8 0, .int .i64 0, .int .u64 0, .int .u64 0, .int .u64 0, .int .u64 0, .int .u64 0, .int .u64 0, .int .u64 0, .int .u64 0]⟩ 39))
  have hr := (Box.new (w.alloc (.cells ⟨cfgL c⟩ 37)) 39 [.int .u8 0, .int .i64 0, .int .u64 0, .int .u64 0, .int .u64 0, .int .u64 0, .int .u64 0, .int .u64 0, .int .u64 0, .int .u64 0])
  have HB := Lib.hid (moreB (moreB (Below.refl w.heap.size w) (.cells ⟨cfgL c⟩ 37)) (.cells ⟨[.int .u8 0, .int .i64 0, .int .u64 0, .int .u64 0, .int .u64 0, .int .u64 0, .int .u64 0, .int .u64 0, .int .u64 0, .int .u64 0]⟩ 39))
  (try simp only [World.size_alloc] at hx hr)
  have HX := Lib.hid hx
  have HR := Lib.hid hr
  clear hx hr
  unfold cfgL at *
  generalize (w.alloc _).alloc _ = V at *
  refine (signOf_strs c V HC.out).mono ?_
  rintro e w1 ⟨rfl, hb⟩
  have HX := Lib.hid (HX.out.below hb)
  have HR := Lib.hid (HR.out.below hb)
  have HB := Lib.hid (keepB hb HB.out)
  clear hb
  go_wp2_with fail
  refine (counts_depart c v t w1 (HP.out.more HB.out)).mono ?_
  rintro e w2 ⟨rfl, hb⟩
  have HB := Lib.hid (keepB hb HB.out)
  have HR := Lib.hid (HR.out.below hb)
  clear hb
  generalize hY : stA c (sideK 0) v t = y
  generalize hE : stE c v t = E
  have HY := Lib.hid hY; have HE := Lib.hid hE
  clear hY hE
  rw [accV_form]
  have hr := HR.out
  have r0 := hr.c 0 rfl
  have r1 := hr.c 1 rfl
  have r2 := hr.c 2 rfl
  have r3 := hr.c 3 rfl
  have r4 := hr.c 4 rfl
  have r5 := hr.c 5 rfl
  have r6 := hr.c 6 rfl
  have r7 := hr.c 7 rfl
  have r8 := hr.c 8 rfl
  have r9 := hr.c 9 rfl
  have g0 := hr.f 0
  have g1 := hr.f 1
  have g2 := hr.f 2
  have g3 := hr.f 3
  have g4 := hr.f 4
  have g5 := hr.f 5
  have g6 := hr.f 6
  have g7 := hr.f 7
  have g8 := hr.f 8
  have g9 := hr.f 9
  clear hr
  go_wp2_with fail
  refine bodyPost_ret (v := .tuple #[.agg ⟨[.int .u8 y.k, .int .i64 y.at', .int .u64 y.old.t, .int .u64 y.old.a, .int .u64 y.old.b, .int .u64 y.old.c, .int .u64 y.new.t, .int .u64 y.new.a, .int .u64 y.new.b, .int .u64 y.new.c]⟩, .int .i64 E]) ?_ rfl ⟨by first | (rw [HY.out, HE.out]; rfl) | rfl, below_acc HB.out (by omega) _ _ _ _ _ _ _ _ _ _⟩
  exact (HR.out.acc _ _ _ _ _ _ _ _ _ _).results2 (t := 39) rfl (fun _ => by kernel_rfl) (fun _ => by kernel_rfl) rfl rfl

set_option maxRecDepth 100000 in
set_option maxHeartbeats 1600000 in
theorem sgLook_strs (c : Cfg) (v tg i sm : Int) (w : World) (hp : PwO c w) (hi : i ≤ 9223372036854775807) (hc : c.Strs) : Calls Try.prog 22 #[.agg #[.int .u8 c.ob, .int .i64 c.inst, .int .i64 c.thr, .int .u8 c.kd, .int .i64 c.str, .int .i64 c.bits, .int .i64 c.cap, .int .i64 c.node, .int .i64 c.bat, .int .i64 c.chk, .int .u64 c.lim, .int .u64 c.most], .int .i64 v, .agg #[.int .u64 tg, .int .i64 i, .int .u64 sm]] w fun e w' => e = .returned (.tuple #[accV (lkA c v i), .int .i64 (lkE c v i)]) ∧ Below w.heap.size w w' := by
  have HP := Lib.hid hp
  have HI := Lib.hid hi
  have HC := Lib.hid hc
  clear hp hi hc
  go_enter Try.func22, Try.ntmps22
  go_wp2_with fail
  have hx := (((Box.new w 37 (cfgL c)).alloc (.cells #[.int .u64 tg, .int .i64 i, .int .u64 sm] 54)).alloc (.cells ⟨[.int .u8 0, .int .i64 0, .int .u64 0, .int .u64 0, .int .u64 0, .int .u64 0, .int .u64 0, .int .u64 0, .int .u64 0, .int .u64 0]⟩ 39))
  have hk := ((Box.new (w.alloc (.cells ⟨cfgL c⟩ 37)) 54 [.int .u64 tg, .int .i64 i, .int .u64 sm]).alloc (.cells ⟨[.int .u8 0, .int .i64 0, .int .u64 0, .int .u64 0, .int .u64 0, .int .u64 0, .int .u64 0, .int .u64 0, .int .u64 0, .int .u64 0]⟩ 39))
  have hr := (Box.new ((w.alloc (.cells ⟨cfgL c⟩ 37)).alloc (.cells #[.int .u64 tg, .int .i64 i, .int .u64 sm] 54)) 39 [.int .u8 0, .int .i64 0, .int .u64 0, .int .u64 0, .int .u64 0, .int .u64 0, .int .u64 0, .int .u64 0, .int .u64 0, .int .u64 0])
  have HB := Lib.hid (moreB (moreB (moreB (Below.refl w.heap.size w) (.cells ⟨cfgL c⟩ 37)) (.cells #[.int .u64 tg, .int .i64 i, .int .u64 sm] 54)) (.cells ⟨[.int .u8 0, .int .i64 0, .int .u64 0, .int .u64 0, .int .u64 0, .int .u64 0, .int .u64 0, .int .u64 0, .int .u64 0, .int .u64 0]⟩ 39))
  (try simp only [World.size_alloc] at hx hk hr)
  have HX := Lib.hid hx
  have HK := Lib.hid hk
  have HR := Lib.hid hr
  clear hx hk hr
  unfold cfgL at *
  generalize ((w.alloc _).alloc _).alloc _ = V at *
  refine (signOf_strs c V HC.out).mono ?_
  rintro e w1 ⟨rfl, hb⟩
  have HX := Lib.hid (HX.out.below hb)
  have HK := Lib.hid (HK.out.below hb)
  have HR := Lib.hid (HR.out.below hb)
  have HB := Lib.hid (keepB hb HB.out)
  clear hb
  have k0 := HK.out.c 0 rfl
  have k1 := HK.out.c 1 rfl
  have k2 := HK.out.c 2 rfl
  go_wp2_with fail
  clear k0 k1 k2
  refine (counts_look c v tg i sm w1 (HP.out.more HB.out) HI.out).mono ?_
  rintro e w2 ⟨rfl, hb⟩
  have HB := Lib.hid (keepB hb HB.out)
  have HR := Lib.hid (HR.out.below hb)
  clear hb
  generalize hY : lkA c v i = y
  generalize hE : lkE c v i = E
  have HY := Lib.hid hY; have HE := Lib.hid hE
  clear hY hE
  rw [accV_form]
  have hr := HR.out
  have r0 := hr.c 0 rfl
  have r1 := hr.c 1 rfl
  have r2 := hr.c 2 rfl
  have r3 := hr.c 3 rfl
  have r4 := hr.c 4 rfl
  have r5 := hr.c 5 rfl
  have r6 := hr.c 6 rfl
  have r7 := hr.c 7 rfl
  have r8 := hr.c 8 rfl
  have r9 := hr.c 9 rfl
  have g0 := hr.f 0
  have g1 := hr.f 1
  have g2 := hr.f 2
  have g3 := hr.f 3
  have g4 := hr.f 4
  have g5 := hr.f 5
  have g6 := hr.f 6
  have g7 := hr.f 7
  have g8 := hr.f 8
  have g9 := hr.f 9
  clear hr
  go_wp2_with fail
  refine bodyPost_ret (v := .tuple #[.agg ⟨[.int .u8 y.k, .int .i64 y.at', .int .u64 y.old.t, .int .u64 y.old.a, .int .u64 y.old.b, .int .u64 y.old.c, .int .u64 y.new.t, .int .u64 y.new.a, .int .u64 y.new.b, .int .u64 y.new.c]⟩, .int .i64 E]) ?_ rfl ⟨by first | (rw [HY.out, HE.out]; rfl) | rfl, below_acc HB.out (by omega) _ _ _ _ _ _ _ _ _ _⟩
  exact (HR.out.acc _ _ _ _ _ _ _ _ _ _).results2 (t := 39) rfl (fun _ => by kernel_rfl) (fun _ => by kernel_rfl) rfl rfl

set_option maxRecDepth 100000 in
set_option maxHeartbeats 1600000 in
theorem sgSeen_strs (c : Cfg) (tg i sm l0 la l2 l3 : Int) (na nn ns : Int) (em : Bool) (er : Int) (w : World) (hh : i ≤ 9223372036854775807 ∧ ssR c tg i sm la = .tuple #[.agg #[.int .u64 na, .int .i64 nn, .int .u64 ns], .bool em, .int .i64 er]) (hc : c.Strs) : Calls Try.prog 24 #[.agg #[.int .u8 c.ob, .int .i64 c.inst, .int .i64 c.thr, .int .u8 c.kd, .int .i64 c.str, .int .i64 c.bits, .int .i64 c.cap, .int .i64 c.node, .int .i64 c.bat, .int .i64 c.chk, .int .u64 c.lim, .int .u64 c.most], .agg #[.int .u64 tg, .int .i64 i, .int .u64 sm], .agg #[.int .u64 l0, .int .u64 la, .int .u64 l2, .int .u64 l3]] w fun e w' => e = .returned (.tuple #[.agg #[.int .u64 na, .int .i64 nn, .int .u64 ns], .bool em, .int .i64 er]) ∧ Below w.heap.size w w' := by
  have HH := Lib.hid hh
  have HC := Lib.hid hc
  clear hh hc
  go_enter Try.func24, Try.ntmps24
  go_wp2_with fail
  have hx := ((((Box.new w 37 (cfgL c)).alloc (.cells #[.int .u64 tg, .int .i64 i, .int .u64 sm] 54)).alloc (.cells #[.int .u64 l0, .int .u64 la, .int .u64 l2, .int .u64 l3] 29)).alloc (.cells #[.int .u64 0, .int .i64 0, .int .u64 0] 54))
  have hk := (((Box.new (w.alloc (.cells ⟨cfgL c⟩ 37)) 54 [.int .u64 tg, .int .i64 i, .int .u64 sm]).alloc (.cells #[.int .u64 l0, .int .u64 la, .int .u64 l2, .int .u64 l3] 29)).alloc (.cells #[.int .u64 0, .int .i64 0, .int .u64 0] 54))
  have hl := ((Box.new ((w.alloc (.cells ⟨cfgL c⟩ 37)).alloc (.cells #[.int .u64 tg, .int .i64 i, .int .u64 sm] 54)) 29 [.int .u64 l0, .int .u64 la, .int .u64 l2, .int .u64 l3]).alloc (.cells #[.int .u64 0, .int .i64 0, .int .u64 0] 54))
  have hr := (Box.new (((w.alloc (.cells ⟨cfgL c⟩ 37)).alloc (.cells #[.int .u64 tg, .int .i64 i, .int .u64 sm] 54)).alloc (.cells #[.int .u64 l0, .int .u64 la, .int .u64 l2, .int .u64 l3] 29)) 54 [.int .u64 0, .int .i64 0, .int .u64 0])
  have HB := Lib.hid (moreB (moreB (moreB (moreB (Below.refl w.heap.size w) (.cells ⟨cfgL c⟩ 37)) (.cells #[.int .u64 tg, .int .i64 i, .int .u64 sm] 54)) (.cells #[.int .u64 l0, .int .u64 la, .int .u64 l2, .int .u64 l3] 29)) (.cells #[.int .u64 0, .int .i64 0, .int .u64 0] 54))
  (try simp only [World.size_alloc] at hx hk hl hr)
  have HX := Lib.hid hx
  have HK := Lib.hid hk
  have HL := Lib.hid hl
  have HR := Lib.hid hr
  clear hx hk hl hr
  unfold cfgL at *
  generalize (((w.alloc _).alloc _).alloc _).alloc _ = V at *
  refine (signOf_strs c V HC.out).mono ?_
  rintro e w1 ⟨rfl, hb⟩
  have HX := Lib.hid (HX.out.below hb)
  have HK := Lib.hid (HK.out.below hb)
  have HL := Lib.hid (HL.out.below hb)
  have HR := Lib.hid (HR.out.below hb)
  have HB := Lib.hid (keepB hb HB.out)
  clear hb
  have k0 := HK.out.c 0 rfl
  have k1 := HK.out.c 1 rfl
  have k2 := HK.out.c 2 rfl
  have y0 := HL.out.c 0 rfl
  have y1 := HL.out.c 1 rfl
  have y2 := HL.out.c 2 rfl
  have y3 := HL.out.c 3 rfl
  go_wp2_with fail
  clear k0 k1 k2
  clear y0 y1 y2 y3
  refine (counts_seen c tg i sm l0 la l2 l3 na nn ns em er w1 HH.out).mono ?_
  rintro e w2 ⟨rfl, hb⟩
  have HB := Lib.hid (keepB hb HB.out)
  have HR := Lib.hid (HR.out.below hb)
  clear hb
  have hr := HR.out
  have r0 := hr.c 0 rfl
  have r1 := hr.c 1 rfl
  have r2 := hr.c 2 rfl
  have g0 := hr.f 0
  have g1 := hr.f 1
  have g2 := hr.f 2
  clear hr
  go_wp2_with fail
  refine bodyPost_ret (v := .tuple #[.agg ⟨[.int .u64 na, .int .i64 nn, .int .u64 ns]⟩, .bool em, .int .i64 er]) ?_ rfl ⟨rfl, below_look HB.out (by omega) _ _ _⟩
  exact (HR.out.look _ _ _).resultsL (t := 54) rfl (fun _ => by kernel_rfl) (fun _ => by kernel_rfl) rfl rfl rfl

set_option maxRecDepth 100000 in
set_option maxHeartbeats 1600000 in
theorem sgFull_strs (c : Cfg) (l0 la l2 l3 : Int) (w : World) (hc : c.Strs) : Calls Try.prog 18 #[.agg #[.int .u8 c.ob, .int .i64 c.inst, .int .i64 c.thr, .int .u8 c.kd, .int .i64 c.str, .int .i64 c.bits, .int .i64 c.cap, .int .i64 c.node, .int .i64 c.bat, .int .i64 c.chk, .int .u64 c.lim, .int .u64 c.most], .agg #[.int .u64 l0, .int .u64 la, .int .u64 l2, .int .u64 l3]] w fun e w' => e = .returned (.tuple #[.bool (fullB c la), .int .i64 (fullE c)]) ∧ Below w.heap.size w w' := by
  have HC := Lib.hid hc
  clear hc
  go_enter Try.func18, Try.ntmps18
  go_wp2_with fail
  have hx := ((Box.new w 37 (cfgL c)).alloc (.cells #[.int .u64 l0, .int .u64 la, .int .u64 l2, .int .u64 l3] 29))
  have hl := (Box.new (w.alloc (.cells ⟨cfgL c⟩ 37)) 29 [.int .u64 l0, .int .u64 la, .int .u64 l2, .int .u64 l3])
  have HB := Lib.hid (moreB (moreB (Below.refl w.heap.size w) (.cells ⟨cfgL c⟩ 37)) (.cells #[.int .u64 l0, .int .u64 la, .int .u64 l2, .int .u64 l3] 29))
  (try simp only [World.size_alloc] at hx hl)
  have HX := Lib.hid hx
  have HL := Lib.hid hl
  clear hx hl
  unfold cfgL at *
  generalize (w.alloc _).alloc _ = V at *
  refine (signOf_strs c V HC.out).mono ?_
  rintro e w1 ⟨rfl, hb⟩
  have HX := Lib.hid (HX.out.below hb)
  have HL := Lib.hid (HL.out.below hb)
  have HB := Lib.hid (keepB hb HB.out)
  clear hb
  have y0 := HL.out.c 0 rfl
  have y1 := HL.out.c 1 rfl
  have y2 := HL.out.c 2 rfl
  have y3 := HL.out.c 3 rfl
  go_wp2_with fail
  clear y0 y1 y2 y3
  refine (counts_full c l0 la l2 l3 w1).mono ?_
  rintro e w2 ⟨rfl, hb⟩
  have HB := Lib.hid (keepB hb HB.out)
  clear hb
  go_wp2_with fail
  go_ret2
  exact ⟨rfl, HB.out⟩

set_option maxRecDepth 100000 in
set_option maxHeartbeats 1600000 in
theorem sgMany_strs (c : Cfg) (m : Int) (w : World) (hm : IntKind.i64.wrap (2 * c.str) = m) (hc : c.Strs) : Calls Try.prog 20 #[.agg #[.int .u8 c.ob, .int .i64 c.inst, .int .i64 c.thr, .int .u8 c.kd, .int .i64 c.str, .int .i64 c.bits, .int .i64 c.cap, .int .i64 c.node, .int .i64 c.bat, .int .i64 c.chk, .int .u64 c.lim, .int .u64 c.most]] w fun e w' => e = .returned (.tuple #[.int .i64 m, .int .i64 0]) ∧ Below w.heap.size w w' := by
  have HM := Lib.hid hm
  have HC := Lib.hid hc
  clear hm hc
  go_enter Try.func20, Try.ntmps20
  go_wp2_with fail
  have hx := (Box.new w 37 (cfgL c))
  have HB := Lib.hid (moreB (Below.refl w.heap.size w) (.cells ⟨cfgL c⟩ 37))
  (try simp only [World.size_alloc] at hx)
  have HX := Lib.hid hx
  clear hx
  unfold cfgL at *
  generalize w.alloc _ = V at *
  refine (signOf_strs c V HC.out).mono ?_
  rintro e w1 ⟨rfl, hb⟩
  have HX := Lib.hid (HX.out.below hb)
  have HB := Lib.hid (keepB hb HB.out)
  clear hb
  go_wp2_with fail
  refine (counts_many c m w1 HM.out).mono ?_
  rintro e w2 ⟨rfl, hb⟩
  have HB := Lib.hid (keepB hb HB.out)
  clear hb
  go_wp2_with fail
  go_ret2
  exact ⟨rfl, HB.out⟩

set_option maxRecDepth 100000 in
set_option maxHeartbeats 1600000 in
theorem sgMany_no (c : Cfg) (w : World) (hc : ¬ c.May) : Calls Try.prog 20 #[.agg #[.int .u8 c.ob, .int .i64 c.inst, .int .i64 c.thr, .int .u8 c.kd, .int .i64 c.str, .int .i64 c.bits, .int .i64 c.cap, .int .i64 c.node, .int .i64 c.bat, .int .i64 c.chk, .int .u64 c.lim, .int .u64 c.most]] w fun e w' => e = .returned (.tuple #[.int .i64 0, .int .i64 40]) ∧ Below w.heap.size w w' := by
  have HC := Lib.hid hc
  clear hc
  go_enter Try.func20, Try.ntmps20
  go_wp2_with fail
  have HB := Lib.hid (newB w (.cells ⟨cfgL c⟩ 37))
  unfold cfgL at *
  generalize w.alloc _ = V at *
  refine (signOf_no c V HC.out).mono ?_
  rintro e w1 ⟨rfl, hb⟩
  have HB := Lib.hid (keepB hb HB.out)
  clear hb
  go_wp2_with fail
  go_ret2
  exact ⟨rfl, HB.out⟩

end Go.Proofs.Ytecjbgddjejjdaa
