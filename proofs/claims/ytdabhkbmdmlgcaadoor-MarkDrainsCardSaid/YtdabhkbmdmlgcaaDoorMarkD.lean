/- Chapter 19: the reference's Slots, asked, Mark, Arrive, Depart, Look. -/
import Derived.Test.YtdabhkbmdmlgcaaDoorMarkC
import Derived.Test.YtdabhkbmdmlgcaaDoorPartG
import Derived.Test.YtdabhkbmdmlgcaaDoorPartB
namespace Go.Proofs.YtdabhkbmdmlgcaaDoor
open Go.RowKit

def slotsB (c : Cfg) : Bool := decide (c.May ∧ c.kd = 1)

set_option maxRecDepth 100000 in
theorem rSlots_any (c : Cfg) (w : World) (hk : 0 ≤ c.most) : Calls Tryd.prog 62 #[.agg #[.int .u8 c.ob, .int .i64 c.inst, .int .i64 c.thr, .int .u8 c.kd, .int .i64 c.str, .int .i64 c.bits, .int .i64 c.cap, .int .i64 c.node, .int .i64 c.bat, .int .i64 c.chk, .int .u64 c.lim, .int .u64 c.most]] w fun e w' => e = .returned (.bool (slotsB c)) ∧ Below w.heap.size w w' := by
  have HK := Lib.hid hk
  clear hk
  go_enter Tryd.func62, Tryd.ntmps62
  go_wp2_with fail
  have HX := Lib.hid (Box.new w 24 (cfgL c))
  have HB := Lib.hid (newB w (.cells ⟨cfgL c⟩ 24))
  unfold cfgL at *
  generalize w.alloc _ = V at *
  refine (MayBe_any c V HK.out).mono ?_
  rintro e w1 ⟨rfl, hb⟩
  have HB := Lib.hid (keepB hb HB.out); have HX := Lib.hid (HX.out.below hb); clear hb
  have x3 := HX.out.c 3 rfl
  by_cases hm : c.May
  · rw [show mayC c = true from (mayC_iff c).2 hm]
    by_cases hkd : c.kd = 1
    · have e1 : (c.kd == 1) = true := by simp [hkd]
      have HZ := Lib.hid (show slotsB c = true by simp [slotsB, hm, hkd])
      clear hm hkd
      go_wp2_with fail
      go_ret
      exact ⟨ret_bool (by rw [HZ.out]), HB.out⟩
    · have e1 : (c.kd == 1) = false := by simp [hkd]
      have HZ := Lib.hid (show slotsB c = false by simp [slotsB, hkd])
      clear hm hkd
      go_wp2_with fail
      go_ret
      exact ⟨ret_bool (by rw [HZ.out]), HB.out⟩
  · rw [show mayC c = false from by simp [mayC, hm]]
    have HZ := Lib.hid (show slotsB c = false by simp [slotsB, hm])
    clear hm
    go_wp2_with fail
    go_ret
    exact ⟨ret_bool (by rw [HZ.out]), HB.out⟩

set_option maxRecDepth 100000 in
set_option maxHeartbeats 1600000 in
theorem rasked_any (c : Cfg) (v t : Int) (w : World) (hk : 0 ≤ c.most) : Calls Tryd.prog 43 #[.agg #[.int .u8 c.ob, .int .i64 c.inst, .int .i64 c.thr, .int .u8 c.kd, .int .i64 c.str, .int .i64 c.bits, .int .i64 c.cap, .int .i64 c.node, .int .i64 c.bat, .int .i64 c.chk, .int .u64 c.lim, .int .u64 c.most], .int .i64 v, .int .i64 t] w fun e w' => e = .returned (.int .i64 (mkE c v t)) ∧ Below w.heap.size w w' := by
  have HK := Lib.hid hk
  clear hk
  go_enter Tryd.func43, Tryd.ntmps43
  go_wp2_with fail
  have HX := Lib.hid (Box.new w 24 (cfgL c))
  have HB := Lib.hid (newB w (.cells ⟨cfgL c⟩ 24))
  unfold cfgL at *
  generalize w.alloc _ = V at *
  refine (rSlots_any c V HK.out).mono ?_
  rintro e w1 ⟨rfl, hb⟩
  have HB := Lib.hid (keepB hb HB.out); have HX := Lib.hid (HX.out.below hb); clear hb
  have x2 := HX.out.c 2 rfl
  by_cases hm : c.May ∧ c.kd = 1
  · rw [show slotsB c = true from decide_eq_true hm]
    by_cases hg : 0 ≤ v ∧ v < 2 ∧ 0 ≤ t ∧ t < c.thr
    · have HZ := Lib.hid (mkE_in hm hg)
      obtain ⟨h1, h2, h3, h4⟩ := hg
      clear hm
      go_wp2_with fail
      go_ret
      exact ⟨ret_i64 (by rw [HZ.out]), HB.out⟩
    · have HZ := Lib.hid (mkE_out hm hg)
      clear hm
      by_cases h1 : v < 0
      · go_wp2_with fail
        go_ret
        exact ⟨ret_i64 (by rw [HZ.out]), HB.out⟩
      have h1' : 0 ≤ v := by omega
      by_cases h2 : 1 < v
      · go_wp2_with fail
        go_ret
        exact ⟨ret_i64 (by rw [HZ.out]), HB.out⟩
      have h2' : v ≤ 1 := by omega
      by_cases h3 : t < 0
      · go_wp2_with fail
        go_ret
        exact ⟨ret_i64 (by rw [HZ.out]), HB.out⟩
      have h3' : 0 ≤ t := by omega
      have h4 : c.thr ≤ t := by omega
      clear hg h1 h2 h3
      go_wp2_with fail
      go_ret
      exact ⟨ret_i64 (by rw [HZ.out]), HB.out⟩
  · rw [show slotsB c = false from decide_eq_false hm]
    have HZ := Lib.hid (mkE_no hm v t)
    clear hm
    go_wp2_with fail
    go_ret
    exact ⟨ret_i64 (by rw [HZ.out]), HB.out⟩

theorem mkE_zero {c : Cfg} {v t : Int} (h : mkE c v t = 0) : (c.May ∧ c.kd = 1) ∧ 0 ≤ v ∧ v < 2 ∧ 0 ≤ t ∧ t < c.thr := by
  unfold mkE at h
  split at h
  · rename_i h1
    split at h
    · rename_i h2; exact ⟨h1, h2⟩
    · omega
  · omega

theorem rMark_any (c : Cfg) (v t : Int) (w : World) (h : mkE c v t = 0) : Calls Tryd.prog 44 #[.agg #[.int .u8 c.ob, .int .i64 c.inst, .int .i64 c.thr, .int .u8 c.kd, .int .i64 c.str, .int .i64 c.bits, .int .i64 c.cap, .int .i64 c.node, .int .i64 c.bat, .int .i64 c.chk, .int .u64 c.lim, .int .u64 c.most], .int .i64 v, .int .i64 t] w fun e w' => e = .returned (.int .i64 (atV c 6 v t)) ∧ Below w.heap.size w w' := by
  obtain ⟨hm, hg⟩ := mkE_zero h
  have hz := mark_has hm hg
  have HZ := Lib.hid (atV_in hm.1 hz)
  obtain ⟨g1, g2, g3⟩ := hasZ_t.1 hz
  obtain ⟨v', rfl⟩ := Int.eq_ofNat_of_zero_le g1
  obtain ⟨t', rfl⟩ := Int.eq_ofNat_of_zero_le g2
  have HG := Lib.hid (show hasP c.shp ⟨6, v', t'⟩ from g3)
  have HM := Lib.hid hm.1
  clear hm hg hz g1 g2 g3 h
  go_enter Tryd.func44, Tryd.ntmps44
  go_wp2_with fail
  refine (Where_any c ⟨6, v', t'⟩ _ HM.out HG.out).mono ?_
  rintro e w1 ⟨rfl, hb⟩
  have HB := Lib.hid (keepB hb (newB w _))
  clear hb
  go_wp2_with fail
  go_ret
  exact ⟨ret_i64 (by rw [HZ.out]; rfl), HB.out⟩

set_option maxRecDepth 100000 in
set_option maxHeartbeats 1600000 in
theorem rmArrive_any (c : Cfg) (v t : Int) (w : World) (hk : 0 ≤ c.most) : Calls Tryd.prog 15 #[.agg #[.int .u8 c.ob, .int .i64 c.inst, .int .i64 c.thr, .int .u8 c.kd, .int .i64 c.str, .int .i64 c.bits, .int .i64 c.cap, .int .i64 c.node, .int .i64 c.bat, .int .i64 c.chk, .int .u64 c.lim, .int .u64 c.most], .int .i64 v, .int .i64 t] w fun e w' => e = .returned (.tuple #[accV (mkA c v t accArr), .int .i64 (mkE c v t)]) ∧ Below w.heap.size w w' := by
  have HK := Lib.hid hk
  clear hk
  go_enter Tryd.func15, Tryd.ntmps15
  go_wp2_with fail
  have HX := Lib.hid ((Box.new w 24 (cfgL c)).alloc (.cells ⟨[.int .u8 0, .int .i64 0, .int .u64 0, .int .u64 0, .int .u64 0, .int .u64 0, .int .u64 0, .int .u64 0, .int .u64 0, .int .u64 0]⟩ 28))
  have HR := Lib.hid (Box.new (w.alloc (.cells ⟨cfgL c⟩ 24)) 28 [.int .u8 0, .int .i64 0, .int .u64 0, .int .u64 0, .int .u64 0, .int .u64 0, .int .u64 0, .int .u64 0, .int .u64 0, .int .u64 0])
  have HB := Lib.hid (moreB (newB w (.cells ⟨cfgL c⟩ 24)) (.cells ⟨[.int .u8 0, .int .i64 0, .int .u64 0, .int .u64 0, .int .u64 0, .int .u64 0, .int .u64 0, .int .u64 0, .int .u64 0, .int .u64 0]⟩ 28))
  rw [World.size_alloc] at HR
  unfold cfgL at *
  generalize (w.alloc _).alloc _ = V at *
  refine (rasked_any c v t V HK.out).mono ?_
  rintro e w1 ⟨rfl, hb⟩
  have HR := Lib.hid (HR.out.below hb)
  have HB := Lib.hid (keepB hb HB.out); have HX := Lib.hid (HX.out.below hb); clear hb
  by_cases he : mkE c v t = 0
  · have HE := Lib.hid he
    have HV := Lib.hid (show mkA c v t accArr = ⟨accArr.k, atV c 6 v t, accArr.old, accArr.new⟩ from if_pos he)
    rw [he]
    clear he
    have x0 := HX.out.c 0 rfl; have x1 := HX.out.c 1 rfl; have x2 := HX.out.c 2 rfl; have x3 := HX.out.c 3 rfl; have x4 := HX.out.c 4 rfl; have x5 := HX.out.c 5 rfl; have x6 := HX.out.c 6 rfl; have x7 := HX.out.c 7 rfl; have x8 := HX.out.c 8 rfl; have x9 := HX.out.c 9 rfl; have x10 := HX.out.c 10 rfl; have x11 := HX.out.c 11 rfl
    skip
    go_wp2_with fail
    refine (rMark_any c v t _ HE.out).mono ?_
    rintro e w2 ⟨rfl, hb⟩
    generalize hat : atV c 6 v t = q at *
    have HR := Lib.hid (HR.out.below hb)
    have HB := Lib.hid (keepB hb HB.out)
    clear x0 x1 x2 x3 x4 x5 x6 x7 x8 x9 x10 x11
    clear hat hb
    have hr := HR.out
    have r0 := hr.c 0 rfl
    have r1 := hr.c 1 rfl
    have r2 := hr.c 2 rfl
    have r3 := hr.c 3 rfl
    have r4 := hr.c 4 rfl
    have r5 := hr.c 5 rfl
    have r6 := hr.c 6 rfl
    have r7 := hr.c 7 rfl
    have r8 := hr.c 8 rfl
    have r9 := hr.c 9 rfl
    have g0 := hr.f 0
    have g1 := hr.f 1
    have g2 := hr.f 2
    have g3 := hr.f 3
    have g4 := hr.f 4
    have g5 := hr.f 5
    have g6 := hr.f 6
    have g7 := hr.f 7
    have g8 := hr.f 8
    have g9 := hr.f 9
    clear hr
    go_wp2_with fail
    refine bodyPost_ret (v := .tuple #[.agg ⟨[.int .u8 2, .int .i64 q, .int .u64 0, .int .u64 0, .int .u64 0, .int .u64 0, .int .u64 0, .int .u64 1, .int .u64 0, .int .u64 0]⟩, .int .i64 0]) ?_ rfl ⟨by rw [HV.out, HE.out]; rfl, below_acc HB.out (by omega) _ _ _ _ _ _ _ _ _ _⟩
    exact (HR.out.acc _ _ _ _ _ _ _ _ _ _).results2 (t := 28) rfl (fun _ => by kernel_rfl) (fun _ => by kernel_rfl) rfl rfl
  · have HV := Lib.hid (show mkA c v t accArr = .none from if_neg he)
    have e1 : (mkE c v t != 0) = true := by simpa using he
    generalize hE : mkE c v t = E at *
    have HE := Lib.hid hE
    clear hE he
    have hr := HR.out
    have r0 := hr.c 0 rfl
    have r1 := hr.c 1 rfl
    have r2 := hr.c 2 rfl
    have r3 := hr.c 3 rfl
    have r4 := hr.c 4 rfl
    have r5 := hr.c 5 rfl
    have r6 := hr.c 6 rfl
    have r7 := hr.c 7 rfl
    have r8 := hr.c 8 rfl
    have r9 := hr.c 9 rfl
    have g0 := hr.f 0
    have g1 := hr.f 1
    have g2 := hr.f 2
    have g3 := hr.f 3
    have g4 := hr.f 4
    have g5 := hr.f 5
    have g6 := hr.f 6
    have g7 := hr.f 7
    have g8 := hr.f 8
    have g9 := hr.f 9
    clear hr
    go_wp2_with fail
    refine bodyPost_ret (v := .tuple #[.agg ⟨[.int .u8 0, .int .i64 0, .int .u64 0, .int .u64 0, .int .u64 0, .int .u64 0, .int .u64 0, .int .u64 0, .int .u64 0, .int .u64 0]⟩, .int .i64 E]) ?_ rfl ⟨by rw [HV.out, HE.out]; rfl, below_acc HB.out (by omega) _ _ _ _ _ _ _ _ _ _⟩
    exact (HR.out.acc _ _ _ _ _ _ _ _ _ _).results2 (t := 28) rfl (fun _ => by kernel_rfl) (fun _ => by kernel_rfl) rfl rfl

set_option maxRecDepth 100000 in
set_option maxHeartbeats 1600000 in
theorem rmDepart_any (c : Cfg) (v t : Int) (w : World) (hk : 0 ≤ c.most) : Calls Tryd.prog 17 #[.agg #[.int .u8 c.ob, .int .i64 c.inst, .int .i64 c.thr, .int .u8 c.kd, .int .i64 c.str, .int .i64 c.bits, .int .i64 c.cap, .int .i64 c.node, .int .i64 c.bat, .int .i64 c.chk, .int .u64 c.lim, .int .u64 c.most], .int .i64 v, .int .i64 t] w fun e w' => e = .returned (.tuple #[accV (mkA c v t accDep), .int .i64 (mkE c v t)]) ∧ Below w.heap.size w w' := by
  have HK := Lib.hid hk
  clear hk
  go_enter Tryd.func17, Tryd.ntmps17
  go_wp2_with fail
  have HX := Lib.hid ((Box.new w 24 (cfgL c)).alloc (.cells ⟨[.int .u8 0, .int .i64 0, .int .u64 0, .int .u64 0, .int .u64 0, .int .u64 0, .int .u64 0, .int .u64 0, .int .u64 0, .int .u64 0]⟩ 28))
  have HR := Lib.hid (Box.new (w.alloc (.cells ⟨cfgL c⟩ 24)) 28 [.int .u8 0, .int .i64 0, .int .u64 0, .int .u64 0, .int .u64 0, .int .u64 0, .int .u64 0, .int .u64 0, .int .u64 0, .int .u64 0])
  have HB := Lib.hid (moreB (newB w (.cells ⟨cfgL c⟩ 24)) (.cells ⟨[.int .u8 0, .int .i64 0, .int .u64 0, .int .u64 0, .int .u64 0, .int .u64 0, .int .u64 0, .int .u64 0, .int .u64 0, .int .u64 0]⟩ 28))
  rw [World.size_alloc] at HR
  unfold cfgL at *
  generalize (w.alloc _).alloc _ = V at *
  refine (rasked_any c v t V HK.out).mono ?_
  rintro e w1 ⟨rfl, hb⟩
  have HR := Lib.hid (HR.out.below hb)
  have HB := Lib.hid (keepB hb HB.out); have HX := Lib.hid (HX.out.below hb); clear hb
  by_cases he : mkE c v t = 0
  · have HE := Lib.hid he
    have HV := Lib.hid (show mkA c v t accDep = ⟨accDep.k, atV c 6 v t, accDep.old, accDep.new⟩ from if_pos he)
    rw [he]
    clear he
    have x0 := HX.out.c 0 rfl; have x1 := HX.out.c 1 rfl; have x2 := HX.out.c 2 rfl; have x3 := HX.out.c 3 rfl; have x4 := HX.out.c 4 rfl; have x5 := HX.out.c 5 rfl; have x6 := HX.out.c 6 rfl; have x7 := HX.out.c 7 rfl; have x8 := HX.out.c 8 rfl; have x9 := HX.out.c 9 rfl; have x10 := HX.out.c 10 rfl; have x11 := HX.out.c 11 rfl
    skip
    go_wp2_with fail
    refine (rMark_any c v t _ HE.out).mono ?_
    rintro e w2 ⟨rfl, hb⟩
    generalize hat : atV c 6 v t = q at *
    have HR := Lib.hid (HR.out.below hb)
    have HB := Lib.hid (keepB hb HB.out)
    clear x0 x1 x2 x3 x4 x5 x6 x7 x8 x9 x10 x11
    clear hat hb
    have hr := HR.out
    have r0 := hr.c 0 rfl
    have r1 := hr.c 1 rfl
    have r2 := hr.c 2 rfl
    have r3 := hr.c 3 rfl
    have r4 := hr.c 4 rfl
    have r5 := hr.c 5 rfl
    have r6 := hr.c 6 rfl
    have r7 := hr.c 7 rfl
    have r8 := hr.c 8 rfl
    have r9 := hr.c 9 rfl
    have g0 := hr.f 0
    have g1 := hr.f 1
    have g2 := hr.f 2
    have g3 := hr.f 3
    have g4 := hr.f 4
    have g5 := hr.f 5
    have g6 := hr.f 6
    have g7 := hr.f 7
    have g8 := hr.f 8
    have g9 := hr.f 9
    clear hr
    go_wp2_with fail
    refine bodyPost_ret (v := .tuple #[.agg ⟨[.int .u8 2, .int .i64 q, .int .u64 0, .int .u64 0, .int .u64 0, .int .u64 0, .int .u64 0, .int .u64 0, .int .u64 0, .int .u64 0]⟩, .int .i64 0]) ?_ rfl ⟨by rw [HV.out, HE.out]; rfl, below_acc HB.out (by omega) _ _ _ _ _ _ _ _ _ _⟩
    exact (HR.out.acc _ _ _ _ _ _ _ _ _ _).results2 (t := 28) rfl (fun _ => by kernel_rfl) (fun _ => by kernel_rfl) rfl rfl
  · have HV := Lib.hid (show mkA c v t accDep = .none from if_neg he)
    have e1 : (mkE c v t != 0) = true := by simpa using he
    generalize hE : mkE c v t = E at *
    have HE := Lib.hid hE
    clear hE he
    have hr := HR.out
    have r0 := hr.c 0 rfl
    have r1 := hr.c 1 rfl
    have r2 := hr.c 2 rfl
    have r3 := hr.c 3 rfl
    have r4 := hr.c 4 rfl
    have r5 := hr.c 5 rfl
    have r6 := hr.c 6 rfl
    have r7 := hr.c 7 rfl
    have r8 := hr.c 8 rfl
    have r9 := hr.c 9 rfl
    have g0 := hr.f 0
    have g1 := hr.f 1
    have g2 := hr.f 2
    have g3 := hr.f 3
    have g4 := hr.f 4
    have g5 := hr.f 5
    have g6 := hr.f 6
    have g7 := hr.f 7
    have g8 := hr.f 8
    have g9 := hr.f 9
    clear hr
    go_wp2_with fail
    refine bodyPost_ret (v := .tuple #[.agg ⟨[.int .u8 0, .int .i64 0, .int .u64 0, .int .u64 0, .int .u64 0, .int .u64 0, .int .u64 0, .int .u64 0, .int .u64 0, .int .u64 0]⟩, .int .i64 E]) ?_ rfl ⟨by rw [HV.out, HE.out]; rfl, below_acc HB.out (by omega) _ _ _ _ _ _ _ _ _ _⟩
    exact (HR.out.acc _ _ _ _ _ _ _ _ _ _).results2 (t := 28) rfl (fun _ => by kernel_rfl) (fun _ => by kernel_rfl) rfl rfl

set_option maxRecDepth 100000 in
set_option maxHeartbeats 1600000 in
theorem rmLook_any (c : Cfg) (v tg t sm : Int) (w : World) (hk : 0 ≤ c.most) : Calls Tryd.prog 19 #[.agg #[.int .u8 c.ob, .int .i64 c.inst, .int .i64 c.thr, .int .u8 c.kd, .int .i64 c.str, .int .i64 c.bits, .int .i64 c.cap, .int .i64 c.node, .int .i64 c.bat, .int .i64 c.chk, .int .u64 c.lim, .int .u64 c.most], .int .i64 v, .agg #[.int .u64 tg, .int .i64 t, .int .u64 sm]] w fun e w' => e = .returned (.tuple #[accV (mkA c v t accLook), .int .i64 (mkE c v t)]) ∧ Below w.heap.size w w' := by
  have HK := Lib.hid hk
  clear hk
  go_enter Tryd.func19, Tryd.ntmps19
  go_wp2_with fail
  have HX := Lib.hid (((Box.new w 24 (cfgL c)).alloc (.cells #[.int .u64 tg, .int .i64 t, .int .u64 sm] 36)).alloc (.cells ⟨[.int .u8 0, .int .i64 0, .int .u64 0, .int .u64 0, .int .u64 0, .int .u64 0, .int .u64 0, .int .u64 0, .int .u64 0, .int .u64 0]⟩ 28))
  have HR := Lib.hid (Box.new ((w.alloc (.cells ⟨cfgL c⟩ 24)).alloc (.cells #[.int .u64 tg, .int .i64 t, .int .u64 sm] 36)) 28 [.int .u8 0, .int .i64 0, .int .u64 0, .int .u64 0, .int .u64 0, .int .u64 0, .int .u64 0, .int .u64 0, .int .u64 0, .int .u64 0])
  have hl := (Box.new (w.alloc (.cells ⟨cfgL c⟩ 24)) 36 [.int .u64 tg, .int .i64 t, .int .u64 sm]).alloc (.cells ⟨[.int .u8 0, .int .i64 0, .int .u64 0, .int .u64 0, .int .u64 0, .int .u64 0, .int .u64 0, .int .u64 0, .int .u64 0, .int .u64 0]⟩ 28)
  have HB := Lib.hid (moreB (moreB (newB w (.cells ⟨cfgL c⟩ 24)) (.cells #[.int .u64 tg, .int .i64 t, .int .u64 sm] 36)) (.cells ⟨[.int .u8 0, .int .i64 0, .int .u64 0, .int .u64 0, .int .u64 0, .int .u64 0, .int .u64 0, .int .u64 0, .int .u64 0, .int .u64 0]⟩ 28))
  simp only [World.size_alloc] at HR hl
  have HL := Lib.hid hl
  clear hl
  unfold cfgL at *
  generalize ((w.alloc _).alloc _).alloc _ = V at *
  refine (rasked_any c v t V HK.out).mono ?_
  rintro e w1 ⟨rfl, hb⟩
  have HL := Lib.hid (HL.out.below hb); have HR := Lib.hid (HR.out.below hb)
  have HB := Lib.hid (keepB hb HB.out); have HX := Lib.hid (HX.out.below hb); clear hb
  by_cases he : mkE c v t = 0
  · have HE := Lib.hid he
    have HV := Lib.hid (show mkA c v t accLook = ⟨accLook.k, atV c 6 v t, accLook.old, accLook.new⟩ from if_pos he)
    rw [he]
    clear he
    have x0 := HX.out.c 0 rfl; have x1 := HX.out.c 1 rfl; have x2 := HX.out.c 2 rfl; have x3 := HX.out.c 3 rfl; have x4 := HX.out.c 4 rfl; have x5 := HX.out.c 5 rfl; have x6 := HX.out.c 6 rfl; have x7 := HX.out.c 7 rfl; have x8 := HX.out.c 8 rfl; have x9 := HX.out.c 9 rfl; have x10 := HX.out.c 10 rfl; have x11 := HX.out.c 11 rfl
    have l1 := HL.out.c 1 rfl
    go_wp2_with fail
    refine (rMark_any c v t _ HE.out).mono ?_
    rintro e w2 ⟨rfl, hb⟩
    generalize hat : atV c 6 v t = q at *
    have HR := Lib.hid (HR.out.below hb)
    have HB := Lib.hid (keepB hb HB.out)
    clear x0 x1 x2 x3 x4 x5 x6 x7 x8 x9 x10 x11
    clear hat hb
    have hr := HR.out
    have r0 := hr.c 0 rfl
    have r1 := hr.c 1 rfl
    have r2 := hr.c 2 rfl
    have r3 := hr.c 3 rfl
    have r4 := hr.c 4 rfl
    have r5 := hr.c 5 rfl
    have r6 := hr.c 6 rfl
    have r7 := hr.c 7 rfl
    have r8 := hr.c 8 rfl
    have r9 := hr.c 9 rfl
    have g0 := hr.f 0
    have g1 := hr.f 1
    have g2 := hr.f 2
    have g3 := hr.f 3
    have g4 := hr.f 4
    have g5 := hr.f 5
    have g6 := hr.f 6
    have g7 := hr.f 7
    have g8 := hr.f 8
    have g9 := hr.f 9
    clear hr
    go_wp2_with fail
    refine bodyPost_ret (v := .tuple #[.agg ⟨[.int .u8 1, .int .i64 q, .int .u64 0, .int .u64 0, .int .u64 0, .int .u64 0, .int .u64 0, .int .u64 0, .int .u64 0, .int .u64 0]⟩, .int .i64 0]) ?_ rfl ⟨by rw [HV.out, HE.out]; rfl, below_acc HB.out (by omega) _ _ _ _ _ _ _ _ _ _⟩
    exact (HR.out.acc _ _ _ _ _ _ _ _ _ _).results2 (t := 28) rfl (fun _ => by kernel_rfl) (fun _ => by kernel_rfl) rfl rfl
  · have HV := Lib.hid (show mkA c v t accLook = .none from if_neg he)
    have e1 : (mkE c v t != 0) = true := by simpa using he
    generalize hE : mkE c v t = E at *
    have HE := Lib.hid hE
    clear hE he
    have hr := HR.out
    have r0 := hr.c 0 rfl
    have r1 := hr.c 1 rfl
    have r2 := hr.c 2 rfl
    have r3 := hr.c 3 rfl
    have r4 := hr.c 4 rfl
    have r5 := hr.c 5 rfl
    have r6 := hr.c 6 rfl
    have r7 := hr.c 7 rfl
    have r8 := hr.c 8 rfl
    have r9 := hr.c 9 rfl
    have g0 := hr.f 0
    have g1 := hr.f 1
    have g2 := hr.f 2
    have g3 := hr.f 3
    have g4 := hr.f 4
    have g5 := hr.f 5
    have g6 := hr.f 6
    have g7 := hr.f 7
    have g8 := hr.f 8
    have g9 := hr.f 9
    clear hr
    go_wp2_with fail
    refine bodyPost_ret (v := .tuple #[.agg ⟨[.int .u8 0, .int .i64 0, .int .u64 0, .int .u64 0, .int .u64 0, .int .u64 0, .int .u64 0, .int .u64 0, .int .u64 0, .int .u64 0]⟩, .int .i64 E]) ?_ rfl ⟨by rw [HV.out, HE.out]; rfl, below_acc HB.out (by omega) _ _ _ _ _ _ _ _ _ _⟩
    exact (HR.out.acc _ _ _ _ _ _ _ _ _ _).results2 (t := 28) rfl (fun _ => by kernel_rfl) (fun _ => by kernel_rfl) rfl rfl

end Go.Proofs.YtdabhkbmdmlgcaaDoor
