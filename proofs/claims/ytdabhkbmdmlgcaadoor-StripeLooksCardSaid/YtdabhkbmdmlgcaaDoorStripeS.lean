/- Chapter 20: the reference's Arrive, Depart, Full, Look, Seen. -/
import Derived.Test.YtdabhkbmdmlgcaaDoorStripeR
import Derived.Test.YtdabhkbmdmlgcaaDoorStripeE
namespace Go.Proofs.YtdabhkbmdmlgcaaDoor
open Go.RowKit


set_option maxRecDepth 100000 in
set_option maxHeartbeats 1600000 in
theorem rsArrive_any (c : Cfg) (v t : Int) (w : World) (hk : 0 ≤ c.most) : Calls Tryd.prog 25 #[.agg #[.int .u8 c.ob, .int .i64 c.inst, .int .i64 c.thr, .int .u8 c.kd, .int .i64 c.str, .int .i64 c.bits, .int .i64 c.cap, .int .i64 c.node, .int .i64 c.bat, .int .i64 c.chk, .int .u64 c.lim, .int .u64 c.most], .int .i64 v, .int .i64 t] w fun e w' => e = .returned (.tuple #[accV (stA c 7 v t), .int .i64 (stE c v t)]) ∧ Below w.heap.size w w' := by
  have HP := Lib.hid hk
  clear hk
  go_enter Tryd.func25, Tryd.ntmps25
  go_wp2_with fail
  have HR := Lib.hid (Box.new (w.alloc (.cells ⟨cfgL c⟩ 24)) 28 [.int .u8 0, .int .i64 0, .int .u64 0, .int .u64 0, .int .u64 0, .int .u64 0, .int .u64 0, .int .u64 0, .int .u64 0, .int .u64 0])
  have HB := Lib.hid (moreB (newB w (.cells ⟨cfgL c⟩ 24)) (.cells ⟨[.int .u8 0, .int .i64 0, .int .u64 0, .int .u64 0, .int .u64 0, .int .u64 0, .int .u64 0, .int .u64 0, .int .u64 0, .int .u64 0]⟩ 28))
  rw [World.size_alloc] at HR
  unfold cfgL at *
  generalize (w.alloc _).alloc _ = V at *
  refine (rAdded_any c 7 v t V (by omega) HP.out).mono ?_
  rintro e w1 ⟨rfl, hb⟩
  have HR := Lib.hid (HR.out.below hb)
  have HB := Lib.hid (keepB hb HB.out)
  clear hb
  generalize hY : stA c 7 v t = y
  generalize hE : stE c v t = E
  have HY := Lib.hid hY; have HE := Lib.hid hE
  clear hY hE
  rw [accV_form]
  have hr := HR.out
  have r0 := hr.c 0 rfl
  have r1 := hr.c 1 rfl
  have r2 := hr.c 2 rfl
  have r3 := hr.c 3 rfl
  have r4 := hr.c 4 rfl
  have r5 := hr.c 5 rfl
  have r6 := hr.c 6 rfl
  have r7 := hr.c 7 rfl
  have r8 := hr.c 8 rfl
  have r9 := hr.c 9 rfl
  have g0 := hr.f 0
  have g1 := hr.f 1
  have g2 := hr.f 2
  have g3 := hr.f 3
  have g4 := hr.f 4
  have g5 := hr.f 5
  have g6 := hr.f 6
  have g7 := hr.f 7
  have g8 := hr.f 8
  have g9 := hr.f 9
  clear hr
  go_wp2_with fail
  refine bodyPost_ret (v := .tuple #[.agg ⟨[.int .u8 y.k, .int .i64 y.at', .int .u64 y.old.t, .int .u64 y.old.a, .int .u64 y.old.b, .int .u64 y.old.c, .int .u64 y.new.t, .int .u64 y.new.a, .int .u64 y.new.b, .int .u64 y.new.c]⟩, .int .i64 E]) ?_ rfl ⟨by rw [HY.out, HE.out]; rfl, below_acc HB.out (by omega) _ _ _ _ _ _ _ _ _ _⟩
  exact (HR.out.acc _ _ _ _ _ _ _ _ _ _).results2 (t := 28) rfl (fun _ => by kernel_rfl) (fun _ => by kernel_rfl) rfl rfl

set_option maxRecDepth 100000 in
set_option maxHeartbeats 1600000 in
theorem rsDepart_any (c : Cfg) (v t : Int) (w : World) (hk : 0 ≤ c.most) : Calls Tryd.prog 27 #[.agg #[.int .u8 c.ob, .int .i64 c.inst, .int .i64 c.thr, .int .u8 c.kd, .int .i64 c.str, .int .i64 c.bits, .int .i64 c.cap, .int .i64 c.node, .int .i64 c.bat, .int .i64 c.chk, .int .u64 c.lim, .int .u64 c.most], .int .i64 v, .int .i64 t] w fun e w' => e = .returned (.tuple #[accV (stA c 8 v t), .int .i64 (stE c v t)]) ∧ Below w.heap.size w w' := by
  have HP := Lib.hid hk
  clear hk
  go_enter Tryd.func27, Tryd.ntmps27
  go_wp2_with fail
  have HR := Lib.hid (Box.new (w.alloc (.cells ⟨cfgL c⟩ 24)) 28 [.int .u8 0, .int .i64 0, .int .u64 0, .int .u64 0, .int .u64 0, .int .u64 0, .int .u64 0, .int .u64 0, .int .u64 0, .int .u64 0])
  have HB := Lib.hid (moreB (newB w (.cells ⟨cfgL c⟩ 24)) (.cells ⟨[.int .u8 0, .int .i64 0, .int .u64 0, .int .u64 0, .int .u64 0, .int .u64 0, .int .u64 0, .int .u64 0, .int .u64 0, .int .u64 0]⟩ 28))
  rw [World.size_alloc] at HR
  unfold cfgL at *
  generalize (w.alloc _).alloc _ = V at *
  refine (rAdded_any c 8 v t V (by omega) HP.out).mono ?_
  rintro e w1 ⟨rfl, hb⟩
  have HR := Lib.hid (HR.out.below hb)
  have HB := Lib.hid (keepB hb HB.out)
  clear hb
  generalize hY : stA c 8 v t = y
  generalize hE : stE c v t = E
  have HY := Lib.hid hY; have HE := Lib.hid hE
  clear hY hE
  rw [accV_form]
  have hr := HR.out
  have r0 := hr.c 0 rfl
  have r1 := hr.c 1 rfl
  have r2 := hr.c 2 rfl
  have r3 := hr.c 3 rfl
  have r4 := hr.c 4 rfl
  have r5 := hr.c 5 rfl
  have r6 := hr.c 6 rfl
  have r7 := hr.c 7 rfl
  have r8 := hr.c 8 rfl
  have r9 := hr.c 9 rfl
  have g0 := hr.f 0
  have g1 := hr.f 1
  have g2 := hr.f 2
  have g3 := hr.f 3
  have g4 := hr.f 4
  have g5 := hr.f 5
  have g6 := hr.f 6
  have g7 := hr.f 7
  have g8 := hr.f 8
  have g9 := hr.f 9
  clear hr
  go_wp2_with fail
  refine bodyPost_ret (v := .tuple #[.agg ⟨[.int .u8 y.k, .int .i64 y.at', .int .u64 y.old.t, .int .u64 y.old.a, .int .u64 y.old.b, .int .u64 y.old.c, .int .u64 y.new.t, .int .u64 y.new.a, .int .u64 y.new.b, .int .u64 y.new.c]⟩, .int .i64 E]) ?_ rfl ⟨by rw [HY.out, HE.out]; rfl, below_acc HB.out (by omega) _ _ _ _ _ _ _ _ _ _⟩
  exact (HR.out.acc _ _ _ _ _ _ _ _ _ _).results2 (t := 28) rfl (fun _ => by kernel_rfl) (fun _ => by kernel_rfl) rfl rfl

set_option maxRecDepth 100000 in
theorem rsFull_any (c : Cfg) (l0 la l2 l3 : Int) (w : World) (hk : 0 ≤ c.most) : Calls Tryd.prog 29 #[.agg #[.int .u8 c.ob, .int .i64 c.inst, .int .i64 c.thr, .int .u8 c.kd, .int .i64 c.str, .int .i64 c.bits, .int .i64 c.cap, .int .i64 c.node, .int .i64 c.bat, .int .i64 c.chk, .int .u64 c.lim, .int .u64 c.most], .agg #[.int .u64 l0, .int .u64 la, .int .u64 l2, .int .u64 l3]] w fun e w' => e = .returned (.tuple #[.bool (fullB c la), .int .i64 (fullE c)]) ∧ Below w.heap.size w w' := by
  have HP := Lib.hid hk
  clear hk
  go_enter Tryd.func29, Tryd.ntmps29
  go_wp2_with fail
  have HX := Lib.hid ((Box.new w 24 (cfgL c)).alloc (.cells #[.int .u64 l0, .int .u64 la, .int .u64 l2, .int .u64 l3] 26))
  have hl := Box.new (w.alloc (.cells ⟨cfgL c⟩ 24)) 26 [.int .u64 l0, .int .u64 la, .int .u64 l2, .int .u64 l3]
  have HB := Lib.hid (moreB (newB w (.cells ⟨cfgL c⟩ 24)) (.cells #[.int .u64 l0, .int .u64 la, .int .u64 l2, .int .u64 l3] 26))
  simp only [World.size_alloc] at hl
  have HL := Lib.hid hl
  clear hl
  unfold cfgL at *
  generalize (w.alloc _).alloc _ = V at *
  refine (rStripes_any c V HP.out).mono ?_
  rintro e w1 ⟨rfl, hb⟩
  have HL := Lib.hid (HL.out.below hb)
  have HB := Lib.hid (keepB hb HB.out); have HX := Lib.hid (HX.out.below hb); clear hb
  have x11 := HX.out.c 11 rfl
  have l1 := HL.out.c 1 rfl
  by_cases hm : c.Strs
  · rw [show stripesB c = true from decide_eq_true hm]
    have H1 := Lib.hid (show fullB c la = decide (c.most ≤ la) from if_pos hm)
    have H2 := Lib.hid (show fullE c = 0 from if_pos hm)
    clear hm
    go_wp2_with fail
    go_ret2
    exact ⟨by rw [H1.out, H2.out]; rfl, HB.out⟩
  · rw [show stripesB c = false from decide_eq_false hm]
    have H1 := Lib.hid (show fullB c la = false from if_neg hm)
    have H2 := Lib.hid (show fullE c = 40 from if_neg hm)
    clear hm
    go_wp2_with fail
    go_ret2
    exact ⟨by rw [H1.out, H2.out]; rfl, HB.out⟩

set_option maxRecDepth 100000 in
set_option maxHeartbeats 3200000 in
theorem rsLook_any (c : Cfg) (v tg i sm : Int) (w : World) (hk : 0 ≤ c.most) : Calls Tryd.prog 31 #[.agg #[.int .u8 c.ob, .int .i64 c.inst, .int .i64 c.thr, .int .u8 c.kd, .int .i64 c.str, .int .i64 c.bits, .int .i64 c.cap, .int .i64 c.node, .int .i64 c.bat, .int .i64 c.chk, .int .u64 c.lim, .int .u64 c.most], .int .i64 v, .agg #[.int .u64 tg, .int .i64 i, .int .u64 sm]] w fun e w' => e = .returned (.tuple #[accV (lkA c v i), .int .i64 (lkE c v i)]) ∧ Below w.heap.size w w' := by
  have HP := Lib.hid hk
  clear hk
  go_enter Tryd.func31, Tryd.ntmps31
  go_wp2_with fail
  have hx := ((Box.new w 24 (cfgL c)).alloc (.cells #[.int .u64 tg, .int .i64 i, .int .u64 sm] 36)).alloc (.cells ⟨[.int .u8 0, .int .i64 0, .int .u64 0, .int .u64 0, .int .u64 0, .int .u64 0, .int .u64 0, .int .u64 0, .int .u64 0, .int .u64 0]⟩ 28)
  have hk := (Box.new (w.alloc (.cells ⟨cfgL c⟩ 24)) 36 [.int .u64 tg, .int .i64 i, .int .u64 sm]).alloc (.cells ⟨[.int .u8 0, .int .i64 0, .int .u64 0, .int .u64 0, .int .u64 0, .int .u64 0, .int .u64 0, .int .u64 0, .int .u64 0, .int .u64 0]⟩ 28)
  have hr := Box.new ((w.alloc (.cells ⟨cfgL c⟩ 24)).alloc (.cells #[.int .u64 tg, .int .i64 i, .int .u64 sm] 36)) 28 [.int .u8 0, .int .i64 0, .int .u64 0, .int .u64 0, .int .u64 0, .int .u64 0, .int .u64 0, .int .u64 0, .int .u64 0, .int .u64 0]
  have HB := Lib.hid (moreB (moreB (newB w (.cells ⟨cfgL c⟩ 24)) (.cells #[.int .u64 tg, .int .i64 i, .int .u64 sm] 36)) (.cells ⟨[.int .u8 0, .int .i64 0, .int .u64 0, .int .u64 0, .int .u64 0, .int .u64 0, .int .u64 0, .int .u64 0, .int .u64 0, .int .u64 0]⟩ 28))
  simp only [World.size_alloc] at hk hr
  have HX := Lib.hid hx; have HK := Lib.hid hk; have HR := Lib.hid hr
  clear hx hk hr
  unfold cfgL at *
  generalize ((w.alloc _).alloc _).alloc _ = V at *
  refine (rStripes_any c V HP.out).mono ?_
  rintro e w1 ⟨rfl, hb⟩
  have HK := Lib.hid (HK.out.below hb); have HR := Lib.hid (HR.out.below hb)
  have HB := Lib.hid (keepB hb HB.out); have HX := Lib.hid (HX.out.below hb); clear hb
  by_cases hm : c.Strs
  · rw [show stripesB c = true from decide_eq_true hm]
    have hstr := hm.str
    have hw2 : IntKind.i64.wrap (2 * c.str) = 2 * c.str := by rw [IntKind.wrap_i64]; omega
    by_cases hg : 0 ≤ v ∧ v < 2 ∧ 0 ≤ i ∧ i < 2 * c.str
    · have HE := Lib.hid (lkE_in hm hg)
      have HV := Lib.hid (lkA_in (lkE_in hm hg))
      by_cases h0 : i < c.str
      · have HW := Lib.hid (fun (U : World) => rCount_where c 8 v i U (by omega) hm ⟨hg.1, hg.2.1⟩ ⟨by omega, by omega⟩)
        have HA := Lib.hid (show lkAt c v i = atV c 8 v i from if_pos h0)
        obtain ⟨h1, h2, h3, h4⟩ := hg
        have h2' : v ≤ 1 := by omega
        clear hm hstr h2
        generalize hq : atV c 8 v i = q at *
        have HQ := Lib.hid hq
        clear hq
        have x4 := HX.out.c 4 rfl
        have k1 := HK.out.c 1 rfl
        have y0 := fun o => (HX.out.alloc o).c 0 rfl
        have y1 := fun o => (HX.out.alloc o).c 1 rfl
        have y2 := fun o => (HX.out.alloc o).c 2 rfl
        have y3 := fun o => (HX.out.alloc o).c 3 rfl
        have y4 := fun o => (HX.out.alloc o).c 4 rfl
        have y5 := fun o => (HX.out.alloc o).c 5 rfl
        have y6 := fun o => (HX.out.alloc o).c 6 rfl
        have y7 := fun o => (HX.out.alloc o).c 7 rfl
        have y8 := fun o => (HX.out.alloc o).c 8 rfl
        have y9 := fun o => (HX.out.alloc o).c 9 rfl
        have y10 := fun o => (HX.out.alloc o).c 10 rfl
        have y11 := fun o => (HX.out.alloc o).c 11 rfl
        have m1 := fun o => (HK.out.alloc o).c 1 rfl
        go_wp2_with fail
        refine (HW.out _).mono ?_
        rintro e w2 ⟨rfl, hb⟩
        have HR2 := Lib.hid ((HR.out.alloc (.cells #[.int .u8 8, .int .i64 v, .int .i64 i] 75)).below hb)
        have HB2 := Lib.hid (keepB hb (moreB HB.out (.cells #[.int .u8 8, .int .i64 v, .int .i64 i] 75)))
        clear x4 k1 y0 y1 y2 y3 y4 y5 y6 y7 y8 y9 y10 y11 m1 hb
        have hr := HR2.out
        have r0 := hr.c 0 rfl
        have r1 := hr.c 1 rfl
        have r2 := hr.c 2 rfl
        have r3 := hr.c 3 rfl
        have r4 := hr.c 4 rfl
        have r5 := hr.c 5 rfl
        have r6 := hr.c 6 rfl
        have r7 := hr.c 7 rfl
        have r8 := hr.c 8 rfl
        have r9 := hr.c 9 rfl
        have g0 := hr.f 0
        have g1 := hr.f 1
        have g2 := hr.f 2
        have g3 := hr.f 3
        have g4 := hr.f 4
        have g5 := hr.f 5
        have g6 := hr.f 6
        have g7 := hr.f 7
        have g8 := hr.f 8
        have g9 := hr.f 9
        clear hr
        go_wp2_with fail
        refine bodyPost_ret (v := .tuple #[.agg ⟨[.int .u8 1, .int .i64 q, .int .u64 0, .int .u64 0, .int .u64 0, .int .u64 0, .int .u64 0, .int .u64 0, .int .u64 0, .int .u64 0]⟩, .int .i64 0]) ?_ rfl ⟨by rw [HV.out, HE.out, HA.out]; rfl, below_acc HB2.out (by omega) _ _ _ _ _ _ _ _ _ _⟩
        exact (HR2.out.acc _ _ _ _ _ _ _ _ _ _).results2 (t := 28) rfl (fun _ => by kernel_rfl) (fun _ => by kernel_rfl) rfl rfl
      · have HW := Lib.hid (fun (U : World) => rCount_where c 7 v (i - c.str) U (by omega) hm ⟨hg.1, hg.2.1⟩ ⟨by omega, by omega⟩)
        have HA := Lib.hid (show lkAt c v i = atV c 7 v (i - c.str) from if_neg h0)
        have h5 : c.str ≤ i := by omega
        have hwi : IntKind.i64.wrap (i - c.str) = i - c.str := by rw [IntKind.wrap_i64]; omega
        obtain ⟨h1, h2, h3, h4⟩ := hg
        have h2' : v ≤ 1 := by omega
        clear hm hstr h2
        generalize hq : atV c 7 v (i - c.str) = q at *
        have HQ := Lib.hid hq
        clear hq
        have x4 := HX.out.c 4 rfl
        have k1 := HK.out.c 1 rfl
        have y0 := fun o => (HX.out.alloc o).c 0 rfl
        have y1 := fun o => (HX.out.alloc o).c 1 rfl
        have y2 := fun o => (HX.out.alloc o).c 2 rfl
        have y3 := fun o => (HX.out.alloc o).c 3 rfl
        have y4 := fun o => (HX.out.alloc o).c 4 rfl
        have y5 := fun o => (HX.out.alloc o).c 5 rfl
        have y6 := fun o => (HX.out.alloc o).c 6 rfl
        have y7 := fun o => (HX.out.alloc o).c 7 rfl
        have y8 := fun o => (HX.out.alloc o).c 8 rfl
        have y9 := fun o => (HX.out.alloc o).c 9 rfl
        have y10 := fun o => (HX.out.alloc o).c 10 rfl
        have y11 := fun o => (HX.out.alloc o).c 11 rfl
        have m1 := fun o => (HK.out.alloc o).c 1 rfl
        go_wp2_with fail
        refine (HW.out _).mono ?_
        rintro e w2 ⟨rfl, hb⟩
        have HR2 := Lib.hid ((HR.out.alloc (.cells #[.int .u8 7, .int .i64 v, .int .i64 (i - c.str)] 75)).below hb)
        have HB2 := Lib.hid (keepB hb (moreB HB.out (.cells #[.int .u8 7, .int .i64 v, .int .i64 (i - c.str)] 75)))
        clear x4 k1 y0 y1 y2 y3 y4 y5 y6 y7 y8 y9 y10 y11 m1 hb
        have hr := HR2.out
        have r0 := hr.c 0 rfl
        have r1 := hr.c 1 rfl
        have r2 := hr.c 2 rfl
        have r3 := hr.c 3 rfl
        have r4 := hr.c 4 rfl
        have r5 := hr.c 5 rfl
        have r6 := hr.c 6 rfl
        have r7 := hr.c 7 rfl
        have r8 := hr.c 8 rfl
        have r9 := hr.c 9 rfl
        have g0 := hr.f 0
        have g1 := hr.f 1
        have g2 := hr.f 2
        have g3 := hr.f 3
        have g4 := hr.f 4
        have g5 := hr.f 5
        have g6 := hr.f 6
        have g7 := hr.f 7
        have g8 := hr.f 8
        have g9 := hr.f 9
        clear hr
        go_wp2_with fail
        refine bodyPost_ret (v := .tuple #[.agg ⟨[.int .u8 1, .int .i64 q, .int .u64 0, .int .u64 0, .int .u64 0, .int .u64 0, .int .u64 0, .int .u64 0, .int .u64 0, .int .u64 0]⟩, .int .i64 0]) ?_ rfl ⟨by rw [HV.out, HE.out, HA.out]; rfl, below_acc HB2.out (by omega) _ _ _ _ _ _ _ _ _ _⟩
        exact (HR2.out.acc _ _ _ _ _ _ _ _ _ _).results2 (t := 28) rfl (fun _ => by kernel_rfl) (fun _ => by kernel_rfl) rfl rfl
    · have HE := Lib.hid (lkE_out hm hg)
      have HV := Lib.hid (lkA_out (c := c) (v := v) (i := i) (by rw [lkE_out hm hg]; decide))
      have x4 := HX.out.c 4 rfl
      have k1 := HK.out.c 1 rfl
      have hr := HR.out
      have r0 := hr.c 0 rfl
      have r1 := hr.c 1 rfl
      have r2 := hr.c 2 rfl
      have r3 := hr.c 3 rfl
      have r4 := hr.c 4 rfl
      have r5 := hr.c 5 rfl
      have r6 := hr.c 6 rfl
      have r7 := hr.c 7 rfl
      have r8 := hr.c 8 rfl
      have r9 := hr.c 9 rfl
      have g0 := hr.f 0
      have g1 := hr.f 1
      have g2 := hr.f 2
      have g3 := hr.f 3
      have g4 := hr.f 4
      have g5 := hr.f 5
      have g6 := hr.f 6
      have g7 := hr.f 7
      have g8 := hr.f 8
      have g9 := hr.f 9
      clear hr hm hstr
      by_cases h1 : v < 0
      · go_wp2_with fail
        refine bodyPost_ret (v := .tuple #[.agg ⟨[.int .u8 0, .int .i64 0, .int .u64 0, .int .u64 0, .int .u64 0, .int .u64 0, .int .u64 0, .int .u64 0, .int .u64 0, .int .u64 0]⟩, .int .i64 2]) ?_ rfl ⟨by rw [HV.out, HE.out]; rfl, below_acc HB.out (by omega) _ _ _ _ _ _ _ _ _ _⟩
        exact (HR.out.acc _ _ _ _ _ _ _ _ _ _).results2 (t := 28) rfl (fun _ => by kernel_rfl) (fun _ => by kernel_rfl) rfl rfl
      have h1' : 0 ≤ v := by omega
      by_cases h2 : 1 < v
      · go_wp2_with fail
        refine bodyPost_ret (v := .tuple #[.agg ⟨[.int .u8 0, .int .i64 0, .int .u64 0, .int .u64 0, .int .u64 0, .int .u64 0, .int .u64 0, .int .u64 0, .int .u64 0, .int .u64 0]⟩, .int .i64 2]) ?_ rfl ⟨by rw [HV.out, HE.out]; rfl, below_acc HB.out (by omega) _ _ _ _ _ _ _ _ _ _⟩
        exact (HR.out.acc _ _ _ _ _ _ _ _ _ _).results2 (t := 28) rfl (fun _ => by kernel_rfl) (fun _ => by kernel_rfl) rfl rfl
      have h2' : v ≤ 1 := by omega
      by_cases h3 : i < 0
      · go_wp2_with fail
        refine bodyPost_ret (v := .tuple #[.agg ⟨[.int .u8 0, .int .i64 0, .int .u64 0, .int .u64 0, .int .u64 0, .int .u64 0, .int .u64 0, .int .u64 0, .int .u64 0, .int .u64 0]⟩, .int .i64 2]) ?_ rfl ⟨by rw [HV.out, HE.out]; rfl, below_acc HB.out (by omega) _ _ _ _ _ _ _ _ _ _⟩
        exact (HR.out.acc _ _ _ _ _ _ _ _ _ _).results2 (t := 28) rfl (fun _ => by kernel_rfl) (fun _ => by kernel_rfl) rfl rfl
      have h3' : 0 ≤ i := by omega
      have h4 : 2 * c.str ≤ i := by omega
      clear hg h1 h2 h3
      go_wp2_with fail
      refine bodyPost_ret (v := .tuple #[.agg ⟨[.int .u8 0, .int .i64 0, .int .u64 0, .int .u64 0, .int .u64 0, .int .u64 0, .int .u64 0, .int .u64 0, .int .u64 0, .int .u64 0]⟩, .int .i64 2]) ?_ rfl ⟨by rw [HV.out, HE.out]; rfl, below_acc HB.out (by omega) _ _ _ _ _ _ _ _ _ _⟩
      exact (HR.out.acc _ _ _ _ _ _ _ _ _ _).results2 (t := 28) rfl (fun _ => by kernel_rfl) (fun _ => by kernel_rfl) rfl rfl
  · rw [show stripesB c = false from decide_eq_false hm]
    have HE := Lib.hid (lkE_no hm v i)
    have HV := Lib.hid (lkA_out (c := c) (v := v) (i := i) (by rw [lkE_no hm v i]; decide))
    have hr := HR.out
    have r0 := hr.c 0 rfl
    have r1 := hr.c 1 rfl
    have r2 := hr.c 2 rfl
    have r3 := hr.c 3 rfl
    have r4 := hr.c 4 rfl
    have r5 := hr.c 5 rfl
    have r6 := hr.c 6 rfl
    have r7 := hr.c 7 rfl
    have r8 := hr.c 8 rfl
    have r9 := hr.c 9 rfl
    have g0 := hr.f 0
    have g1 := hr.f 1
    have g2 := hr.f 2
    have g3 := hr.f 3
    have g4 := hr.f 4
    have g5 := hr.f 5
    have g6 := hr.f 6
    have g7 := hr.f 7
    have g8 := hr.f 8
    have g9 := hr.f 9
    clear hr hm
    go_wp2_with fail
    refine bodyPost_ret (v := .tuple #[.agg ⟨[.int .u8 0, .int .i64 0, .int .u64 0, .int .u64 0, .int .u64 0, .int .u64 0, .int .u64 0, .int .u64 0, .int .u64 0, .int .u64 0]⟩, .int .i64 40]) ?_ rfl ⟨by rw [HV.out, HE.out]; rfl, below_acc HB.out (by omega) _ _ _ _ _ _ _ _ _ _⟩
    exact (HR.out.acc _ _ _ _ _ _ _ _ _ _).results2 (t := 28) rfl (fun _ => by kernel_rfl) (fun _ => by kernel_rfl) rfl rfl

set_option maxRecDepth 100000 in
set_option maxHeartbeats 6400000 in
theorem rsSeen_any (c : Cfg) (tg i sm l0 la l2 l3 : Int) (w : World) (hk : 0 ≤ c.most) :
    Calls Tryd.prog 33 #[.agg #[.int .u8 c.ob, .int .i64 c.inst, .int .i64 c.thr, .int .u8 c.kd, .int .i64 c.str, .int .i64 c.bits, .int .i64 c.cap, .int .i64 c.node, .int .i64 c.bat, .int .i64 c.chk, .int .u64 c.lim, .int .u64 c.most], .agg #[.int .u64 tg, .int .i64 i, .int .u64 sm], .agg #[.int .u64 l0, .int .u64 la, .int .u64 l2, .int .u64 l3]] w fun e w' => e = .returned (ssR c tg i sm la) ∧ Below w.heap.size w w' := by
  have HP := Lib.hid hk
  clear hk
  go_enter Tryd.func33, Tryd.ntmps33
  go_wp2_with fail
  have hx := (((Box.new w 24 (cfgL c)).alloc (.cells #[.int .u64 tg, .int .i64 i, .int .u64 sm] 36)).alloc (.cells #[.int .u64 l0, .int .u64 la, .int .u64 l2, .int .u64 l3] 26)).alloc (.cells #[.int .u64 0, .int .i64 0, .int .u64 0] 36)
  have hk := ((Box.new (w.alloc (.cells ⟨cfgL c⟩ 24)) 36 [.int .u64 tg, .int .i64 i, .int .u64 sm]).alloc (.cells #[.int .u64 l0, .int .u64 la, .int .u64 l2, .int .u64 l3] 26)).alloc (.cells #[.int .u64 0, .int .i64 0, .int .u64 0] 36)
  have hl := (Box.new ((w.alloc (.cells ⟨cfgL c⟩ 24)).alloc (.cells #[.int .u64 tg, .int .i64 i, .int .u64 sm] 36)) 26 [.int .u64 l0, .int .u64 la, .int .u64 l2, .int .u64 l3]).alloc (.cells #[.int .u64 0, .int .i64 0, .int .u64 0] 36)
  have hr := Box.new (((w.alloc (.cells ⟨cfgL c⟩ 24)).alloc (.cells #[.int .u64 tg, .int .i64 i, .int .u64 sm] 36)).alloc (.cells #[.int .u64 l0, .int .u64 la, .int .u64 l2, .int .u64 l3] 26)) 36 [.int .u64 0, .int .i64 0, .int .u64 0]
  have HB := Lib.hid (moreB (moreB (moreB (newB w (.cells ⟨cfgL c⟩ 24)) (.cells #[.int .u64 tg, .int .i64 i, .int .u64 sm] 36)) (.cells #[.int .u64 l0, .int .u64 la, .int .u64 l2, .int .u64 l3] 26)) (.cells #[.int .u64 0, .int .i64 0, .int .u64 0] 36))
  simp only [World.size_alloc] at hk hl hr
  have HX := Lib.hid hx; have HK := Lib.hid hk; have HL := Lib.hid hl; have HR := Lib.hid hr
  clear hx hk hl hr
  unfold cfgL at *
  generalize (((w.alloc _).alloc _).alloc _).alloc _ = V at *
  refine (rStripes_any c V HP.out).mono ?_
  rintro e w1 ⟨rfl, hb⟩
  have HK := Lib.hid (HK.out.below hb); have HL := Lib.hid (HL.out.below hb); have HR := Lib.hid (HR.out.below hb)
  have HB := Lib.hid (keepB hb HB.out); have HX := Lib.hid (HX.out.below hb); clear hb
  have hr := HR.out
  have r0 := hr.c 0 rfl
  have r1 := hr.c 1 rfl
  have r2 := hr.c 2 rfl
  have g0 := hr.f 0
  have g1 := hr.f 1
  have g2 := hr.f 2
  clear hr
  by_cases hm : c.Strs
  · rw [show stripesB c = true from decide_eq_true hm]
    have HM := Lib.hid hm
    have hstr := hm.str
    have hw2 : IntKind.i64.wrap (2 * c.str) = 2 * c.str := by rw [IntKind.wrap_i64]; omega
    clear hm
    have x4 := HX.out.c 4 rfl
    have hk := HK.out
    have k0 := hk.c 0 rfl
    have k1 := hk.c 1 rfl
    have k2 := hk.c 2 rfl
    have l1 := HL.out.c 1 rfl
    clear hk
    by_cases hg : 0 ≤ i ∧ i < 2 * c.str
    · obtain ⟨n, hn⟩ : ∃ n, n = i + 1 := ⟨_, rfl⟩
      have hw1 : IntKind.i64.wrap (i + 1) = n := by rw [hn, IntKind.wrap_i64]; omega
      obtain ⟨g5, g6⟩ := hg
      by_cases h0 : i < c.str
      · have hS := (sumZ_0 h0 sm la).symm
        have h1 : n < 2 * c.str := by omega
        have HS := Lib.hid (ssR_on HM.out (i := i) ⟨g5, by omega⟩ tg sm la)
        rw [← hn] at HS
        generalize sumZ c i sm la = S at *
        clear hstr hn
        go_wp2_with fail
        refine bodyPost_ret (v := .tuple #[.agg ⟨[.int .u64 tg, .int .i64 n, .int .u64 S]⟩, .bool false, .int .i64 0]) ?_ rfl ⟨by rw [HS.out]; rfl, below_look HB.out (by omega) _ _ _⟩
        exact (HR.out.look _ _ _).resultsL (t := 36) rfl (fun _ => by kernel_rfl) (fun _ => by kernel_rfl) rfl rfl rfl
      · have hS := (sumZ_1 h0 sm la).symm
        have h0' : c.str ≤ i := by omega
        by_cases h1 : n < 2 * c.str
        · have HS := Lib.hid (ssR_on HM.out (i := i) ⟨g5, by omega⟩ tg sm la)
          rw [← hn] at HS
          generalize sumZ c i sm la = S at *
          clear h0 hstr hn
          go_wp2_with fail
          refine bodyPost_ret (v := .tuple #[.agg ⟨[.int .u64 tg, .int .i64 n, .int .u64 S]⟩, .bool false, .int .i64 0]) ?_ rfl ⟨by rw [HS.out]; rfl, below_look HB.out (by omega) _ _ _⟩
          exact (HR.out.look _ _ _).resultsL (t := 36) rfl (fun _ => by kernel_rfl) (fun _ => by kernel_rfl) rfl rfl rfl
        · have h2 : 2 * c.str ≤ n := by omega
          by_cases hz : sumZ c i sm la = 0
          · have HS := Lib.hid (ssR_end HM.out (i := i) ⟨g5, by omega⟩ tg hz)
            rw [← hn] at HS
            rw [hz] at hS
            clear h0 h1 hstr hn hz
            go_wp2_with fail
            refine bodyPost_ret (v := .tuple #[.agg ⟨[.int .u64 tg, .int .i64 n, .int .u64 0]⟩, .bool true, .int .i64 0]) ?_ rfl ⟨by rw [HS.out]; rfl, below_look HB.out (by omega) _ _ _⟩
            exact (HR.out.look _ _ _).resultsL (t := 36) rfl (fun _ => by kernel_rfl) (fun _ => by kernel_rfl) rfl rfl rfl
          · have HS := Lib.hid (ssR_back HM.out (i := i) ⟨g5, by omega⟩ tg hz)
            generalize sumZ c i sm la = S at *
            have h3 : (S != 0) = true := by simpa using hz
            clear h0 h1 hstr hn hz
            go_wp2_with fail
            refine bodyPost_ret (v := .tuple #[.agg ⟨[.int .u64 tg, .int .i64 0, .int .u64 0]⟩, .bool false, .int .i64 0]) ?_ rfl ⟨by rw [HS.out]; rfl, below_look HB.out (by omega) _ _ _⟩
            exact (HR.out.look _ _ _).resultsL (t := 36) rfl (fun _ => by kernel_rfl) (fun _ => by kernel_rfl) rfl rfl rfl
    · have HS := Lib.hid (ssR_out HM.out hg tg sm la)
      clear hstr
      by_cases h1 : i < 0
      · go_wp2_with fail
        refine bodyPost_ret (v := .tuple #[.agg ⟨[.int .u64 0, .int .i64 0, .int .u64 0]⟩, .bool false, .int .i64 2]) ?_ rfl ⟨by rw [HS.out]; rfl, below_look HB.out (by omega) _ _ _⟩
        exact (HR.out.look _ _ _).resultsL (t := 36) rfl (fun _ => by kernel_rfl) (fun _ => by kernel_rfl) rfl rfl rfl
      have h1' : 0 ≤ i := by omega
      have h2 : 2 * c.str ≤ i := by omega
      clear hg h1
      go_wp2_with fail
      refine bodyPost_ret (v := .tuple #[.agg ⟨[.int .u64 0, .int .i64 0, .int .u64 0]⟩, .bool false, .int .i64 2]) ?_ rfl ⟨by rw [HS.out]; rfl, below_look HB.out (by omega) _ _ _⟩
      exact (HR.out.look _ _ _).resultsL (t := 36) rfl (fun _ => by kernel_rfl) (fun _ => by kernel_rfl) rfl rfl rfl
  · rw [show stripesB c = false from decide_eq_false hm]
    have HS := Lib.hid (ssR_no hm tg i sm la)
    clear hm
    go_wp2_with fail
    refine bodyPost_ret (v := .tuple #[.agg ⟨[.int .u64 0, .int .i64 0, .int .u64 0]⟩, .bool false, .int .i64 40]) ?_ rfl ⟨by rw [HS.out]; rfl, below_look HB.out (by omega) _ _ _⟩
    exact (HR.out.look _ _ _).resultsL (t := 36) rfl (fun _ => by kernel_rfl) (fun _ => by kernel_rfl) rfl rfl rfl

end Go.Proofs.YtdabhkbmdmlgcaaDoor
