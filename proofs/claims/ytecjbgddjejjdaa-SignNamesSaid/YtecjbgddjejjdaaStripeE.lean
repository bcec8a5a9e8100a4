/- Chapter 20: stripe.Look, Seen. -/
import Derived.Test.YtecjbgddjejjdaaStripeD
import Derived.Test.YtecjbgddjejjdaaMarkE
namespace Go.Proofs.Ytecjbgddjejjdaa
open Go.RowKit


theorem lk_any {c : Cfg} (h : c.Strs) (v : Int) {i : Int} (g : 0 ≤ i ∧ i < 2 * c.str) : atA c (sideK (whS c i)) v (whT c i) ⟨1, 0, ⟨0, 0, 0, 0⟩, ⟨0, 0, 0, 0⟩⟩ = lkA c v i ∧ atE c (sideK (whS c i)) v (whT c i) = lkE c v i ∧ (whS c i == 2) = false := by
  by_cases h0 : i < c.str
  · obtain ⟨a, b⟩ := wh_0 (c := c) (i := i) ⟨g.1, h0⟩
    obtain ⟨d, e⟩ := lk_0 h (v := v) (i := i) ⟨g.1, h0⟩
    rw [a, b]
    exact ⟨d, e, rfl⟩
  · obtain ⟨a, b⟩ := wh_1 (c := c) (i := i) ⟨by omega, g.2⟩
    obtain ⟨d, e⟩ := lk_1 h (v := v) (i := i) ⟨by omega, g.2⟩
    rw [a, b]
    exact ⟨d, e, rfl⟩
theorem which_any (c : Cfg) (i : Int) (w : World) (h : c.Strs) (hi : i ≤ 9223372036854775807) : Calls Try.prog 104 #[.agg #[.int .u8 c.ob, .int .i64 c.inst, .int .i64 c.thr, .int .u8 c.kd, .int .i64 c.str, .int .i64 c.bits, .int .i64 c.cap, .int .i64 c.node, .int .i64 c.bat, .int .i64 c.chk, .int .u64 c.lim, .int .u64 c.most], .int .i64 i] w fun e w' => e = .returned (.tuple #[.int .i64 (whS c i), .int .i64 (whT c i)]) ∧ Below w.heap.size w w' := by
  have hs := h.str
  by_cases h0 : i < 0
  · exact which_neg c i w hs h0
  · obtain ⟨q, rfl⟩ := Int.eq_ofNat_of_zero_le (show 0 ≤ i by omega)
    exact which_in c q w hs (by omega)

set_option maxRecDepth 100000 in
set_option maxHeartbeats 3200000 in
theorem sLook_any (c : Cfg) (v tg i sm : Int) (w : World) (hp : PwO c w) (hi : i ≤ 9223372036854775807) : Calls Try.prog 100 #[.agg #[.int .u8 c.ob, .int .i64 c.inst, .int .i64 c.thr, .int .u8 c.kd, .int .i64 c.str, .int .i64 c.bits, .int .i64 c.cap, .int .i64 c.node, .int .i64 c.bat, .int .i64 c.chk, .int .u64 c.lim, .int .u64 c.most], .int .i64 v, .agg #[.int .u64 tg, .int .i64 i, .int .u64 sm]] w fun e w' => e = .returned (.tuple #[accV (lkA c v i), .int .i64 (lkE c v i)]) ∧ Below w.heap.size w w' := by
  have HP := Lib.hid hp; have HI := Lib.hid hi
  clear hp hi
  go_enter Try.func100, Try.ntmps100
  go_wp2_with fail
  have hx := ((Box.new w 37 (cfgL c)).alloc (.cells #[.int .u64 tg, .int .i64 i, .int .u64 sm] 54)).alloc (.cells ⟨[.int .u8 0, .int .i64 0, .int .u64 0, .int .u64 0, .int .u64 0, .int .u64 0, .int .u64 0, .int .u64 0, .int .u64 0, .int .u64 0]⟩ 39)
  have hk := (Box.new (w.alloc (.cells ⟨cfgL c⟩ 37)) 54 [.int .u64 tg, .int .i64 i, .int .u64 sm]).alloc (.cells ⟨[.int .u8 0, .int .i64 0, .int .u64 0, .int .u64 0, .int .u64 0, .int .u64 0, .int .u64 0, .int .u64 0, .int .u64 0, .int .u64 0]⟩ 39)
  have hr := Box.new ((w.alloc (.cells ⟨cfgL c⟩ 37)).alloc (.cells #[.int .u64 tg, .int .i64 i, .int .u64 sm] 54)) 39 [.int .u8 0, .int .i64 0, .int .u64 0, .int .u64 0, .int .u64 0, .int .u64 0, .int .u64 0, .int .u64 0, .int .u64 0, .int .u64 0]
  have HB := Lib.hid (moreB (moreB (newB w (.cells ⟨cfgL c⟩ 37)) (.cells #[.int .u64 tg, .int .i64 i, .int .u64 sm] 54)) (.cells ⟨[.int .u8 0, .int .i64 0, .int .u64 0, .int .u64 0, .int .u64 0, .int .u64 0, .int .u64 0, .int .u64 0, .int .u64 0, .int .u64 0]⟩ 39))
  simp only [World.size_alloc] at hk hr
  have HX := Lib.hid hx; have HK := Lib.hid hk; have HR := Lib.hid hr
  clear hx hk hr
  unfold cfgL at *
  generalize ((w.alloc _).alloc _).alloc _ = V at *
  refine (sMay_any c V).mono ?_
  rintro e w1 ⟨rfl, hb⟩
  have HK := Lib.hid (HK.out.below hb); have HR := Lib.hid (HR.out.below hb)
  have HB := Lib.hid (keepB hb HB.out); have HX := Lib.hid (HX.out.below hb); clear hb
  by_cases hm : c.Strs
  · rw [show stripesB c = true from decide_eq_true hm]
    have HM := Lib.hid hm
    clear hm
    have x0 := HX.out.c 0 rfl; have x1 := HX.out.c 1 rfl; have x2 := HX.out.c 2 rfl; have x3 := HX.out.c 3 rfl; have x4 := HX.out.c 4 rfl; have x5 := HX.out.c 5 rfl; have x6 := HX.out.c 6 rfl; have x7 := HX.out.c 7 rfl; have x8 := HX.out.c 8 rfl; have x9 := HX.out.c 9 rfl; have x10 := HX.out.c 10 rfl; have x11 := HX.out.c 11 rfl
    have k1 := HK.out.c 1 rfl
    go_wp2_with fail
    refine (which_any c i _ HM.out HI.out).mono ?_
    rintro e w2 ⟨rfl, hb⟩
    clear x0 x1 x2 x3 x4 x5 x6 x7 x8 x9 x10 x11
    clear k1
    have HR := Lib.hid (HR.out.below hb)
    have HB := Lib.hid (keepB hb HB.out); have HX := Lib.hid (HX.out.below hb); clear hb
    by_cases hg : 0 ≤ i ∧ i < 2 * c.str
    · obtain ⟨a1, a2, a3⟩ := lk_any HM.out v hg
      generalize whS c i = s at *
      generalize whT c i = t at *
      have HV := Lib.hid a1.symm; have HE := Lib.hid a2.symm
      clear a1 a2 hg
      have x0 := HX.out.c 0 rfl; have x1 := HX.out.c 1 rfl; have x2 := HX.out.c 2 rfl; have x3 := HX.out.c 3 rfl; have x4 := HX.out.c 4 rfl; have x5 := HX.out.c 5 rfl; have x6 := HX.out.c 6 rfl; have x7 := HX.out.c 7 rfl; have x8 := HX.out.c 8 rfl; have x9 := HX.out.c 9 rfl; have x10 := HX.out.c 10 rfl; have x11 := HX.out.c 11 rfl
      go_wp2_with fail
      refine (show Calls Try.prog 105 #[.agg #[.int .u8 c.ob, .int .i64 c.inst, .int .i64 c.thr, .int .u8 c.kd, .int .i64 c.str, .int .i64 c.bits, .int .i64 c.cap, .int .i64 c.node, .int .i64 c.bat, .int .i64 c.chk, .int .u64 c.lim, .int .u64 c.most], .int .i64 s, .int .i64 v, .int .i64 t, .agg #[.int .u8 1, .int .i64 0, .int .u64 0, .int .u64 0, .int .u64 0, .int .u64 0, .int .u64 0, .int .u64 0, .int .u64 0, .int .u64 0]] w2 _ from sAt_any c s v t ⟨1, 0, ⟨0, 0, 0, 0⟩, ⟨0, 0, 0, 0⟩⟩ w2 (HP.out.more HB.out)).mono ?_
      rintro e w3 ⟨rfl, hb⟩
      have HR := Lib.hid (HR.out.below hb)
      have HB := Lib.hid (keepB hb HB.out)
      clear x0 x1 x2 x3 x4 x5 x6 x7 x8 x9 x10 x11
      clear hb
      generalize hY : atA c (sideK s) v t ⟨1, 0, ⟨0, 0, 0, 0⟩, ⟨0, 0, 0, 0⟩⟩ = y at *
      generalize hE : atE c (sideK s) v t = E at *
      clear hY hE
      rw [accV_form]
      have hr := HR.out
      have r0 := hr.c 0 rfl
      have r1 := hr.c 1 rfl
      have r2 := hr.c 2 rfl
      have r3 := hr.c 3 rfl
      have r4 := hr.c 4 rfl
      have r5 := hr.c 5 rfl
      have r6 := hr.c 6 rfl
      have r7 := hr.c 7 rfl
      have r8 := hr.c 8 rfl
      have r9 := hr.c 9 rfl
      have g0 := hr.f 0
      have g1 := hr.f 1
      have g2 := hr.f 2
      have g3 := hr.f 3
      have g4 := hr.f 4
      have g5 := hr.f 5
      have g6 := hr.f 6
      have g7 := hr.f 7
      have g8 := hr.f 8
      have g9 := hr.f 9
      clear hr
      go_wp2_with fail
      refine bodyPost_ret (v := .tuple #[.agg ⟨[.int .u8 y.k, .int .i64 y.at', .int .u64 y.old.t, .int .u64 y.old.a, .int .u64 y.old.b, .int .u64 y.old.c, .int .u64 y.new.t, .int .u64 y.new.a, .int .u64 y.new.b, .int .u64 y.new.c]⟩, .int .i64 E]) ?_ rfl ⟨by rw [HV.out, HE.out]; rfl, below_acc HB.out (by omega) _ _ _ _ _ _ _ _ _ _⟩
      exact (HR.out.acc _ _ _ _ _ _ _ _ _ _).results2 (t := 39) rfl (fun _ => by kernel_rfl) (fun _ => by kernel_rfl) rfl rfl
    · rw [(wh_out hg).1]
      have hE := lkE_out HM.out (v := v) (i := i) (fun h => hg ⟨h.2.2.1, h.2.2.2⟩)
      have HV := Lib.hid (lkA_out (c := c) (v := v) (i := i) (by rw [hE]; decide))
      have HE := Lib.hid hE
      clear hE hg
      have hr := HR.out
      have r0 := hr.c 0 rfl
      have r1 := hr.c 1 rfl
      have r2 := hr.c 2 rfl
      have r3 := hr.c 3 rfl
      have r4 := hr.c 4 rfl
      have r5 := hr.c 5 rfl
      have r6 := hr.c 6 rfl
      have r7 := hr.c 7 rfl
      have r8 := hr.c 8 rfl
      have r9 := hr.c 9 rfl
      have g0 := hr.f 0
      have g1 := hr.f 1
      have g2 := hr.f 2
      have g3 := hr.f 3
      have g4 := hr.f 4
      have g5 := hr.f 5
      have g6 := hr.f 6
      have g7 := hr.f 7
      have g8 := hr.f 8
      have g9 := hr.f 9
      clear hr
      go_wp2_with fail
      refine bodyPost_ret (v := .tuple #[.agg ⟨[.int .u8 0, .int .i64 0, .int .u64 0, .int .u64 0, .int .u64 0, .int .u64 0, .int .u64 0, .int .u64 0, .int .u64 0, .int .u64 0]⟩, .int .i64 2]) ?_ rfl ⟨by rw [HV.out, HE.out]; rfl, below_acc HB.out (by omega) _ _ _ _ _ _ _ _ _ _⟩
      exact (HR.out.acc _ _ _ _ _ _ _ _ _ _).results2 (t := 39) rfl (fun _ => by kernel_rfl) (fun _ => by kernel_rfl) rfl rfl
  · rw [show stripesB c = false from decide_eq_false hm]
    have hE := lkE_no hm v i
    have HV := Lib.hid (lkA_out (c := c) (v := v) (i := i) (by rw [hE]; decide))
    have HE := Lib.hid hE
    have hr := HR.out
    have r0 := hr.c 0 rfl
    have r1 := hr.c 1 rfl
    have r2 := hr.c 2 rfl
    have r3 := hr.c 3 rfl
    have r4 := hr.c 4 rfl
    have r5 := hr.c 5 rfl
    have r6 := hr.c 6 rfl
    have r7 := hr.c 7 rfl
    have r8 := hr.c 8 rfl
    have r9 := hr.c 9 rfl
    have g0 := hr.f 0
    have g1 := hr.f 1
    have g2 := hr.f 2
    have g3 := hr.f 3
    have g4 := hr.f 4
    have g5 := hr.f 5
    have g6 := hr.f 6
    have g7 := hr.f 7
    have g8 := hr.f 8
    have g9 := hr.f 9
    clear hr hm hE
    go_wp2_with fail
    refine bodyPost_ret (v := .tuple #[.agg ⟨[.int .u8 0, .int .i64 0, .int .u64 0, .int .u64 0, .int .u64 0, .int .u64 0, .int .u64 0, .int .u64 0, .int .u64 0, .int .u64 0]⟩, .int .i64 40]) ?_ rfl ⟨by rw [HV.out, HE.out]; rfl, below_acc HB.out (by omega) _ _ _ _ _ _ _ _ _ _⟩
    exact (HR.out.acc _ _ _ _ _ _ _ _ _ _).results2 (t := 39) rfl (fun _ => by kernel_rfl) (fun _ => by kernel_rfl) rfl rfl

theorem seenT_form (tg i S : Int) (b : Bool) (e : Int) : seenT tg i S b e = .tuple #[.agg ⟨[.int .u64 tg, .int .i64 i, .int .u64 S]⟩, .bool b, .int .i64 e] := rfl
theorem sumZ_0 {c : Cfg} {i : Int} (h : i < c.str) (sm la : Int) : sumZ c i sm la = IntKind.u64.wrap (sm + la) := if_pos h
theorem sumZ_1 {c : Cfg} {i : Int} (h : ¬ i < c.str) (sm la : Int) : sumZ c i sm la = IntKind.u64.wrap (sm - la) := if_neg h

set_option maxRecDepth 100000 in
set_option maxHeartbeats 6400000 in
theorem sSeen_any (c : Cfg) (tg i sm l0 la l2 l3 : Int) (w : World) (hi : i ≤ 9223372036854775807) :
    Calls Try.prog 101 #[.agg #[.int .u8 c.ob, .int .i64 c.inst, .int .i64 c.thr, .int .u8 c.kd, .int .i64 c.str, .int .i64 c.bits, .int .i64 c.cap, .int .i64 c.node, .int .i64 c.bat, .int .i64 c.chk, .int .u64 c.lim, .int .u64 c.most], .agg #[.int .u64 tg, .int .i64 i, .int .u64 sm], .agg #[.int .u64 l0, .int .u64 la, .int .u64 l2, .int .u64 l3]] w fun e w' => e = .returned (ssR c tg i sm la) ∧ Below w.heap.size w w' := by
  have HI := Lib.hid hi
  clear hi
  go_enter Try.func101, Try.ntmps101
  go_wp2_with fail
  have hx := (((Box.new w 37 (cfgL c)).alloc (.cells #[.int .u64 tg, .int .i64 i, .int .u64 sm] 54)).alloc (.cells #[.int .u64 l0, .int .u64 la, .int .u64 l2, .int .u64 l3] 29)).alloc (.cells #[.int .u64 0, .int .i64 0, .int .u64 0] 54)
  have hk := ((Box.new (w.alloc (.cells ⟨cfgL c⟩ 37)) 54 [.int .u64 tg, .int .i64 i, .int .u64 sm]).alloc (.cells #[.int .u64 l0, .int .u64 la, .int .u64 l2, .int .u64 l3] 29)).alloc (.cells #[.int .u64 0, .int .i64 0, .int .u64 0] 54)
  have hl := (Box.new ((w.alloc (.cells ⟨cfgL c⟩ 37)).alloc (.cells #[.int .u64 tg, .int .i64 i, .int .u64 sm] 54)) 29 [.int .u64 l0, .int .u64 la, .int .u64 l2, .int .u64 l3]).alloc (.cells #[.int .u64 0, .int .i64 0, .int .u64 0] 54)
  have hr := Box.new (((w.alloc (.cells ⟨cfgL c⟩ 37)).alloc (.cells #[.int .u64 tg, .int .i64 i, .int .u64 sm] 54)).alloc (.cells #[.int .u64 l0, .int .u64 la, .int .u64 l2, .int .u64 l3] 29)) 54 [.int .u64 0, .int .i64 0, .int .u64 0]
  have HB := Lib.hid (moreB (moreB (moreB (newB w (.cells ⟨cfgL c⟩ 37)) (.cells #[.int .u64 tg, .int .i64 i, .int .u64 sm] 54)) (.cells #[.int .u64 l0, .int .u64 la, .int .u64 l2, .int .u64 l3] 29)) (.cells #[.int .u64 0, .int .i64 0, .int .u64 0] 54))
  simp only [World.size_alloc] at hk hl hr
  have HX := Lib.hid hx; have HK := Lib.hid hk; have HL := Lib.hid hl; have HR := Lib.hid hr
  clear hx hk hl hr
  unfold cfgL at *
  generalize (((w.alloc _).alloc _).alloc _).alloc _ = V at *
  refine (sMay_any c V).mono ?_
  rintro e w1 ⟨rfl, hb⟩
  have HK := Lib.hid (HK.out.below hb); have HL := Lib.hid (HL.out.below hb); have HR := Lib.hid (HR.out.below hb)
  have HB := Lib.hid (keepB hb HB.out); have HX := Lib.hid (HX.out.below hb); clear hb
  by_cases hm : c.Strs
  · rw [show stripesB c = true from decide_eq_true hm]
    have HM := Lib.hid hm
    clear hm
    have x0 := HX.out.c 0 rfl; have x1 := HX.out.c 1 rfl; have x2 := HX.out.c 2 rfl; have x3 := HX.out.c 3 rfl; have x4 := HX.out.c 4 rfl; have x5 := HX.out.c 5 rfl; have x6 := HX.out.c 6 rfl; have x7 := HX.out.c 7 rfl; have x8 := HX.out.c 8 rfl; have x9 := HX.out.c 9 rfl; have x10 := HX.out.c 10 rfl; have x11 := HX.out.c 11 rfl
    have k1 := HK.out.c 1 rfl
    go_wp2_with fail
    refine (which_any c i _ HM.out HI.out).mono ?_
    rintro e w2 ⟨rfl, hb⟩
    clear x0 x1 x2 x3 x4 x5 x6 x7 x8 x9 x10 x11
    clear k1
    have HK := Lib.hid (HK.out.below hb); have HL := Lib.hid (HL.out.below hb); have HR := Lib.hid (HR.out.below hb)
    have HB := Lib.hid (keepB hb HB.out); have HX := Lib.hid (HX.out.below hb); clear hb
    have x4 := HX.out.c 4 rfl
    have hk := HK.out; have hr := HR.out
    have k0 := hk.c 0 rfl
    have k1 := hk.c 1 rfl
    have k2 := hk.c 2 rfl
    have f0 := hk.f 0
    have f1 := hk.f 1
    have f2 := hk.f 2
    have r0 := hr.c 0 rfl
    have r1 := hr.c 1 rfl
    have r2 := hr.c 2 rfl
    have g0 := hr.f 0
    have g1 := hr.f 1
    have g2 := hr.f 2
    have l1 := HL.out.c 1 rfl
    have hstr := HM.out.str
    have hw2 : IntKind.i64.wrap (2 * c.str) = 2 * c.str := by rw [IntKind.wrap_i64]; omega
    clear hk hr
    by_cases hg : 0 ≤ i ∧ i < 2 * c.str
    · obtain ⟨n, hn⟩ : ∃ n, n = i + 1 := ⟨_, rfl⟩
      have hw1 : IntKind.i64.wrap (i + 1) = n := by rw [hn, IntKind.wrap_i64]; omega
      have HN := Lib.hid hn
      by_cases h0 : i < c.str
      · rw [(wh_0 (c := c) (i := i) ⟨hg.1, h0⟩).1, (wh_0 (c := c) (i := i) ⟨hg.1, h0⟩).2]
        have hS := (sumZ_0 h0 sm la).symm
        have h1 : n < 2 * c.str := by omega
        have HS := Lib.hid (ssR_on HM.out (i := i) ⟨hg.1, by omega⟩ tg sm la)
        rw [← hn] at HS
        generalize sumZ c i sm la = S at *
        clear h0 hstr hg hn
        have h3 : (n == 2 * c.str) = false := by simp; omega
        go_wp2_with fail
        have hz := (HB.out.setCell (p := ⟨w.heap.size + 1, 2, none⟩) (by simp only; omega) (.int .u64 S)).setCell (p := ⟨w.heap.size + 1, 1, none⟩) (by simp only; omega) (.int .i64 n)
        have hrz := (HR.out.far (a := ⟨w.heap.size + 1, 2, none⟩) (by simp only; omega) (.int .u64 S)).far (a := ⟨w.heap.size + 1, 1, none⟩) (by simp only; omega) (.int .i64 n)
        have hkz := ((HK.out.set 2 (.int .u64 S)).set 1 (.int .i64 n)).as (show _ = [.int .u64 tg, .int .i64 n, .int .u64 S] from rfl)
        have hxz := ((HX.out.far (a := ⟨w.heap.size + 1, 2, none⟩) (by simp only; omega) (.int .u64 S)).far (a := ⟨w.heap.size + 1, 1, none⟩) (by simp only; omega) (.int .i64 n)).c 4 rfl
        clear x4 k0 k1 k2 f0 f1 f2 r0 r1 r2 g0 g1 g2 l1
        have HBZ := Lib.hid hz; have HRZ := Lib.hid hrz
        clear hz
        generalize (w2.setCell _ _).setCell _ _ = Z at *
        have k0 := hkz.c 0 rfl
        have k1 := hkz.c 1 rfl
        have k2 := hkz.c 2 rfl
        have r0 := hrz.c 0 rfl
        have r1 := hrz.c 1 rfl
        have r2 := hrz.c 2 rfl
        have g0 := hrz.f 0
        have g1 := hrz.f 1
        have g2 := hrz.f 2
        clear hkz hrz
        (go_region_held3 (fun U => U.cell? ⟨w.heap.size + 1, 0, none⟩ = some (.int .u64 tg) ∧ U.cell? ⟨w.heap.size + 1, 1, none⟩ = some (.int .i64 n) ∧ U.cell? ⟨w.heap.size + 1, 2, none⟩ = some (.int .u64 S) ∧ U.cell? ⟨w.heap.size, 4, none⟩ = some (.int .i64 c.str)) ((repeat' apply And.intro) <;> first | (with_reducible assumption) | (rw [World.cell?_drew]; with_reducible assumption) | exact farL (Z := _) (by simp only; omega) (by assumption)) (fail))
        all_goals go_split_ands
        all_goals go_wp2_with fail
        all_goals refine bodyPost_ret (v := .tuple #[.agg ⟨[.int .u64 tg, .int .i64 n, .int .u64 S]⟩, .bool false, .int .i64 0]) ?_ rfl ⟨by rw [HS.out]; rfl, (below_look HBZ.out (by omega) _ _ _).drew⟩
        all_goals exact ((HRZ.out.look _ _ _).drew).resultsL (t := 54) rfl (fun _ => by kernel_rfl) (fun _ => by kernel_rfl) rfl rfl rfl
      · rw [(wh_1 (c := c) (i := i) ⟨by omega, hg.2⟩).1, (wh_1 (c := c) (i := i) ⟨by omega, hg.2⟩).2]
        have hS := (sumZ_1 h0 sm la).symm
        by_cases h1 : n < 2 * c.str
        · have HS := Lib.hid (ssR_on HM.out (i := i) ⟨hg.1, by omega⟩ tg sm la)
          rw [← hn] at HS
          generalize sumZ c i sm la = S at *
          clear h0 hstr hg hn
          have h3 : (n == 2 * c.str) = false := by simp; omega
          go_wp2_with fail
          have hz := (HB.out.setCell (p := ⟨w.heap.size + 1, 2, none⟩) (by simp only; omega) (.int .u64 S)).setCell (p := ⟨w.heap.size + 1, 1, none⟩) (by simp only; omega) (.int .i64 n)
          have hrz := (HR.out.far (a := ⟨w.heap.size + 1, 2, none⟩) (by simp only; omega) (.int .u64 S)).far (a := ⟨w.heap.size + 1, 1, none⟩) (by simp only; omega) (.int .i64 n)
          have hkz := ((HK.out.set 2 (.int .u64 S)).set 1 (.int .i64 n)).as (show _ = [.int .u64 tg, .int .i64 n, .int .u64 S] from rfl)
          have hxz := ((HX.out.far (a := ⟨w.heap.size + 1, 2, none⟩) (by simp only; omega) (.int .u64 S)).far (a := ⟨w.heap.size + 1, 1, none⟩) (by simp only; omega) (.int .i64 n)).c 4 rfl
          clear x4 k0 k1 k2 f0 f1 f2 r0 r1 r2 g0 g1 g2 l1
          have HBZ := Lib.hid hz; have HRZ := Lib.hid hrz
          clear hz
          generalize (w2.setCell _ _).setCell _ _ = Z at *
          have k0 := hkz.c 0 rfl
          have k1 := hkz.c 1 rfl
          have k2 := hkz.c 2 rfl
          have r0 := hrz.c 0 rfl
          have r1 := hrz.c 1 rfl
          have r2 := hrz.c 2 rfl
          have g0 := hrz.f 0
          have g1 := hrz.f 1
          have g2 := hrz.f 2
          clear hkz hrz
          (go_region_held3 (fun U => U.cell? ⟨w.heap.size + 1, 0, none⟩ = some (.int .u64 tg) ∧ U.cell? ⟨w.heap.size + 1, 1, none⟩ = some (.int .i64 n) ∧ U.cell? ⟨w.heap.size + 1, 2, none⟩ = some (.int .u64 S) ∧ U.cell? ⟨w.heap.size, 4, none⟩ = some (.int .i64 c.str)) ((repeat' apply And.intro) <;> first | (with_reducible assumption) | (rw [World.cell?_drew]; with_reducible assumption) | exact farL (Z := _) (by simp only; omega) (by assumption)) (fail))
          all_goals go_split_ands
          all_goals go_wp2_with fail
          all_goals refine bodyPost_ret (v := .tuple #[.agg ⟨[.int .u64 tg, .int .i64 n, .int .u64 S]⟩, .bool false, .int .i64 0]) ?_ rfl ⟨by rw [HS.out]; rfl, (below_look HBZ.out (by omega) _ _ _).drew⟩
          all_goals exact ((HRZ.out.look _ _ _).drew).resultsL (t := 54) rfl (fun _ => by kernel_rfl) (fun _ => by kernel_rfl) rfl rfl rfl
        · have h2 : 2 * c.str ≤ n := by omega
          by_cases hz : sumZ c i sm la = 0
          · have HS := Lib.hid (ssR_end HM.out (i := i) ⟨hg.1, by omega⟩ tg hz)
            have h3 : (n == 2 * c.str) = true := by simp; omega
            rw [← hn] at HS
            rw [hz] at hS
            clear h0 h1 hstr hg hn hz
            go_wp2_with fail
            have hz := (HB.out.setCell (p := ⟨w.heap.size + 1, 2, none⟩) (by simp only; omega) (.int .u64 0)).setCell (p := ⟨w.heap.size + 1, 1, none⟩) (by simp only; omega) (.int .i64 n)
            have hrz := (HR.out.far (a := ⟨w.heap.size + 1, 2, none⟩) (by simp only; omega) (.int .u64 0)).far (a := ⟨w.heap.size + 1, 1, none⟩) (by simp only; omega) (.int .i64 n)
            have hkz := ((HK.out.set 2 (.int .u64 0)).set 1 (.int .i64 n)).as (show _ = [.int .u64 tg, .int .i64 n, .int .u64 0] from rfl)
            have hxz := ((HX.out.far (a := ⟨w.heap.size + 1, 2, none⟩) (by simp only; omega) (.int .u64 0)).far (a := ⟨w.heap.size + 1, 1, none⟩) (by simp only; omega) (.int .i64 n)).c 4 rfl
            clear x4 k0 k1 k2 f0 f1 f2 r0 r1 r2 g0 g1 g2 l1
            have HBZ := Lib.hid hz; have HRZ := Lib.hid hrz
            clear hz
            generalize (w2.setCell _ _).setCell _ _ = Z at *
            have k0 := hkz.c 0 rfl
            have k1 := hkz.c 1 rfl
            have k2 := hkz.c 2 rfl
            have r0 := hrz.c 0 rfl
            have r1 := hrz.c 1 rfl
            have r2 := hrz.c 2 rfl
            have g0 := hrz.f 0
            have g1 := hrz.f 1
            have g2 := hrz.f 2
            clear hkz hrz
            (go_region_held3 (fun U => U.cell? ⟨w.heap.size + 1, 0, none⟩ = some (.int .u64 tg) ∧ U.cell? ⟨w.heap.size + 1, 1, none⟩ = some (.int .i64 n) ∧ U.cell? ⟨w.heap.size + 1, 2, none⟩ = some (.int .u64 0) ∧ U.cell? ⟨w.heap.size, 4, none⟩ = some (.int .i64 c.str)) ((repeat' apply And.intro) <;> first | (with_reducible assumption) | (rw [World.cell?_drew]; with_reducible assumption) | exact farL (Z := _) (by simp only; omega) (by assumption)) (fail))
            all_goals go_split_ands
            all_goals go_wp2_with fail
            all_goals refine bodyPost_ret (v := .tuple #[.agg ⟨[.int .u64 tg, .int .i64 n, .int .u64 0]⟩, .bool true, .int .i64 0]) ?_ rfl ⟨by rw [HS.out]; rfl, (below_look HBZ.out (by omega) _ _ _).drew⟩
            all_goals exact ((HRZ.out.look _ _ _).drew).resultsL (t := 54) rfl (fun _ => by kernel_rfl) (fun _ => by kernel_rfl) rfl rfl rfl
          · have HS := Lib.hid (ssR_back HM.out (i := i) ⟨hg.1, by omega⟩ tg hz)
            generalize sumZ c i sm la = S at *
            have h3 : (S == 0) = false := by simpa using hz
            clear h0 h1 hstr hg hn hz
            go_wp2_with fail
            have hz := (HB.out.setCell (p := ⟨w.heap.size + 1, 2, none⟩) (by simp only; omega) (.int .u64 S)).setCell (p := ⟨w.heap.size + 1, 1, none⟩) (by simp only; omega) (.int .i64 n)
            have hrz := (HR.out.far (a := ⟨w.heap.size + 1, 2, none⟩) (by simp only; omega) (.int .u64 S)).far (a := ⟨w.heap.size + 1, 1, none⟩) (by simp only; omega) (.int .i64 n)
            refine bodyPost_ret (v := .tuple #[.agg ⟨[.int .u64 tg, .int .i64 0, .int .u64 0]⟩, .bool false, .int .i64 0]) ?_ rfl ⟨by rw [HS.out]; rfl, below_look hz (by omega) _ _ _⟩
            exact (hrz.look _ _ _).resultsL (t := 54) rfl (fun _ => by kernel_rfl) (fun _ => by kernel_rfl) rfl rfl rfl
    · rw [(wh_out hg).1]
      have HS := Lib.hid (ssR_out HM.out hg tg sm la)
      clear hg hstr
      go_wp2_with fail
      refine bodyPost_ret (v := .tuple #[.agg ⟨[.int .u64 0, .int .i64 0, .int .u64 0]⟩, .bool false, .int .i64 2]) ?_ rfl ⟨by rw [HS.out]; rfl, below_look HB.out (by omega) _ _ _⟩
      exact (HR.out.look _ _ _).resultsL (t := 54) rfl (fun _ => by kernel_rfl) (fun _ => by kernel_rfl) rfl rfl rfl
  · rw [show stripesB c = false from decide_eq_false hm]
    have HS := Lib.hid (ssR_no hm tg i sm la)
    have hr := HR.out
    have r0 := hr.c 0 rfl
    have r1 := hr.c 1 rfl
    have r2 := hr.c 2 rfl
    have g0 := hr.f 0
    have g1 := hr.f 1
    have g2 := hr.f 2
    clear hr hm
    go_wp2_with fail
    refine bodyPost_ret (v := .tuple #[.agg ⟨[.int .u64 0, .int .i64 0, .int .u64 0]⟩, .bool false, .int .i64 40]) ?_ rfl ⟨by rw [HS.out]; rfl, below_look HB.out (by omega) _ _ _⟩
    exact (HR.out.look _ _ _).resultsL (t := 54) rfl (fun _ => by kernel_rfl) (fun _ => by kernel_rfl) rfl rfl rfl

end Go.Proofs.Ytecjbgddjejjdaa
