/- Chapter 5: op.Check and its reference. -/
import Derived.Test.YtecjbgddjejjdaaDoorOpD
import Derived.Test.YtecjbgddjejjdaaDoorOpE
import Derived.Test.YtecjbgddjejjdaaDoorPart
import Derived.Test.YtecjbgddjejjdaaDoorPartB
import Derived.Test.YtecjbgddjejjdaaDoorPartE
namespace Go.Proofs.YtecjbgddjejjdaaDoor
open Go.RowKit


theorem obj_bits {c : Cfg} {k : Int} (hm : c.May) (h : objZ k = c.ob) : 0 ≤ c.bits ∧ c.bits ≤ 6 ∧ (k = 3 → 1 ≤ c.bits) := by
  have h4 := hm.2.2.2.1
  refine ⟨by omega, by omega, fun e => ?_⟩
  subst e
  have : c.ob = 1 := by rw [← h]; rfl
  omega
theorem May.ob0 {c : Cfg} (h : c.May) : c.ob ≠ 0 := by have := h.1; omega

theorem fits_any (c : Cfg) (k a b x : Int) (w : World) (ha : 0 ≤ a) (hb : 0 ≤ b) (hx : 0 ≤ x) (ha' : a ≤ 4294967295) (hb' : b ≤ 4294967295) (hx' : x ≤ 4294967295) (hm : c.May) (ho : objZ k = c.ob) :
    Calls Tryd.prog 53 #[.agg #[.int .u8 c.ob, .int .i64 c.inst, .int .i64 c.thr, .int .u8 c.kd, .int .i64 c.str, .int .i64 c.bits, .int .i64 c.cap, .int .i64 c.node, .int .i64 c.bat, .int .i64 c.chk, .int .u64 c.lim, .int .u64 c.most], .agg #[.int .u8 k, .int .u32 a, .int .u32 b, .int .u32 x]] w fun e w' => e = .returned (.bool (fitsZ c.bits k a b x)) ∧ Below w.heap.size w w' := by
  obtain ⟨b1, b2, b3⟩ := obj_bits hm ho
  have hk := objZ_kinds (k := k) (by rw [ho]; exact May.ob0 hm)
  rcases hk with rfl | rfl | rfl | rfl | rfl | rfl | rfl | rfl | rfl | rfl | rfl | rfl | rfl | rfl
  · exact fits_1 c a b x w ha hb hx ha' hb' hx' b1 b2
  · exact fits_2 c a b x w ha hb hx ha' hb' hx' b1 b2
  · exact fits_3 c a b x w ha hb hx ha' hb' hx' (b3 rfl) b2
  · exact fits_4 c a b x w ha hb hx ha' hb' hx'
  · exact fits_5 c a b x w ha hb hx ha' hb' hx'
  · exact fits_6 c a b x w ha hb hx ha' hb' hx'
  · exact fits_7 c a b x w ha hb hx ha' hb' hx'
  · exact fits_8 c a b x w ha hb hx ha' hb' hx'
  · exact fits_9 c a b x w ha hb hx ha' hb' hx'
  · exact fits_10 c a b x w ha hb hx ha' hb' hx'
  · exact fits_11 c a b x w ha hb hx ha' hb' hx'
  · exact fits_12 c a b x w ha hb hx ha' hb' hx'
  · exact fits_13 c a b x w ha hb hx ha' hb' hx'
  · exact fits_14 c a b x w ha hb hx ha' hb' hx'

theorem rfits_any (c : Cfg) (k a b x : Int) (w : World) (ha : 0 ≤ a) (hb : 0 ≤ b) (hx : 0 ≤ x) (ha' : a ≤ 4294967295) (hb' : b ≤ 4294967295) (hx' : x ≤ 4294967295) (hm : c.May) (ho : objZ k = c.ob) :
    Calls Tryd.prog 56 #[.agg #[.int .u8 c.ob, .int .i64 c.inst, .int .i64 c.thr, .int .u8 c.kd, .int .i64 c.str, .int .i64 c.bits, .int .i64 c.cap, .int .i64 c.node, .int .i64 c.bat, .int .i64 c.chk, .int .u64 c.lim, .int .u64 c.most], .agg #[.int .u8 k, .int .u32 a, .int .u32 b, .int .u32 x]] w fun e w' => e = .returned (.bool (fitsZ c.bits k a b x)) ∧ Below w.heap.size w w' := by
  obtain ⟨b1, b2, b3⟩ := obj_bits hm ho
  have hk := objZ_kinds (k := k) (by rw [ho]; exact May.ob0 hm)
  rcases hk with rfl | rfl | rfl | rfl | rfl | rfl | rfl | rfl | rfl | rfl | rfl | rfl | rfl | rfl
  · exact rfits_1 c a b x w ha hb hx ha' hb' hx' b1 b2
  · exact rfits_2 c a b x w ha hb hx ha' hb' hx' b1 b2
  · exact rfits_3 c a b x w ha hb hx ha' hb' hx' b1 b2
  · exact rfits_4 c a b x w ha hb hx ha' hb' hx'
  · exact rfits_5 c a b x w ha hb hx ha' hb' hx'
  · exact rfits_6 c a b x w ha hb hx ha' hb' hx'
  · exact rfits_7 c a b x w ha hb hx ha' hb' hx'
  · exact rfits_8 c a b x w ha hb hx ha' hb' hx'
  · exact rfits_9 c a b x w ha hb hx ha' hb' hx'
  · exact rfits_10 c a b x w ha hb hx ha' hb' hx'
  · exact rfits_11 c a b x w ha hb hx ha' hb' hx'
  · exact rfits_12 c a b x w ha hb hx ha' hb' hx'
  · exact rfits_13 c a b x w ha hb hx ha' hb' hx'
  · exact rfits_14 c a b x w ha hb hx ha' hb' hx'


set_option maxRecDepth 100000 in
set_option maxHeartbeats 1600000 in
theorem opCheck_any (c : Cfg) (n : Nat) (a b x : Int) (w : World) (hn : n < 256) (ha : 0 ≤ a) (hb : 0 ≤ b) (hx : 0 ≤ x) (ha' : a ≤ 4294967295) (hb' : b ≤ 4294967295) (hx' : x ≤ 4294967295) (hO : Ob w) :
    Calls Tryd.prog 27 #[.agg #[.int .u8 c.ob, .int .i64 c.inst, .int .i64 c.thr, .int .u8 c.kd, .int .i64 c.str, .int .i64 c.bits, .int .i64 c.cap, .int .i64 c.node, .int .i64 c.bat, .int .i64 c.chk, .int .u64 c.lim, .int .u64 c.most], .agg #[.int .u8 n, .int .u32 a, .int .u32 b, .int .u32 x]] w fun e w' => e = .returned (.int .i64 (opE c n a b x)) ∧ Below w.heap.size w w' := by
  have H1 := Lib.hid (And.intro ha (And.intro hb (And.intro hx (And.intro ha' (And.intro hb' hx')))))
  have HO := Lib.hid hO
  obtain ⟨k, hk⟩ : ∃ k : Int, k = n := ⟨_, rfl⟩
  rw [← hk]
  have HK := Lib.hid hk
  clear ha hb hx ha' hb' hx' hO hk
  go_enter Tryd.func27, Tryd.ntmps27
  go_wp2_with fail
  have HX := Lib.hid ((Box.new w 24 (cfgL c)).alloc (.cells #[.int .u8 k, .int .u32 a, .int .u32 b, .int .u32 x] 27))
  have hq := Box.new (w.alloc (.cells ⟨cfgL c⟩ 24)) 27 [.int .u8 k, .int .u32 a, .int .u32 b, .int .u32 x]
  have HB := Lib.hid (moreB (newB w (.cells ⟨cfgL c⟩ 24)) (.cells #[.int .u8 k, .int .u32 a, .int .u32 b, .int .u32 x] 27))
  rw [World.size_alloc] at hq
  have HQ := Lib.hid hq
  clear hq
  unfold cfgL at *
  generalize (w.alloc _).alloc _ = V at *
  refine (Check_any c V).mono ?_
  rintro e w1 ⟨rfl, hb⟩
  have HQ := Lib.hid (HQ.out.below hb)
  have HB := Lib.hid (keepB hb HB.out); have HX := Lib.hid (HX.out.below hb); clear hb
  by_cases hm : c.May
  · rw [show checkE c = 0 by simp [checkE, hm]]
    have HM := Lib.hid hm
    have x0 := HX.out.c 0 rfl; have x1 := HX.out.c 1 rfl; have x2 := HX.out.c 2 rfl; have x3 := HX.out.c 3 rfl; have x4 := HX.out.c 4 rfl; have x5 := HX.out.c 5 rfl; have x6 := HX.out.c 6 rfl; have x7 := HX.out.c 7 rfl; have x8 := HX.out.c 8 rfl; have x9 := HX.out.c 9 rfl; have x10 := HX.out.c 10 rfl; have x11 := HX.out.c 11 rfl
    have q0 := HQ.out.c 0 rfl; have q1 := HQ.out.c 1 rfl; have q2 := HQ.out.c 2 rfl; have q3 := HQ.out.c 3 rfl
    have HOO := Lib.hid (show ∀ m, Calls Tryd.prog 52 #[.int .u8 k] (w1.drewN m) fun e w' => e = .returned (.int .u8 (objZ k)) ∧ w' = w1.drewN m from fun m => by rw [HK.out]; exact (Object_any n _ hn (HO.out.more (below_drewN HB.out m))).mono fun _ _ ⟨p, q⟩ => ⟨p, q.symm⟩)
    by_cases hoc : objZ k = c.ob
    · have HE := Lib.hid (opE_fit (a := a) (b := b) (x := x) hm hoc)
      have HF := Lib.hid (fun W => fits_any c k a b x W H1.out.1 H1.out.2.1 H1.out.2.2.1 H1.out.2.2.2.1 H1.out.2.2.2.2.1 H1.out.2.2.2.2.2 hm hoc)
      have e1 : (objZ k != c.ob) = false := by simp [hoc]
      clear hm hoc
      generalize objZ k = ob at *
      go_wp2_with fail
      go_quiet ((go_at_call 52; exact Calls.quiet_of_same (HOO.out _)))
      go_wp2_with fail
      refine (HF.out _).mono ?_
      rintro e w2 ⟨rfl, hb⟩
      have HB := Lib.hid (keepB hb (below_drewN HB.out nq))
      clear x0 x1 x2 x3 x4 x5 x6 x7 x8 x9 x10 x11 q0 q1 q2 q3
      clear hb
      cases hf : fitsZ c.bits k a b x with
      | true =>
        have HE := Lib.hid (show opE c k a b x = 0 by rw [HE.out, hf]; rfl)
        clear hf
        go_wp2_with fail
        go_ret
        exact ⟨ret_i64 (by rw [HE.out]), HB.out⟩
      | false =>
        have HE := Lib.hid (show opE c k a b x = 10 by rw [HE.out, hf]; rfl)
        clear hf
        go_wp2_with fail
        go_ret
        exact ⟨ret_i64 (by rw [HE.out]), HB.out⟩
    · have HE := Lib.hid (opE_ob hm hoc a b x)
      have e1 : (objZ k != c.ob) = true := by simpa using hoc
      clear hm hoc
      generalize objZ k = ob at *
      go_wp2_with fail
      go_quiet ((go_at_call 52; exact Calls.quiet_of_same (HOO.out _)))
      go_wp2_with fail
      go_ret
      exact ⟨ret_i64 (by rw [HE.out]), below_drewN HB.out nq⟩
  · rw [show checkE c = 40 by simp [checkE, hm]]
    have HE := Lib.hid (opE_no hm k a b x)
    clear hm
    go_wp2_with fail
    go_ret
    exact ⟨ret_i64 (by rw [HE.out]), HB.out⟩

set_option maxRecDepth 100000 in
set_option maxHeartbeats 1600000 in
theorem ropCheck_any (c : Cfg) (k a b x : Int) (w : World) (hk0 : 0 ≤ k) (hk : 0 ≤ c.most) (ha : 0 ≤ a) (hb : 0 ≤ b) (hx : 0 ≤ x) (ha' : a ≤ 4294967295) (hb' : b ≤ 4294967295) (hx' : x ≤ 4294967295) :
    Calls Tryd.prog 33 #[.agg #[.int .u8 c.ob, .int .i64 c.inst, .int .i64 c.thr, .int .u8 c.kd, .int .i64 c.str, .int .i64 c.bits, .int .i64 c.cap, .int .i64 c.node, .int .i64 c.bat, .int .i64 c.chk, .int .u64 c.lim, .int .u64 c.most], .agg #[.int .u8 k, .int .u32 a, .int .u32 b, .int .u32 x]] w fun e w' => e = .returned (.int .i64 (opE c k a b x)) ∧ Below w.heap.size w w' := by
  have H1 := Lib.hid (And.intro ha (And.intro hb (And.intro hx (And.intro ha' (And.intro hb' hx')))))
  have HK0 := Lib.hid hk0
  have HKM := Lib.hid hk
  clear ha hb hx ha' hb' hx' hk0 hk
  go_enter Tryd.func33, Tryd.ntmps33
  go_wp2_with fail
  have HX := Lib.hid ((Box.new w 24 (cfgL c)).alloc (.cells #[.int .u8 k, .int .u32 a, .int .u32 b, .int .u32 x] 27))
  have hq := Box.new (w.alloc (.cells ⟨cfgL c⟩ 24)) 27 [.int .u8 k, .int .u32 a, .int .u32 b, .int .u32 x]
  have HB := Lib.hid (moreB (newB w (.cells ⟨cfgL c⟩ 24)) (.cells #[.int .u8 k, .int .u32 a, .int .u32 b, .int .u32 x] 27))
  rw [World.size_alloc] at hq
  have HQ := Lib.hid hq
  clear hq
  unfold cfgL at *
  generalize (w.alloc _).alloc _ = V at *
  refine (MayBe_any c V HKM.out).mono ?_
  rintro e w1 ⟨rfl, hb⟩
  have HQ := Lib.hid (HQ.out.below hb)
  have HB := Lib.hid (keepB hb HB.out); have HX := Lib.hid (HX.out.below hb); clear hb
  by_cases hm : c.May
  · rw [show mayC c = true from (mayC_iff c).2 hm]
    have HM := Lib.hid hm
    have x0 := HX.out.c 0 rfl; have x1 := HX.out.c 1 rfl; have x2 := HX.out.c 2 rfl; have x3 := HX.out.c 3 rfl; have x4 := HX.out.c 4 rfl; have x5 := HX.out.c 5 rfl; have x6 := HX.out.c 6 rfl; have x7 := HX.out.c 7 rfl; have x8 := HX.out.c 8 rfl; have x9 := HX.out.c 9 rfl; have x10 := HX.out.c 10 rfl; have x11 := HX.out.c 11 rfl
    have q0 := HQ.out.c 0 rfl; have q1 := HQ.out.c 1 rfl; have q2 := HQ.out.c 2 rfl; have q3 := HQ.out.c 3 rfl
    have HOO := Lib.hid (show ∀ m, Calls Tryd.prog 31 #[.int .u8 k] (w1.drewN m) fun e w' => e = .returned (.int .u8 (objZ k)) ∧ w' = w1.drewN m from fun m => (rObject_any k _ HK0.out).mono fun _ _ ⟨p, q⟩ => ⟨p, q.symm⟩)
    by_cases hoc : objZ k = c.ob
    · have HE := Lib.hid (opE_fit (a := a) (b := b) (x := x) hm hoc)
      have HF := Lib.hid (fun W => rfits_any c k a b x W H1.out.1 H1.out.2.1 H1.out.2.2.1 H1.out.2.2.2.1 H1.out.2.2.2.2.1 H1.out.2.2.2.2.2 hm hoc)
      have e1 : (objZ k != c.ob) = false := by simp [hoc]
      clear hm hoc
      generalize objZ k = ob at *
      go_wp2_with fail
      go_quiet ((go_at_call 31; exact Calls.quiet_of_same (HOO.out _)))
      go_wp2_with fail
      refine (HF.out _).mono ?_
      rintro e w2 ⟨rfl, hb⟩
      have HB := Lib.hid (keepB hb (below_drewN HB.out nq))
      clear x0 x1 x2 x3 x4 x5 x6 x7 x8 x9 x10 x11 q0 q1 q2 q3
      clear hb
      cases hf : fitsZ c.bits k a b x with
      | true =>
        have HE := Lib.hid (show opE c k a b x = 0 by rw [HE.out, hf]; rfl)
        clear hf
        go_wp2_with fail
        go_ret
        exact ⟨ret_i64 (by rw [HE.out]), HB.out⟩
      | false =>
        have HE := Lib.hid (show opE c k a b x = 10 by rw [HE.out, hf]; rfl)
        clear hf
        go_wp2_with fail
        go_ret
        exact ⟨ret_i64 (by rw [HE.out]), HB.out⟩
    · have HE := Lib.hid (opE_ob hm hoc a b x)
      have e1 : (objZ k != c.ob) = true := by simpa using hoc
      clear hm hoc
      generalize objZ k = ob at *
      go_wp2_with fail
      go_quiet ((go_at_call 31; exact Calls.quiet_of_same (HOO.out _)))
      go_wp2_with fail
      go_ret
      exact ⟨ret_i64 (by rw [HE.out]), below_drewN HB.out nq⟩
  · rw [show mayC c = false from by simp [mayC, hm]]
    have HE := Lib.hid (opE_no hm k a b x)
    clear hm
    go_wp2_with fail
    go_ret
    exact ⟨ret_i64 (by rw [HE.out]), HB.out⟩

end Go.Proofs.YtecjbgddjejjdaaDoor
