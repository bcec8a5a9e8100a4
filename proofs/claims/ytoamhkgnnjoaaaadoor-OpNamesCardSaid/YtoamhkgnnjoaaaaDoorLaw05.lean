/- The walks of OpOne and OpNames. -/
import Derived.Test.YtoamhkgnnjoaaaaDoorAlive05
namespace Go.Proofs.YtoamhkgnnjoaaaaDoor
open Go.RowKit

theorem opE_ten {c : Cfg} (h : c.May) {k : Int} (g : objZ k = c.ob) (a b x : Int) : opE c k a b x = 0 ∨ opE c k a b x = 10 := by
  rw [opE_fit h g]
  split
  · exact .inl rfl
  · exact .inr rfl


set_option maxRecDepth 100000 in
set_option maxHeartbeats 6400000 in
theorem one5_walk (c d : Cfg) (n : Nat) (a b x : Int) (w : World) (hn : n < 256) (ha : 0 ≤ a) (hb : 0 ≤ b) (hx : 0 ≤ x) (ha' : a ≤ 4294967295) (hb' : b ≤ 4294967295) (hx' : x ≤ 4294967295) (hO : Ob w) :
    Calls Tryd.prog 7 #[.agg #[.int .u8 c.ob, .int .i64 c.inst, .int .i64 c.thr, .int .u8 c.kd, .int .i64 c.str, .int .i64 c.bits, .int .i64 c.cap, .int .i64 c.node, .int .i64 c.bat, .int .i64 c.chk, .int .u64 c.lim, .int .u64 c.most], .agg #[.int .u8 d.ob, .int .i64 d.inst, .int .i64 d.thr, .int .u8 d.kd, .int .i64 d.str, .int .i64 d.bits, .int .i64 d.cap, .int .i64 d.node, .int .i64 d.bat, .int .i64 d.chk, .int .u64 d.lim, .int .u64 d.most], .agg #[.int .u8 n, .int .u32 a, .int .u32 b, .int .u32 x]] w fun e w' => e = .returned (.bool true) ∧ Below w.heap.size w w' := by
  have HO := Lib.hid hO
  have HH := Lib.hid (And.intro hn (And.intro ha (And.intro hb (And.intro hx (And.intro ha' (And.intro hb' hx'))))))
  clear hO hn ha hb hx ha' hb' hx'
  go_enter Tryd.func7, Tryd.ntmps7
  go_wp2_with fail
  have HX := Lib.hid (((Box.new w 24 (cfgL c)).alloc (.cells ⟨cfgL d⟩ 24)).alloc (.cells #[.int .u8 n, .int .u32 a, .int .u32 b, .int .u32 x] 27))
  have hd := (Box.new (w.alloc (.cells ⟨cfgL c⟩ 24)) 24 (cfgL d)).alloc (.cells #[.int .u8 n, .int .u32 a, .int .u32 b, .int .u32 x] 27)
  have hq := Box.new ((w.alloc (.cells ⟨cfgL c⟩ 24)).alloc (.cells ⟨cfgL d⟩ 24)) 27 [.int .u8 n, .int .u32 a, .int .u32 b, .int .u32 x]
  have HB := Lib.hid (moreB (moreB (newB w (.cells ⟨cfgL c⟩ 24)) (.cells ⟨cfgL d⟩ 24)) (.cells #[.int .u8 n, .int .u32 a, .int .u32 b, .int .u32 x] 27))
  simp only [World.size_alloc] at hd hq
  have HD := Lib.hid hd; have HQ := Lib.hid hq
  clear hd hq
  unfold cfgL at *
  generalize ((w.alloc _).alloc _).alloc _ = V at *
  refine (alive05_any V (HO.out.more HB.out)).mono ?_
  rintro e w1 ⟨rfl, hb⟩
  have HD := Lib.hid (HD.out.below hb); have HQ := Lib.hid (HQ.out.below hb)
  have HB := Lib.hid (keepB hb HB.out); have HX := Lib.hid (HX.out.below hb); clear hb
  have x0 := HX.out.c 0 rfl; have x1 := HX.out.c 1 rfl; have x2 := HX.out.c 2 rfl; have x3 := HX.out.c 3 rfl; have x4 := HX.out.c 4 rfl; have x5 := HX.out.c 5 rfl; have x6 := HX.out.c 6 rfl; have x7 := HX.out.c 7 rfl; have x8 := HX.out.c 8 rfl; have x9 := HX.out.c 9 rfl; have x10 := HX.out.c 10 rfl; have x11 := HX.out.c 11 rfl
  have q0 := HQ.out.c 0 rfl
  have q1 := HQ.out.c 1 rfl
  have q2 := HQ.out.c 2 rfl
  have q3 := HQ.out.c 3 rfl
  go_wp2_with fail
  refine (opCheck_any c n a b x _ HH.out.1 HH.out.2.1 HH.out.2.2.1 HH.out.2.2.2.1 HH.out.2.2.2.2.1 HH.out.2.2.2.2.2.1 HH.out.2.2.2.2.2.2 (HO.out.more HB.out)).mono ?_
  rintro e w2 ⟨rfl, hb⟩
  have HD := Lib.hid (HD.out.below hb); have HQ := Lib.hid (HQ.out.below hb)
  clear x0 x1 x2 x3 x4 x5 x6 x7 x8 x9 x10 x11 q0 q1 q2 q3
  have HB := Lib.hid (keepB hb HB.out); have HX := Lib.hid (HX.out.below hb); clear hb
  have d0 := HD.out.c 0 rfl
  have d1 := HD.out.c 1 rfl
  have d2 := HD.out.c 2 rfl
  have d3 := HD.out.c 3 rfl
  have d4 := HD.out.c 4 rfl
  have d5 := HD.out.c 5 rfl
  have d6 := HD.out.c 6 rfl
  have d7 := HD.out.c 7 rfl
  have d8 := HD.out.c 8 rfl
  have d9 := HD.out.c 9 rfl
  have d10 := HD.out.c 10 rfl
  have d11 := HD.out.c 11 rfl
  have q0 := HQ.out.c 0 rfl
  have q1 := HQ.out.c 1 rfl
  have q2 := HQ.out.c 2 rfl
  have q3 := HQ.out.c 3 rfl
  generalize hE : opE c n a b x = E
  have HE := Lib.hid hE
  clear hE
  go_wp2_with fail
  refine (opCheck_any d n a b x _ HH.out.1 HH.out.2.1 HH.out.2.2.1 HH.out.2.2.2.1 HH.out.2.2.2.2.1 HH.out.2.2.2.2.2.1 HH.out.2.2.2.2.2.2 (HO.out.more HB.out)).mono ?_
  rintro e w3 ⟨rfl, hb⟩
  have HD := Lib.hid (HD.out.below hb)
  clear d0 d1 d2 d3 d4 d5 d6 d7 d8 d9 d10 d11 q0 q1 q2 q3
  have HB := Lib.hid (keepB hb HB.out); have HX := Lib.hid (HX.out.below hb); clear hb
  generalize hF : opE d n a b x = F
  have HF := Lib.hid hF
  clear hF
  have x0 := HX.out.c 0 rfl
  have x5 := HX.out.c 5 rfl
  have d0 := HD.out.c 0 rfl
  have d5 := HD.out.c 5 rfl
  by_cases hm : c.May
  · by_cases hm2 : d.May
    · by_cases hob : c.ob = d.ob
      · have t0 : (c.ob != d.ob) = false := by simp [hob]
        by_cases hk : objZ n = c.ob
        · by_cases hbt : c.bits = d.bits
          · have t1 : (c.bits != d.bits) = false := by simp [hbt]
            have hEF : E = F := by rw [← HE.out, ← HF.out, opE_fit hm hk, opE_fit hm2 (by rw [hk, hob]), hbt]
            subst hEF
            rcases opE_ten hm hk a b x with h | h
            all_goals rw [HE.out] at h; subst h; clear hm hm2 hob hk hbt
            all_goals go_wp2_with fail; all_goals go_ret; all_goals exact ⟨rfl, HB.out⟩
          · have t1 : (c.bits != d.bits) = true := by simpa using hbt
            rcases opE_ten hm hk a b x with h | h
            all_goals rw [HE.out] at h; subst h
            all_goals rcases opE_ten hm2 (show objZ n = d.ob by rw [hk, hob]) a b x with h | h
            all_goals rw [HF.out] at h; subst h; clear hm hm2 hob hk hbt
            all_goals go_wp2_with fail; all_goals go_ret; all_goals exact ⟨rfl, HB.out⟩
        · have h1 := opE_ob hm hk a b x
          have h2 := opE_ob hm2 (show objZ n ≠ d.ob by rw [← hob]; exact hk) a b x
          rw [HE.out] at h1
          rw [HF.out] at h2
          subst h1; subst h2
          clear hm hm2 hob hk
          all_goals go_wp2_with fail; all_goals go_ret; all_goals exact ⟨rfl, HB.out⟩
      · have t0 : (c.ob != d.ob) = true := by simpa using hob
        by_cases hk : objZ n = c.ob
        · have h2 := opE_ob hm2 (show objZ n ≠ d.ob by rw [hk]; exact hob) a b x
          rw [HF.out] at h2
          subst h2
          rcases opE_ten hm hk a b x with h | h
          all_goals rw [HE.out] at h; subst h; clear hm hm2 hob hk
          all_goals go_wp2_with fail; all_goals go_ret; all_goals exact ⟨rfl, HB.out⟩
        · have h1 := opE_ob hm hk a b x
          rw [HE.out] at h1
          subst h1
          by_cases hk2 : objZ n = d.ob
          · rcases opE_ten hm2 hk2 a b x with h | h
            all_goals rw [HF.out] at h; subst h; clear hm hm2 hob hk hk2
            all_goals go_wp2_with fail; all_goals go_ret; all_goals exact ⟨rfl, HB.out⟩
          · have h2 := opE_ob hm2 hk2 a b x
            rw [HF.out] at h2
            subst h2
            clear hm hm2 hob hk hk2
            all_goals go_wp2_with fail; all_goals go_ret; all_goals exact ⟨rfl, HB.out⟩
    · have h2 := opE_no hm2 n a b x
      rw [HF.out] at h2
      subst h2
      clear hm hm2
      all_goals go_wp2_with fail; all_goals go_ret; all_goals exact ⟨rfl, HB.out⟩
  · have h1 := opE_no hm n a b x
    rw [HE.out] at h1
    subst h1
    clear hm
    all_goals go_wp2_with fail; all_goals go_ret; all_goals exact ⟨rfl, HB.out⟩

set_option linter.unusedVariables false in
theorem walk_OpOne (n0_0 n0_1 n0_2 n0_3 n0_4 n0_5 n0_6 n0_7 n0_8 n0_9 n0_10 n0_11 n1_0 n1_1 n1_2 n1_3 n1_4 n1_5 n1_6 n1_7 n1_8 n1_9 n1_10 n1_11 n2_0 n2_1 n2_2 n2_3 : Int) (w : World) (b0_0 : IntKind.u8.min ≤ n0_0 ∧ n0_0 ≤ IntKind.u8.max) (b0_1 : IntKind.i64.min ≤ n0_1 ∧ n0_1 ≤ IntKind.i64.max) (b0_2 : IntKind.i64.min ≤ n0_2 ∧ n0_2 ≤ IntKind.i64.max) (b0_3 : IntKind.u8.min ≤ n0_3 ∧ n0_3 ≤ IntKind.u8.max) (b0_4 : IntKind.i64.min ≤ n0_4 ∧ n0_4 ≤ IntKind.i64.max) (b0_5 : IntKind.i64.min ≤ n0_5 ∧ n0_5 ≤ IntKind.i64.max) (b0_6 : IntKind.i64.min ≤ n0_6 ∧ n0_6 ≤ IntKind.i64.max) (b0_7 : IntKind.i64.min ≤ n0_7 ∧ n0_7 ≤ IntKind.i64.max) (b0_8 : IntKind.i64.min ≤ n0_8 ∧ n0_8 ≤ IntKind.i64.max) (b0_9 : IntKind.i64.min ≤ n0_9 ∧ n0_9 ≤ IntKind.i64.max) (b0_10 : IntKind.u64.min ≤ n0_10 ∧ n0_10 ≤ IntKind.u64.max) (b0_11 : IntKind.u64.min ≤ n0_11 ∧ n0_11 ≤ IntKind.u64.max) (b1_0 : IntKind.u8.min ≤ n1_0 ∧ n1_0 ≤ IntKind.u8.max) (b1_1 : IntKind.i64.min ≤ n1_1 ∧ n1_1 ≤ IntKind.i64.max) (b1_2 : IntKind.i64.min ≤ n1_2 ∧ n1_2 ≤ IntKind.i64.max) (b1_3 : IntKind.u8.min ≤ n1_3 ∧ n1_3 ≤ IntKind.u8.max) (b1_4 : IntKind.i64.min ≤ n1_4 ∧ n1_4 ≤ IntKind.i64.max) (b1_5 : IntKind.i64.min ≤ n1_5 ∧ n1_5 ≤ IntKind.i64.max) (b1_6 : IntKind.i64.min ≤ n1_6 ∧ n1_6 ≤ IntKind.i64.max) (b1_7 : IntKind.i64.min ≤ n1_7 ∧ n1_7 ≤ IntKind.i64.max) (b1_8 : IntKind.i64.min ≤ n1_8 ∧ n1_8 ≤ IntKind.i64.max) (b1_9 : IntKind.i64.min ≤ n1_9 ∧ n1_9 ≤ IntKind.i64.max) (b1_10 : IntKind.u64.min ≤ n1_10 ∧ n1_10 ≤ IntKind.u64.max) (b1_11 : IntKind.u64.min ≤ n1_11 ∧ n1_11 ≤ IntKind.u64.max) (b2_0 : IntKind.u8.min ≤ n2_0 ∧ n2_0 ≤ IntKind.u8.max) (b2_1 : IntKind.u32.min ≤ n2_1 ∧ n2_1 ≤ IntKind.u32.max) (b2_2 : IntKind.u32.min ≤ n2_2 ∧ n2_2 ≤ IntKind.u32.max) (b2_3 : IntKind.u32.min ≤ n2_3 ∧ n2_3 ≤ IntKind.u32.max) (hO : Ob w) :
    Calls Tryd.prog 7 #[.agg #[.int .u8 n0_0, .int .i64 n0_1, .int .i64 n0_2, .int .u8 n0_3, .int .i64 n0_4, .int .i64 n0_5, .int .i64 n0_6, .int .i64 n0_7, .int .i64 n0_8, .int .i64 n0_9, .int .u64 n0_10, .int .u64 n0_11], .agg #[.int .u8 n1_0, .int .i64 n1_1, .int .i64 n1_2, .int .u8 n1_3, .int .i64 n1_4, .int .i64 n1_5, .int .i64 n1_6, .int .i64 n1_7, .int .i64 n1_8, .int .i64 n1_9, .int .u64 n1_10, .int .u64 n1_11], .agg #[.int .u8 n2_0, .int .u32 n2_1, .int .u32 n2_2, .int .u32 n2_3]] w fun e w' => e = .returned (.bool true) ∧ Below w.heap.size w w' := by
  simp [IntKind.min, IntKind.max, IntKind.signed, IntKind.bits] at b2_0 b2_1 b2_2 b2_3
  obtain ⟨k, rfl⟩ := Int.eq_ofNat_of_zero_le b2_0.1
  exact one5_walk ⟨n0_0, n0_1, n0_2, n0_3, n0_4, n0_5, n0_6, n0_7, n0_8, n0_9, n0_10, n0_11⟩ ⟨n1_0, n1_1, n1_2, n1_3, n1_4, n1_5, n1_6, n1_7, n1_8, n1_9, n1_10, n1_11⟩ k n2_1 n2_2 n2_3 w (by omega) b2_1.1 b2_2.1 b2_3.1 b2_1.2 b2_2.2 b2_3.2 hO


set_option maxRecDepth 100000 in
set_option maxHeartbeats 6400000 in
theorem walk_OpNames (w : World) (hO : Ob w ∧ Wr w) : Calls Tryd.prog 8 #[] w fun e w' => e = .returned (.bool true) ∧ Below w.heap.size w w' := by
  have HO := Lib.hid hO
  clear hO
  go_enter Tryd.func8, Tryd.ntmps8
  go_wp2_with fail
  have HX := Lib.hid (Box.new w 24 (cfgL ex5b))
  have HB := Lib.hid (newB w (.cells ⟨cfgL ex5b⟩ 24))
  unfold cfgL ex5b at HX HB
  generalize w.alloc _ = V at *
  refine (opCheck_any ex5b 12 65537 2 2147483647 _ (by omega) (by omega) (by omega) (by omega) (by omega) (by omega) (by omega) (HO.out.1.more HB.out)).mono ?_; rintro e w1 ⟨rfl, hb⟩; rw [ex5_2.1]
  have HB := Lib.hid (keepB hb HB.out); have HX := Lib.hid (HX.out.below hb); clear hb
  have x0 := HX.out.c 0 rfl; have x1 := HX.out.c 1 rfl; have x2 := HX.out.c 2 rfl; have x3 := HX.out.c 3 rfl; have x4 := HX.out.c 4 rfl; have x5 := HX.out.c 5 rfl; have x6 := HX.out.c 6 rfl; have x7 := HX.out.c 7 rfl; have x8 := HX.out.c 8 rfl; have x9 := HX.out.c 9 rfl; have x10 := HX.out.c 10 rfl; have x11 := HX.out.c 11 rfl
  go_wp2_with fail
  refine (opCheck_any ex5b 12 1 2 0 _ (by omega) (by omega) (by omega) (by omega) (by omega) (by omega) (by omega) (HO.out.1.more HB.out)).mono ?_; rintro e w1 ⟨rfl, hb⟩; rw [ex5_2.2.1]
  clear x0 x1 x2 x3 x4 x5 x6 x7 x8 x9 x10 x11
  have HB := Lib.hid (keepB hb HB.out); have HX := Lib.hid (HX.out.below hb); clear hb
  have x0 := HX.out.c 0 rfl; have x1 := HX.out.c 1 rfl; have x2 := HX.out.c 2 rfl; have x3 := HX.out.c 3 rfl; have x4 := HX.out.c 4 rfl; have x5 := HX.out.c 5 rfl; have x6 := HX.out.c 6 rfl; have x7 := HX.out.c 7 rfl; have x8 := HX.out.c 8 rfl; have x9 := HX.out.c 9 rfl; have x10 := HX.out.c 10 rfl; have x11 := HX.out.c 11 rfl
  go_wp2_with fail
  refine (opCheck_any ex5b 12 65536 0 0 _ (by omega) (by omega) (by omega) (by omega) (by omega) (by omega) (by omega) (HO.out.1.more HB.out)).mono ?_; rintro e w1 ⟨rfl, hb⟩; rw [ex5_2.2.2.1]
  clear x0 x1 x2 x3 x4 x5 x6 x7 x8 x9 x10 x11
  have HB := Lib.hid (keepB hb HB.out); have HX := Lib.hid (HX.out.below hb); clear hb
  have x0 := HX.out.c 0 rfl; have x1 := HX.out.c 1 rfl; have x2 := HX.out.c 2 rfl; have x3 := HX.out.c 3 rfl; have x4 := HX.out.c 4 rfl; have x5 := HX.out.c 5 rfl; have x6 := HX.out.c 6 rfl; have x7 := HX.out.c 7 rfl; have x8 := HX.out.c 8 rfl; have x9 := HX.out.c 9 rfl; have x10 := HX.out.c 10 rfl; have x11 := HX.out.c 11 rfl
  go_wp2_with fail
  refine (opCheck_any ex5b 14 1 0 1 _ (by omega) (by omega) (by omega) (by omega) (by omega) (by omega) (by omega) (HO.out.1.more HB.out)).mono ?_; rintro e w1 ⟨rfl, hb⟩; rw [ex5_2.2.2.2.1]
  clear x0 x1 x2 x3 x4 x5 x6 x7 x8 x9 x10 x11
  have HB := Lib.hid (keepB hb HB.out); have HX := Lib.hid (HX.out.below hb); clear hb
  go_wp2_with fail
  refine (opCheck_any ex5z 0 0 0 0 _ (by omega) (by omega) (by omega) (by omega) (by omega) (by omega) (by omega) (HO.out.1.more HB.out)).mono ?_; rintro e w1 ⟨rfl, hb⟩; rw [ex5_2.2.2.2.2]
  have HB := Lib.hid (keepB hb HB.out); have HX := Lib.hid (HX.out.below hb); clear hb
  have x0 := HX.out.c 0 rfl; have x1 := HX.out.c 1 rfl; have x2 := HX.out.c 2 rfl; have x3 := HX.out.c 3 rfl; have x4 := HX.out.c 4 rfl; have x5 := HX.out.c 5 rfl; have x6 := HX.out.c 6 rfl; have x7 := HX.out.c 7 rfl; have x8 := HX.out.c 8 rfl; have x9 := HX.out.c 9 rfl; have x10 := HX.out.c 10 rfl; have x11 := HX.out.c 11 rfl
  go_wp2_with fail
  rename World => w5
  have hy := Box.new w5 24 (cfgL ex5x)
  have HB := Lib.hid (moreB HB.out (.cells ⟨cfgL ex5x⟩ 24))
  unfold cfgL ex5x at hy HB
  clear x0 x1 x2 x3 x4 x5 x6 x7 x8 x9 x10 x11
  clear HX
  have HX := Lib.hid hy
  clear hy
  generalize hsz : w5.heap.size = N at *
  clear hsz
  change Calls _ _ _ (w5.alloc (.cells ⟨[.int .u8 3, .int .i64 2, .int .i64 1, .int .u8 1, .int .i64 0, .int .i64 0, .int .i64 4, .int .i64 0, .int .i64 1, .int .i64 0, .int .u64 131072, .int .u64 0]⟩ 24)) _
  generalize w5.alloc _ = U at *
  refine (opCheck_any ex5x 9 0 0 2 _ (by omega) (by omega) (by omega) (by omega) (by omega) (by omega) (by omega) (HO.out.1.more HB.out)).mono ?_; rintro e w1 ⟨rfl, hb⟩; rw [ex5_3.1]
  have HB := Lib.hid (keepB hb HB.out); have HX := Lib.hid (HX.out.below hb); clear hb
  have x0 := HX.out.c 0 rfl; have x1 := HX.out.c 1 rfl; have x2 := HX.out.c 2 rfl; have x3 := HX.out.c 3 rfl; have x4 := HX.out.c 4 rfl; have x5 := HX.out.c 5 rfl; have x6 := HX.out.c 6 rfl; have x7 := HX.out.c 7 rfl; have x8 := HX.out.c 8 rfl; have x9 := HX.out.c 9 rfl; have x10 := HX.out.c 10 rfl; have x11 := HX.out.c 11 rfl
  go_wp2_with fail
  refine (opCheck_any ex5x 9 0 0 0 _ (by omega) (by omega) (by omega) (by omega) (by omega) (by omega) (by omega) (HO.out.1.more HB.out)).mono ?_; rintro e w1 ⟨rfl, hb⟩; rw [ex5_3.2.1]
  clear x0 x1 x2 x3 x4 x5 x6 x7 x8 x9 x10 x11
  have HB := Lib.hid (keepB hb HB.out); have HX := Lib.hid (HX.out.below hb); clear hb
  have x0 := HX.out.c 0 rfl; have x1 := HX.out.c 1 rfl; have x2 := HX.out.c 2 rfl; have x3 := HX.out.c 3 rfl; have x4 := HX.out.c 4 rfl; have x5 := HX.out.c 5 rfl; have x6 := HX.out.c 6 rfl; have x7 := HX.out.c 7 rfl; have x8 := HX.out.c 8 rfl; have x9 := HX.out.c 9 rfl; have x10 := HX.out.c 10 rfl; have x11 := HX.out.c 11 rfl
  go_wp2_with fail
  refine (opCheck_any ex5x 11 1 0 0 _ (by omega) (by omega) (by omega) (by omega) (by omega) (by omega) (by omega) (HO.out.1.more HB.out)).mono ?_; rintro e w1 ⟨rfl, hb⟩; rw [ex5_3.2.2]
  clear x0 x1 x2 x3 x4 x5 x6 x7 x8 x9 x10 x11
  have HB := Lib.hid (keepB hb HB.out); have HX := Lib.hid (HX.out.below hb); clear hb
  go_wp2_with fail
  refine (alive05_any _ (HO.out.1.more HB.out)).mono ?_
  rintro e w9 ⟨rfl, hb⟩
  have HB := Lib.hid (keepB hb HB.out)
  clear hb
  go_wp2_with fail
  refine (Object_any 0 _ (by omega) (HO.out.1.more HB.out)).mono ?_
  rintro e w' ⟨rfl, rfl⟩
  rw [ex5_4.1]
  go_wp2_with fail
  refine (Object_any 15 _ (by omega) (HO.out.1.more HB.out)).mono ?_
  rintro e w' ⟨rfl, rfl⟩
  rw [ex5_4.2.1]
  go_wp2_with fail
  refine (Writes_any 255 _ (by omega) (HO.out.2.more HB.out)).mono ?_
  rintro e w' ⟨rfl, rfl⟩
  rw [ex5_4.2.2]
  go_wp2_with fail
  go_ret
  exact ⟨rfl, HB.out⟩

end Go.Proofs.YtoamhkgnnjoaaaaDoor
