/- The walk of PartOne. -/
import Derived.Test.YtoamhkgnnjoaaaaDoorAlive04
namespace Go.Proofs.YtoamhkgnnjoaaaaDoor
open Go.RowKit

theorem plZ_ne {k a b k' a' b' : Int} (hk : 0 ≤ k) (ha : 0 ≤ a) (hb : 0 ≤ b) (hk' : 0 ≤ k') (ha' : 0 ≤ a') (hb' : 0 ≤ b') (h : ¬ (k = k' ∧ a = a' ∧ b = b')) : plZ k a b ≠ plZ k' a' b' := by
  intro e
  simp only [plZ, Pl.mk.injEq] at e
  omega

theorem ne3 {k a b k' a' b' : Int} (h : ¬ (k = k' ∧ a = a' ∧ b = b')) : (k == k') = false ∨ ((k == k') = true ∧ (a == a') = false) ∨ ((k == k') = true ∧ (a == a') = true ∧ (b == b') = false) := by
  by_cases h1 : k = k'
  · by_cases h2 : a = a'
    · by_cases h3 : b = b'
      · exact absurd ⟨h1, h2, h3⟩ h
      · exact .inr (.inr ⟨by simp [h1], by simp [h2], by simp [h3]⟩)
    · exact .inr (.inl ⟨by simp [h1], by simp [h2]⟩)
  · exact .inl (by simp [h1])


set_option maxHeartbeats 3200000 in
theorem one_walk (c : Cfg) (k a b k' a' b' : Int) (w : World) (hk0 : 0 ≤ k) (hk0' : 0 ≤ k') (hp : Pw w) :
    Calls Tryd.prog 10 #[.agg #[.int .u8 c.ob, .int .i64 c.inst, .int .i64 c.thr, .int .u8 c.kd, .int .i64 c.str, .int .i64 c.bits, .int .i64 c.cap, .int .i64 c.node, .int .i64 c.bat, .int .i64 c.chk, .int .u64 c.lim, .int .u64 c.most], .agg #[.int .u8 k, .int .i64 a, .int .i64 b], .agg #[.int .u8 k', .int .i64 a', .int .i64 b']] w fun e w' => e = .returned (.bool true) ∧ Below w.heap.size w w' := by
  have HK0 := Lib.hid hk0; have HK0' := Lib.hid hk0'; have HP := Lib.hid hp
  clear hk0 hk0' hp
  go_enter Tryd.func10, Tryd.ntmps10
  go_wp2_with fail
  have HX := Lib.hid (((Box.new w 24 (cfgL c)).alloc (.cells #[.int .u8 k, .int .i64 a, .int .i64 b] 48)).alloc (.cells #[.int .u8 k', .int .i64 a', .int .i64 b'] 48))
  have hq := (Box.new (w.alloc (.cells ⟨cfgL c⟩ 24)) 48 [.int .u8 k, .int .i64 a, .int .i64 b]).alloc (.cells #[.int .u8 k', .int .i64 a', .int .i64 b'] 48)
  have hr := Box.new ((w.alloc (.cells ⟨cfgL c⟩ 24)).alloc (.cells #[.int .u8 k, .int .i64 a, .int .i64 b] 48)) 48 [.int .u8 k', .int .i64 a', .int .i64 b']
  have HB := Lib.hid (moreB (moreB (newB w (.cells ⟨cfgL c⟩ 24)) (.cells #[.int .u8 k, .int .i64 a, .int .i64 b] 48)) (.cells #[.int .u8 k', .int .i64 a', .int .i64 b'] 48))
  simp only [World.size_alloc] at hq hr
  unfold cfgL at *
  generalize ((w.alloc _).alloc _).alloc _ = V at *
  have HQ := Lib.hid hq; have HR := Lib.hid hr
  clear hq hr
  refine (alive04_any V (HP.out.more HB.out)).mono ?_
  rintro e w1 ⟨rfl, hb⟩
  have HQ := Lib.hid (HQ.out.below hb); have HR := Lib.hid (HR.out.below hb)
  have HB := Lib.hid (keepB hb HB.out); have HX := Lib.hid (HX.out.below hb); clear hb
  have x0 := HX.out.c 0 rfl; have x1 := HX.out.c 1 rfl; have x2 := HX.out.c 2 rfl; have x3 := HX.out.c 3 rfl; have x4 := HX.out.c 4 rfl; have x5 := HX.out.c 5 rfl; have x6 := HX.out.c 6 rfl; have x7 := HX.out.c 7 rfl; have x8 := HX.out.c 8 rfl; have x9 := HX.out.c 9 rfl; have x10 := HX.out.c 10 rfl; have x11 := HX.out.c 11 rfl
  have p0 := HQ.out.c 0 rfl
  have p1 := HQ.out.c 1 rfl
  have p2 := HQ.out.c 2 rfl
  go_wp2_with fail
  refine (At_any c k a b _ (HP.out.more HB.out) HK0.out).mono ?_
  rintro e w2 ⟨rfl, hb⟩
  have HQ := Lib.hid (HQ.out.below hb); have HR := Lib.hid (HR.out.below hb)
  clear x0 x1 x2 x3 x4 x5 x6 x7 x8 x9 x10 x11 p0 p1 p2
  have HB := Lib.hid (keepB hb HB.out); have HX := Lib.hid (HX.out.below hb); clear hb
  have x0 := HX.out.c 0 rfl; have x1 := HX.out.c 1 rfl; have x2 := HX.out.c 2 rfl; have x3 := HX.out.c 3 rfl; have x4 := HX.out.c 4 rfl; have x5 := HX.out.c 5 rfl; have x6 := HX.out.c 6 rfl; have x7 := HX.out.c 7 rfl; have x8 := HX.out.c 8 rfl; have x9 := HX.out.c 9 rfl; have x10 := HX.out.c 10 rfl; have x11 := HX.out.c 11 rfl
  have p0 := HR.out.c 0 rfl
  have p1 := HR.out.c 1 rfl
  have p2 := HR.out.c 2 rfl
  generalize hv1 : atV c k a b = v1
  generalize he1 : atE c k a b = e1
  have HV1 := Lib.hid hv1; have HE1 := Lib.hid he1
  clear hv1 he1
  go_wp2_with fail
  refine (At_any c k' a' b' _ (HP.out.more HB.out) HK0'.out).mono ?_
  rintro e w3 ⟨rfl, hb⟩
  have HQ := Lib.hid (HQ.out.below hb); have HR := Lib.hid (HR.out.below hb)
  clear x0 x1 x2 x3 x4 x5 x6 x7 x8 x9 x10 x11 p0 p1 p2
  have HB := Lib.hid (keepB hb HB.out); have HX := Lib.hid (HX.out.below hb); clear hb
  have x0 := HX.out.c 0 rfl; have x1 := HX.out.c 1 rfl; have x2 := HX.out.c 2 rfl; have x3 := HX.out.c 3 rfl; have x4 := HX.out.c 4 rfl; have x5 := HX.out.c 5 rfl; have x6 := HX.out.c 6 rfl; have x7 := HX.out.c 7 rfl; have x8 := HX.out.c 8 rfl; have x9 := HX.out.c 9 rfl; have x10 := HX.out.c 10 rfl; have x11 := HX.out.c 11 rfl
  generalize hv2 : atV c k' a' b' = v2
  generalize he2 : atE c k' a' b' = e2
  have HV2 := Lib.hid hv2; have HE2 := Lib.hid he2
  clear hv2 he2
  go_wp2_with fail
  refine (Cells_any c _ (HP.out.more HB.out)).mono ?_
  rintro e w4 ⟨rfl, hb⟩
  have HQ := Lib.hid (HQ.out.below hb); have HR := Lib.hid (HR.out.below hb)
  clear x0 x1 x2 x3 x4 x5 x6 x7 x8 x9 x10 x11
  have HB := Lib.hid (keepB hb HB.out); have HX := Lib.hid (HX.out.below hb); clear hb
  have p0 := HQ.out.c 0 rfl
  have p1 := HQ.out.c 1 rfl
  have p2 := HQ.out.c 2 rfl
  have r0 := HR.out.c 0 rfl
  have r1 := HR.out.c 1 rfl
  have r2 := HR.out.c 2 rfl
  by_cases hm : c.May
  · cases hz1 : hasZ c.shp k a b with
    | false =>
      obtain rfl : e1 = 2 := by rw [← HE1.out]; exact atE_out hm hz1
      clear hz1 hm
      go_wp2_with fail
      go_ret
      exact ⟨rfl, HB.out⟩
    | true =>
      obtain rfl : e1 = 0 := by rw [← HE1.out]; exact atE_in hm hz1
      cases hz2 : hasZ c.shp k' a' b' with
      | false =>
        obtain rfl : e2 = 2 := by rw [← HE2.out]; exact atE_out hm hz2
        clear hz1 hz2 hm
        go_wp2_with fail
        go_ret
        exact ⟨rfl, HB.out⟩
      | true =>
        obtain rfl : e2 = 0 := by rw [← HE2.out]; exact atE_in hm hz2
        rw [show checkE c = 0 by simp [checkE, hm], show cellsV c = (allN c.shp : Nat) by simp [cellsV, hm]]
        obtain ⟨g1, g2, g3⟩ := hasZ_t.1 hz1
        obtain ⟨g1', g2', g3'⟩ := hasZ_t.1 hz2
        obtain rfl : v1 = (whereN c.shp (plZ k a b) : Nat) := by rw [← HV1.out]; exact atV_in hm hz1
        obtain rfl : v2 = (whereN c.shp (plZ k' a' b') : Nat) := by rw [← HV2.out]; exact atV_in hm hz2
        have l1 := where_lt g3
        have l2 := where_lt g3'
        by_cases heq : k = k' ∧ a = a' ∧ b = b'
        · obtain ⟨rfl, rfl, rfl⟩ := heq
          clear hz1 hz2 hm g1 g2 g3 g1' g2' g3' HV1 HV2 HE1 HE2 l2
          generalize whereN c.shp (plZ k a b) = x at *
          generalize allN c.shp = n at *
          have i1 : (0 : Int) ≤ (x : Int) := by omega
          have i2 : (x : Int) < (n : Int) := by omega
          clear l1
          go_wp2_with fail
          go_ret
          exact ⟨rfl, HB.out⟩
        · have hne : whereN c.shp (plZ k a b) ≠ whereN c.shp (plZ k' a' b') := fun e => plZ_ne HK0.out g1 g2 HK0'.out g1' g2' heq (where_inj g3 g3' e)
          have h3 := ne3 heq
          clear hz1 hz2 hm g1 g2 g3 g1' g2' g3' HV1 HV2 HE1 HE2 heq
          generalize whereN c.shp (plZ k a b) = x at *
          generalize whereN c.shp (plZ k' a' b') = y at *
          generalize allN c.shp = n at *
          have i1 : (0 : Int) ≤ (x : Int) := by omega
          have i2 : (x : Int) < (n : Int) := by omega
          have i3 : (0 : Int) ≤ (y : Int) := by omega
          have i4 : (y : Int) < (n : Int) := by omega
          have i5 : ((x : Int) == (y : Int)) = false := by simp; omega
          clear l1 l2 hne
          rcases h3 with t1 | ⟨t1, t2⟩ | ⟨t1, t2, t3⟩
          all_goals
            go_wp2_with fail
            go_ret
            exact ⟨rfl, HB.out⟩
  · obtain rfl : e1 = 40 := by rw [← HE1.out]; exact atE_no hm k a b
    clear hm
    go_wp2_with fail
    go_ret
    exact ⟨rfl, HB.out⟩

set_option linter.unusedVariables false in
theorem walk_PartOne (n0_0 n0_1 n0_2 n0_3 n0_4 n0_5 n0_6 n0_7 n0_8 n0_9 n0_10 n0_11 n1_0 n1_1 n1_2 n2_0 n2_1 n2_2 : Int) (w : World) (b0_0 : IntKind.u8.min ≤ n0_0 ∧ n0_0 ≤ IntKind.u8.max) (b0_1 : IntKind.i64.min ≤ n0_1 ∧ n0_1 ≤ IntKind.i64.max) (b0_2 : IntKind.i64.min ≤ n0_2 ∧ n0_2 ≤ IntKind.i64.max) (b0_3 : IntKind.u8.min ≤ n0_3 ∧ n0_3 ≤ IntKind.u8.max) (b0_4 : IntKind.i64.min ≤ n0_4 ∧ n0_4 ≤ IntKind.i64.max) (b0_5 : IntKind.i64.min ≤ n0_5 ∧ n0_5 ≤ IntKind.i64.max) (b0_6 : IntKind.i64.min ≤ n0_6 ∧ n0_6 ≤ IntKind.i64.max) (b0_7 : IntKind.i64.min ≤ n0_7 ∧ n0_7 ≤ IntKind.i64.max) (b0_8 : IntKind.i64.min ≤ n0_8 ∧ n0_8 ≤ IntKind.i64.max) (b0_9 : IntKind.i64.min ≤ n0_9 ∧ n0_9 ≤ IntKind.i64.max) (b0_10 : IntKind.u64.min ≤ n0_10 ∧ n0_10 ≤ IntKind.u64.max) (b0_11 : IntKind.u64.min ≤ n0_11 ∧ n0_11 ≤ IntKind.u64.max) (b1_0 : IntKind.u8.min ≤ n1_0 ∧ n1_0 ≤ IntKind.u8.max) (b1_1 : IntKind.i64.min ≤ n1_1 ∧ n1_1 ≤ IntKind.i64.max) (b1_2 : IntKind.i64.min ≤ n1_2 ∧ n1_2 ≤ IntKind.i64.max) (b2_0 : IntKind.u8.min ≤ n2_0 ∧ n2_0 ≤ IntKind.u8.max) (b2_1 : IntKind.i64.min ≤ n2_1 ∧ n2_1 ≤ IntKind.i64.max) (b2_2 : IntKind.i64.min ≤ n2_2 ∧ n2_2 ≤ IntKind.i64.max) (hp : Pw w) :
    Calls Tryd.prog 10 #[.agg #[.int .u8 n0_0, .int .i64 n0_1, .int .i64 n0_2, .int .u8 n0_3, .int .i64 n0_4, .int .i64 n0_5, .int .i64 n0_6, .int .i64 n0_7, .int .i64 n0_8, .int .i64 n0_9, .int .u64 n0_10, .int .u64 n0_11], .agg #[.int .u8 n1_0, .int .i64 n1_1, .int .i64 n1_2], .agg #[.int .u8 n2_0, .int .i64 n2_1, .int .i64 n2_2]] w fun e w' => e = .returned (.bool true) ∧ Below w.heap.size w w' := by
  simp [IntKind.min, IntKind.max, IntKind.signed, IntKind.bits] at b1_0 b2_0
  exact one_walk ⟨n0_0, n0_1, n0_2, n0_3, n0_4, n0_5, n0_6, n0_7, n0_8, n0_9, n0_10, n0_11⟩ n1_0 n1_1 n1_2 n2_0 n2_1 n2_2 w b1_0.1 b2_0.1 hp

end Go.Proofs.YtoamhkgnnjoaaaaDoor
