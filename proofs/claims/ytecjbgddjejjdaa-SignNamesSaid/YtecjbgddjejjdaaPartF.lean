/- Chapter 4: the reference's counts, Ahead. -/
import Derived.Test.YtecjbgddjejjdaaPartE
import Derived.IntWalk
namespace Go.Proofs.Ytecjbgddjejjdaa
open Go.RowKit


theorem counts_any (c : Cfg) (k : Int) (j : Nat) (w : World) (hm : c.May) (hk : k = j) : Calls Try.prog 52 #[.agg #[.int .u8 c.ob, .int .i64 c.inst, .int .i64 c.thr, .int .u8 c.kd, .int .i64 c.str, .int .i64 c.bits, .int .i64 c.cap, .int .i64 c.node, .int .i64 c.bat, .int .i64 c.chk, .int .u64 c.lim, .int .u64 c.most], .int .u8 k] w (CountsPost c.shp j w) := by
  have s1 := shp_thr hm
  have s2 := shp_inst hm
  have s3 := shp_str hm
  have hkd := May.kd hm
  by_cases h1 : k = 1 ∨ k = 2 ∨ k = 3
  · refine (counts_123 c k w h1).mono ?_
    rintro e w' ⟨rfl, hb⟩
    obtain ⟨e1, e2⟩ := cnt_123 (s := c.shp) (j := j) (by omega)
    exact counts_fin (by rw [e1]; rfl) (by rw [e2]; rfl) hb
  by_cases h2 : k = 4 ∨ k = 5
  · refine (counts_45 c k w h2).mono ?_
    rintro e w' ⟨rfl, hb⟩
    obtain ⟨e1, e2⟩ := cnt_45 (s := c.shp) (j := j) (by omega)
    exact counts_fin (by rw [e1, s1]) (by rw [e2]; rfl) hb
  by_cases h3 : k = 6
  · obtain rfl : j = 6 := by omega
    subst h3
    obtain ⟨e1, e2⟩ := cnt_6 (s := c.shp)
    rcases hkd with ⟨d1, d2, _⟩ | ⟨d1, d2, _⟩
    · refine (counts_6s c w (by simp [d1])).mono ?_
      rintro e w' ⟨rfl, hb⟩
      exact counts_fin (by rw [e1, d2]; rfl) (by rw [e2, d2, if_pos rfl, s1]) hb
    · refine (counts_6n c w (by simp [d1])).mono ?_
      rintro e w' ⟨rfl, hb⟩
      exact counts_fin (by rw [e1, d2]; rfl) (by rw [e2, d2]; rfl) hb
  by_cases h4 : k = 7 ∨ k = 8
  · obtain ⟨e1, e2⟩ := cnt_78 (s := c.shp) (j := j) (by omega)
    rcases hkd with ⟨d1, d2, _⟩ | ⟨d1, d2, _⟩
    · refine (counts_78n c k w h4 (by simp [d1])).mono ?_
      rintro e w' ⟨rfl, hb⟩
      exact counts_fin (by rw [e1, d2]; rfl) (by rw [e2, d2]; rfl) hb
    · refine (counts_78s c k w h4 (by simp [d1])).mono ?_
      rintro e w' ⟨rfl, hb⟩
      exact counts_fin (by rw [e1, d2]; rfl) (by rw [e2, d2, if_neg (by simp), s3]) hb
  by_cases h5 : k = 9
  · obtain rfl : j = 9 := by omega
    subst h5
    obtain ⟨e1, e2⟩ := cnt_9 (s := c.shp)
    refine (counts_9 c w).mono ?_
    rintro e w' ⟨rfl, hb⟩
    exact counts_fin (by rw [e1, s2]) (by rw [e2]; rfl) hb
  by_cases h6 : k = 10
  · obtain rfl : j = 10 := by omega
    subst h6
    obtain ⟨e1, e2⟩ := cnt_10 (s := c.shp)
    refine (counts_10 c w hm).mono ?_
    rintro e w' ⟨rfl, hb⟩
    exact counts_fin (by rw [e1, s2]) (by rw [e2]; rfl) hb
  · obtain ⟨e1, e2⟩ := cnt_no (s := c.shp) (j := j) (by omega)
    refine (counts_no c k w (by omega)).mono ?_
    rintro e w' ⟨rfl, hb⟩
    exact counts_fin (by rw [e1]; rfl) (by rw [e2]; rfl) hb

set_option maxHeartbeats 1600000 in
theorem Ahead_any (c : Cfg) (w : World) (hm : c.May) : Calls Try.prog 50 #[.agg #[.int .u8 c.ob, .int .i64 c.inst, .int .i64 c.thr, .int .u8 c.kd, .int .i64 c.str, .int .i64 c.bits, .int .i64 c.cap, .int .i64 c.node, .int .i64 c.bat, .int .i64 c.chk, .int .u64 c.lim, .int .u64 c.most]] w fun e w' => e = .returned (.int .i64 (aheadN c.shp)) ∧ Below w.heap.size w w' := by
  have HM := Lib.hid hm
  have HS := Lib.hid (May.small hm)
  clear hm
  go_enter Try.func50, Try.ntmps50
  go_wp2_with fail
  have hx := Box.new w 37 (cfgL c)
  have HB := Lib.hid (newB w (.cells ⟨cfgL c⟩ 37))
  unfold cfgL at *
  generalize w.alloc _ = V at *
  have HX := Lib.hid hx
  clear hx
  go_loopw [3, 4] (fun s i wr => ∃ j : Nat, 1 ≤ j ∧ j ≤ 9 ∧ i = .int .u8 j ∧ s = .int .i64 (sumC c.shp j : Nat) ∧ Below w.heap.size w wr ∧ Box wr w.heap.size (cfgL c)) (fun _ i _ => 10 - (intOf i).toNat)
  case atStart => exact ⟨1, by omega, by omega, rfl, rfl, HB.out, HX.out⟩
  case round =>
    clear HX HB
    obtain ⟨j, hj1, hj, rfl, rfl, hb0, hx⟩ := hrel
    have hs := sumC_le HS.out hj
    by_cases hlt : j ≤ 8
    · have HE := Lib.hid (sumC_succ c.shp j hj1)
      have HC := Lib.hid (counts_le HS.out j)
      generalize sumC c.shp j = s at *
      have HX := Lib.hid hx
      have HB := Lib.hid hb0
      unfold cfgL at hx
      have x0 := hx.c 0 rfl
      have x1 := hx.c 1 rfl
      have x2 := hx.c 2 rfl
      have x3 := hx.c 3 rfl
      have x4 := hx.c 4 rfl
      have x5 := hx.c 5 rfl
      have x6 := hx.c 6 rfl
      have x7 := hx.c 7 rfl
      have x8 := hx.c 8 rfl
      have x9 := hx.c 9 rfl
      have x10 := hx.c 10 rfl
      have x11 := hx.c 11 rfl
      clear hx hb0
      go_wp2_with fail
      refine (counts_any c j j wr HM.out rfl).mono ?_
      rintro e w1 ⟨rfl, hb⟩
      have HX1 := Lib.hid (HX.out.below hb)
      have HB1 := Lib.hid (keepB hb HB.out)
      have hc := HC.out
      clear x0 x1 x2 x3 x4 x5 x6 x7 x8 x9 x10 x11 HX HB hb HC
      generalize (countsN c.shp j).1 = n1 at *
      generalize (countsN c.shp j).2 = n2 at *
      have hc3 : (n1 : Int) * (n2 : Int) ≤ 644 := by have := Int.ofNat_le.2 hc.2.2; rw [Int.natCast_mul] at this; exact this
      have hc4 : (0 : Int) ≤ (n1 : Int) * (n2 : Int) := Int.mul_nonneg (Int.natCast_nonneg _) (Int.natCast_nonneg _)
      obtain ⟨c1, c2, _⟩ := hc
      go_wp2_with fail
      go_roundw
      case rel => exact ⟨j + 1, by omega, by omega, by go_num, by rw [HE.out]; go_num, HB1.out, HX1.out⟩
      case measure => simp [intOf]; omega
    · obtain rfl : j = 9 := by omega
      have HE := Lib.hid (sumC_ahead c.shp)
      generalize sumC c.shp 9 = s at *
      have HB := Lib.hid hb0
      clear hx hb0 hs
      go_wp2_with fail
      go_ret
      exact ⟨ret_i64 (by rw [HE.out]), HB.out⟩

theorem wrapN {x : Int} {n : Nat} (h : x = n) (hn : n ≤ 9223372036854775807) : IntKind.i64.wrap x = (n : Int) := by
  subst h
  exact IntWalk.i64_in _ (by omega)

end Go.Proofs.Ytecjbgddjejjdaa
