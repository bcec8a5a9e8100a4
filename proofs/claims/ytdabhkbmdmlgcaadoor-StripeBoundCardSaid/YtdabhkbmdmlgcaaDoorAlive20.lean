/- Chapter 20: the examples (alive), and the walk of StripeNames. -/
import Derived.Test.YtdabhkbmdmlgcaaDoorStripeE
namespace Go.Proofs.YtdabhkbmdmlgcaaDoor
open Go.RowKit

def ex20 : Cfg := ⟨3, 2, 3, 2, 2, 0, 4, 0, 2, 0, 131072, 9⟩
def ex20b : Cfg := ⟨3, 2, 3, 1, 0, 0, 4, 0, 2, 0, 131072, 0⟩

set_option maxRecDepth 100000 in
theorem conf20_any (w : World) : Calls Tryd.prog 34 #[] w fun e w' => e = .returned (.agg #[.int .u8 3, .int .i64 2, .int .i64 3, .int .u8 2, .int .i64 2, .int .i64 0, .int .i64 4, .int .i64 0, .int .i64 2, .int .i64 0, .int .u64 131072, .int .u64 9]) ∧ Below w.heap.size w w' := by
  go_enter Tryd.func34, Tryd.ntmps34
  go_wp2_with fail
  exact bodyPost_ret (v := .agg #[.int .u8 3, .int .i64 2, .int .i64 3, .int .u8 2, .int .i64 2, .int .i64 0, .int .i64 4, .int .i64 0, .int .i64 2, .int .i64 0, .int .u64 131072, .int .u64 9]) ((Box.new w 24 [.int .u8 3, .int .i64 2, .int .i64 3, .int .u8 2, .int .i64 2, .int .i64 0, .int .i64 4, .int .i64 0, .int .i64 2, .int .i64 0, .int .u64 131072, .int .u64 9]).results rfl (fun _ => by kernel_rfl) (fun _ => by kernel_rfl) rfl) rfl ⟨rfl, newB w _⟩

theorem e20_1 : accV (stA ex20 (sideK 1) 1 2) = .agg #[.int .u8 4, .int .i64 11, .int .u64 0, .int .u64 0, .int .u64 0, .int .u64 0, .int .u64 0, .int .u64 1, .int .u64 0, .int .u64 0] := by kernel_rfl
theorem e20_1e : stE ex20 1 2 = 0 := by kernel_rfl
theorem e20_2 : accV (stA ex20 (sideK 0) 1 2) = .agg #[.int .u8 4, .int .i64 15, .int .u64 0, .int .u64 0, .int .u64 0, .int .u64 0, .int .u64 0, .int .u64 1, .int .u64 0, .int .u64 0] := by kernel_rfl
theorem e20_3 : ssR ex20 0 1 4 3 = .tuple #[.agg #[.int .u64 0, .int .i64 2, .int .u64 7], .bool false, .int .i64 0] := by kernel_rfl
theorem e20_4 : ssR ex20 0 3 5 5 = .tuple #[.agg #[.int .u64 0, .int .i64 4, .int .u64 0], .bool true, .int .i64 0] := by kernel_rfl
theorem e20_5 : ssR ex20 0 3 5 6 = .tuple #[.agg #[.int .u64 0, .int .i64 0, .int .u64 0], .bool false, .int .i64 0] := by kernel_rfl
theorem e20_6 : fullB ex20 9 = true := by kernel_rfl
theorem e20_6e : fullE ex20 = 0 := by kernel_rfl
theorem e20_7 : fullB ex20 8 = false := by kernel_rfl
theorem e20_l0 : accV (lkA ex20 1 0) = .agg #[.int .u8 1, .int .i64 15, .int .u64 0, .int .u64 0, .int .u64 0, .int .u64 0, .int .u64 0, .int .u64 0, .int .u64 0, .int .u64 0] := by kernel_rfl
theorem e20_le0 : lkE ex20 1 0 = 0 := by kernel_rfl
theorem e20_l1 : accV (lkA ex20 1 1) = .agg #[.int .u8 1, .int .i64 16, .int .u64 0, .int .u64 0, .int .u64 0, .int .u64 0, .int .u64 0, .int .u64 0, .int .u64 0, .int .u64 0] := by kernel_rfl
theorem e20_le1 : lkE ex20 1 1 = 0 := by kernel_rfl
theorem e20_l2 : accV (lkA ex20 1 2) = .agg #[.int .u8 1, .int .i64 11, .int .u64 0, .int .u64 0, .int .u64 0, .int .u64 0, .int .u64 0, .int .u64 0, .int .u64 0, .int .u64 0] := by kernel_rfl
theorem e20_le2 : lkE ex20 1 2 = 0 := by kernel_rfl
theorem e20_l3 : accV (lkA ex20 1 3) = .agg #[.int .u8 1, .int .i64 12, .int .u64 0, .int .u64 0, .int .u64 0, .int .u64 0, .int .u64 0, .int .u64 0, .int .u64 0, .int .u64 0] := by kernel_rfl
theorem e20_le3 : lkE ex20 1 3 = 0 := by kernel_rfl
theorem e20_8 : stE ex20b 0 0 = 40 := by kernel_rfl
theorem e20_8a : accV (stA ex20b (sideK 1) 0 0) = .agg #[.int .u8 0, .int .i64 0, .int .u64 0, .int .u64 0, .int .u64 0, .int .u64 0, .int .u64 0, .int .u64 0, .int .u64 0, .int .u64 0] := by kernel_rfl
theorem e20_9 : stE ex20 2 0 = 2 := by kernel_rfl
theorem e20_9a : accV (stA ex20 (sideK 1) 2 0) = .agg #[.int .u8 0, .int .i64 0, .int .u64 0, .int .u64 0, .int .u64 0, .int .u64 0, .int .u64 0, .int .u64 0, .int .u64 0, .int .u64 0] := by kernel_rfl
theorem e20_10 : stE ex20 0 3 = 2 := by kernel_rfl
theorem e20_10a : accV (stA ex20 (sideK 0) 0 3) = .agg #[.int .u8 0, .int .i64 0, .int .u64 0, .int .u64 0, .int .u64 0, .int .u64 0, .int .u64 0, .int .u64 0, .int .u64 0, .int .u64 0] := by kernel_rfl
theorem e20_11 : lkE ex20 0 4 = 2 := by kernel_rfl
theorem e20_11a : accV (lkA ex20 0 4) = .agg #[.int .u8 0, .int .i64 0, .int .u64 0, .int .u64 0, .int .u64 0, .int .u64 0, .int .u64 0, .int .u64 0, .int .u64 0, .int .u64 0] := by kernel_rfl
theorem e20_12 : ssR ex20 0 (-1) 0 0 = .tuple #[.agg #[.int .u64 0, .int .i64 0, .int .u64 0], .bool false, .int .i64 2] := by kernel_rfl
theorem e20_13 : fullB ex20b 0 = false := by kernel_rfl
theorem e20_13e : fullE ex20b = 40 := by kernel_rfl
theorem e20_14 : ssR ex20 7 2 0 1 = .tuple #[.agg #[.int .u64 7, .int .i64 3, .int .u64 18446744073709551615], .bool false, .int .i64 0] := by kernel_rfl

set_option maxRecDepth 100000 in
set_option maxHeartbeats 1600000 in
theorem at20_any (n v : Int) (w : World) (hp : Pw w) (hn : n ≤ 9223372036854775807) (h1 : accV (lkA ex20 1 n) = .agg #[.int .u8 1, .int .i64 v, .int .u64 0, .int .u64 0, .int .u64 0, .int .u64 0, .int .u64 0, .int .u64 0, .int .u64 0, .int .u64 0]) (h2 : lkE ex20 1 n = 0) :
    Calls Tryd.prog 53 #[.int .i64 n] w fun e w' => e = .returned (.int .i64 v) ∧ Below w.heap.size w w' := by
  have HP := Lib.hid hp; have HN := Lib.hid hn; have H1 := Lib.hid h1; have H2 := Lib.hid h2
  clear hp hn h1 h2
  go_enter Tryd.func53, Tryd.ntmps53
  go_wp2_with fail
  have HB := Lib.hid (Below.refl w.heap.size w)
  refine (conf20_any w).mono ?_
  rintro e u1 ⟨rfl, hb⟩
  have HB := Lib.hid (keepB hb HB.out)
  clear hb
  go_wp2_with fail
  refine (sLook_any ex20 1 0 n 0 u1 (HP.out.more HB.out) HN.out).mono ?_
  rintro e u2 ⟨rfl, hb⟩
  rw [H1.out, H2.out]
  have HB := Lib.hid (keepB hb HB.out)
  clear hb
  go_wp2_with fail
  go_ret
  exact ⟨rfl, moreB HB.out _⟩

set_option maxRecDepth 100000 in
set_option maxHeartbeats 6400000 in
theorem alive20_any (w : World) (hp : Pw w) : Calls Tryd.prog 35 #[] w fun e w' => e = .returned (.bool true) ∧ Below w.heap.size w w' := by
  have HP := Lib.hid hp
  clear hp
  go_enter Tryd.func35, Tryd.ntmps35
  go_wp2_with fail
  have HB := Lib.hid (Below.refl w.heap.size w)
  refine (conf20_any w).mono ?_
  rintro e u1 ⟨rfl, hb⟩
  have HB := Lib.hid (keepB hb HB.out)
  clear hb
  go_wp2_with fail
  refine (sArrive_any ex20 1 2 u1 (HP.out.more HB.out)).mono ?_
  rintro e u2 ⟨rfl, hb⟩
  rw [e20_1, e20_1e]
  have HB := Lib.hid (keepB hb HB.out)
  clear hb
  go_wp2_with fail
  have HA' := Box.new u2 28 [.int .u8 4, .int .i64 11, .int .u64 0, .int .u64 0, .int .u64 0, .int .u64 0, .int .u64 0, .int .u64 1, .int .u64 0, .int .u64 0]
  have HB := Lib.hid (moreB HB.out (.cells ⟨[.int .u8 4, .int .i64 11, .int .u64 0, .int .u64 0, .int .u64 0, .int .u64 0, .int .u64 0, .int .u64 1, .int .u64 0, .int .u64 0]⟩ 28))
  generalize u2.alloc _ = v2 at *
  have HA := Lib.hid HA'
  clear HA'
  refine (conf20_any v2).mono ?_
  rintro e u3 ⟨rfl, hb⟩
  have HA := Lib.hid (HA.out.below hb)
  have HB := Lib.hid (keepB hb HB.out)
  clear hb
  go_wp2_with fail
  refine (sDepart_any ex20 1 2 u3 (HP.out.more HB.out)).mono ?_
  rintro e u4 ⟨rfl, hb⟩
  rw [e20_2, e20_1e]
  have HA := Lib.hid (HA.out.below hb)
  have HB := Lib.hid (keepB hb HB.out)
  clear hb
  go_wp2_with fail
  have HC' := Box.new u4 28 [.int .u8 4, .int .i64 15, .int .u64 0, .int .u64 0, .int .u64 0, .int .u64 0, .int .u64 0, .int .u64 1, .int .u64 0, .int .u64 0]
  have HA := Lib.hid (HA.out.alloc (.cells ⟨[.int .u8 4, .int .i64 15, .int .u64 0, .int .u64 0, .int .u64 0, .int .u64 0, .int .u64 0, .int .u64 1, .int .u64 0, .int .u64 0]⟩ 28))
  have HB := Lib.hid (moreB HB.out (.cells ⟨[.int .u8 4, .int .i64 15, .int .u64 0, .int .u64 0, .int .u64 0, .int .u64 0, .int .u64 0, .int .u64 1, .int .u64 0, .int .u64 0]⟩ 28))
  generalize u4.alloc _ = v4 at *
  have HC := Lib.hid HC'
  clear HC'
  refine (conf20_any v4).mono ?_
  rintro e u5 ⟨rfl, hb⟩
  have HA := Lib.hid (HA.out.below hb)
  have HC := Lib.hid (HC.out.below hb)
  have HB := Lib.hid (keepB hb HB.out)
  clear hb
  go_wp2_with fail
  refine (sSeen_any ex20 0 1 4 0 3 0 0 u5 (by omega)).mono ?_
  rintro e u6 ⟨rfl, hb⟩
  rw [e20_3]
  have HA := Lib.hid (HA.out.below hb)
  have HC := Lib.hid (HC.out.below hb)
  have HB := Lib.hid (keepB hb HB.out)
  clear hb
  go_wp2_with fail
  have HD' := Box.new u6 36 [.int .u64 0, .int .i64 2, .int .u64 7]
  have HA := Lib.hid (HA.out.alloc (.cells ⟨[.int .u64 0, .int .i64 2, .int .u64 7]⟩ 36))
  have HC := Lib.hid (HC.out.alloc (.cells ⟨[.int .u64 0, .int .i64 2, .int .u64 7]⟩ 36))
  have HB := Lib.hid (moreB HB.out (.cells ⟨[.int .u64 0, .int .i64 2, .int .u64 7]⟩ 36))
  generalize u6.alloc _ = v6 at *
  have HD := Lib.hid HD'
  clear HD'
  refine (conf20_any v6).mono ?_
  rintro e u7 ⟨rfl, hb⟩
  have HA := Lib.hid (HA.out.below hb)
  have HC := Lib.hid (HC.out.below hb)
  have HD := Lib.hid (HD.out.below hb)
  have HB := Lib.hid (keepB hb HB.out)
  clear hb
  go_wp2_with fail
  refine (sSeen_any ex20 0 3 5 0 5 0 0 u7 (by omega)).mono ?_
  rintro e u8 ⟨rfl, hb⟩
  rw [e20_4]
  have HA := Lib.hid (HA.out.below hb)
  have HC := Lib.hid (HC.out.below hb)
  have HD := Lib.hid (HD.out.below hb)
  have HB := Lib.hid (keepB hb HB.out)
  clear hb
  go_wp2_with fail
  have HE' := Box.new u8 36 [.int .u64 0, .int .i64 4, .int .u64 0]
  have HA := Lib.hid (HA.out.alloc (.cells ⟨[.int .u64 0, .int .i64 4, .int .u64 0]⟩ 36))
  have HC := Lib.hid (HC.out.alloc (.cells ⟨[.int .u64 0, .int .i64 4, .int .u64 0]⟩ 36))
  have HD := Lib.hid (HD.out.alloc (.cells ⟨[.int .u64 0, .int .i64 4, .int .u64 0]⟩ 36))
  have HB := Lib.hid (moreB HB.out (.cells ⟨[.int .u64 0, .int .i64 4, .int .u64 0]⟩ 36))
  generalize u8.alloc _ = v8 at *
  have HE := Lib.hid HE'
  clear HE'
  refine (conf20_any v8).mono ?_
  rintro e u9 ⟨rfl, hb⟩
  have HA := Lib.hid (HA.out.below hb)
  have HC := Lib.hid (HC.out.below hb)
  have HD := Lib.hid (HD.out.below hb)
  have HE := Lib.hid (HE.out.below hb)
  have HB := Lib.hid (keepB hb HB.out)
  clear hb
  go_wp2_with fail
  refine (sSeen_any ex20 0 3 5 0 6 0 0 u9 (by omega)).mono ?_
  rintro e u10 ⟨rfl, hb⟩
  rw [e20_5]
  have HA := Lib.hid (HA.out.below hb)
  have HC := Lib.hid (HC.out.below hb)
  have HD := Lib.hid (HD.out.below hb)
  have HE := Lib.hid (HE.out.below hb)
  have HB := Lib.hid (keepB hb HB.out)
  clear hb
  go_wp2_with fail
  have HF' := Box.new u10 36 [.int .u64 0, .int .i64 0, .int .u64 0]
  have HA := Lib.hid (HA.out.alloc (.cells ⟨[.int .u64 0, .int .i64 0, .int .u64 0]⟩ 36))
  have HC := Lib.hid (HC.out.alloc (.cells ⟨[.int .u64 0, .int .i64 0, .int .u64 0]⟩ 36))
  have HD := Lib.hid (HD.out.alloc (.cells ⟨[.int .u64 0, .int .i64 0, .int .u64 0]⟩ 36))
  have HE := Lib.hid (HE.out.alloc (.cells ⟨[.int .u64 0, .int .i64 0, .int .u64 0]⟩ 36))
  have HB := Lib.hid (moreB HB.out (.cells ⟨[.int .u64 0, .int .i64 0, .int .u64 0]⟩ 36))
  generalize u10.alloc _ = v10 at *
  have HF := Lib.hid HF'
  clear HF'
  refine (conf20_any v10).mono ?_
  rintro e u11 ⟨rfl, hb⟩
  have HA := Lib.hid (HA.out.below hb)
  have HC := Lib.hid (HC.out.below hb)
  have HD := Lib.hid (HD.out.below hb)
  have HE := Lib.hid (HE.out.below hb)
  have HF := Lib.hid (HF.out.below hb)
  have HB := Lib.hid (keepB hb HB.out)
  clear hb
  go_wp2_with fail
  refine (sFull_any ex20 0 9 0 0 u11).mono ?_
  rintro e u12 ⟨rfl, hb⟩
  rw [e20_6, e20_6e]
  have HA := Lib.hid (HA.out.below hb)
  have HC := Lib.hid (HC.out.below hb)
  have HD := Lib.hid (HD.out.below hb)
  have HE := Lib.hid (HE.out.below hb)
  have HF := Lib.hid (HF.out.below hb)
  have HB := Lib.hid (keepB hb HB.out)
  clear hb
  go_wp2_with fail
  refine (conf20_any u12).mono ?_
  rintro e u13 ⟨rfl, hb⟩
  have HA := Lib.hid (HA.out.below hb)
  have HC := Lib.hid (HC.out.below hb)
  have HD := Lib.hid (HD.out.below hb)
  have HE := Lib.hid (HE.out.below hb)
  have HF := Lib.hid (HF.out.below hb)
  have HB := Lib.hid (keepB hb HB.out)
  clear hb
  go_wp2_with fail
  refine (sFull_any ex20 0 8 0 0 u13).mono ?_
  rintro e u14 ⟨rfl, hb⟩
  rw [e20_7, e20_6e]
  have HA := Lib.hid (HA.out.below hb)
  have HC := Lib.hid (HC.out.below hb)
  have HD := Lib.hid (HD.out.below hb)
  have HE := Lib.hid (HE.out.below hb)
  have HF := Lib.hid (HF.out.below hb)
  have HB := Lib.hid (keepB hb HB.out)
  clear hb
  have ha_0 := HA.out.c 0 rfl
  have ha_1 := HA.out.c 1 rfl
  have ha_2 := HA.out.c 2 rfl
  have ha_3 := HA.out.c 3 rfl
  have ha_4 := HA.out.c 4 rfl
  have ha_5 := HA.out.c 5 rfl
  have ha_6 := HA.out.c 6 rfl
  have ha_7 := HA.out.c 7 rfl
  have ha_8 := HA.out.c 8 rfl
  have ha_9 := HA.out.c 9 rfl
  have hc_0 := HC.out.c 0 rfl
  have hc_1 := HC.out.c 1 rfl
  have hc_2 := HC.out.c 2 rfl
  have hc_3 := HC.out.c 3 rfl
  have hc_4 := HC.out.c 4 rfl
  have hc_5 := HC.out.c 5 rfl
  have hc_6 := HC.out.c 6 rfl
  have hc_7 := HC.out.c 7 rfl
  have hc_8 := HC.out.c 8 rfl
  have hc_9 := HC.out.c 9 rfl
  go_wp2_with fail
  clear ha_0 ha_1 ha_2 ha_3 ha_4 ha_5 ha_6 ha_7 ha_8 ha_9
  clear hc_0 hc_1 hc_2 hc_3 hc_4 hc_5 hc_6 hc_7 hc_8 hc_9
  refine (at20_any 0 15 u14 (HP.out.more HB.out) (by omega) e20_l0 e20_le0).mono ?_
  rintro e u15 ⟨rfl, hb⟩
  have HA := Lib.hid (HA.out.below hb)
  have HC := Lib.hid (HC.out.below hb)
  have HD := Lib.hid (HD.out.below hb)
  have HE := Lib.hid (HE.out.below hb)
  have HF := Lib.hid (HF.out.below hb)
  have HB := Lib.hid (keepB hb HB.out)
  clear hb
  go_wp2_with fail
  refine (at20_any 1 16 u15 (HP.out.more HB.out) (by omega) e20_l1 e20_le1).mono ?_
  rintro e u16 ⟨rfl, hb⟩
  have HA := Lib.hid (HA.out.below hb)
  have HC := Lib.hid (HC.out.below hb)
  have HD := Lib.hid (HD.out.below hb)
  have HE := Lib.hid (HE.out.below hb)
  have HF := Lib.hid (HF.out.below hb)
  have HB := Lib.hid (keepB hb HB.out)
  clear hb
  go_wp2_with fail
  refine (at20_any 2 11 u16 (HP.out.more HB.out) (by omega) e20_l2 e20_le2).mono ?_
  rintro e u17 ⟨rfl, hb⟩
  have HA := Lib.hid (HA.out.below hb)
  have HC := Lib.hid (HC.out.below hb)
  have HD := Lib.hid (HD.out.below hb)
  have HE := Lib.hid (HE.out.below hb)
  have HF := Lib.hid (HF.out.below hb)
  have HB := Lib.hid (keepB hb HB.out)
  clear hb
  go_wp2_with fail
  refine (at20_any 3 12 u17 (HP.out.more HB.out) (by omega) e20_l3 e20_le3).mono ?_
  rintro e u18 ⟨rfl, hb⟩
  have HA := Lib.hid (HA.out.below hb)
  have HC := Lib.hid (HC.out.below hb)
  have HD := Lib.hid (HD.out.below hb)
  have HE := Lib.hid (HE.out.below hb)
  have HF := Lib.hid (HF.out.below hb)
  have HB := Lib.hid (keepB hb HB.out)
  clear hb
  have ha_0 := HA.out.c 0 rfl
  have ha_1 := HA.out.c 1 rfl
  have ha_2 := HA.out.c 2 rfl
  have ha_3 := HA.out.c 3 rfl
  have ha_4 := HA.out.c 4 rfl
  have ha_5 := HA.out.c 5 rfl
  have ha_6 := HA.out.c 6 rfl
  have ha_7 := HA.out.c 7 rfl
  have ha_8 := HA.out.c 8 rfl
  have ha_9 := HA.out.c 9 rfl
  have hc_0 := HC.out.c 0 rfl
  have hc_1 := HC.out.c 1 rfl
  have hc_2 := HC.out.c 2 rfl
  have hc_3 := HC.out.c 3 rfl
  have hc_4 := HC.out.c 4 rfl
  have hc_5 := HC.out.c 5 rfl
  have hc_6 := HC.out.c 6 rfl
  have hc_7 := HC.out.c 7 rfl
  have hc_8 := HC.out.c 8 rfl
  have hc_9 := HC.out.c 9 rfl
  have hd_0 := HD.out.c 0 rfl
  have hd_1 := HD.out.c 1 rfl
  have hd_2 := HD.out.c 2 rfl
  have he_0 := HE.out.c 0 rfl
  have he_1 := HE.out.c 1 rfl
  have he_2 := HE.out.c 2 rfl
  have hf_0 := HF.out.c 0 rfl
  have hf_1 := HF.out.c 1 rfl
  have hf_2 := HF.out.c 2 rfl
  go_wp2_with fail
  go_ret
  exact ⟨rfl, HB.out⟩

set_option maxRecDepth 100000 in
set_option maxHeartbeats 6400000 in
theorem names20_any (w : World) (hp : Pw w) : Calls Tryd.prog 8 #[] w fun e w' => e = .returned (.bool true) ∧ Below w.heap.size w w' := by
  have HP := Lib.hid hp
  clear hp
  go_enter Tryd.func8, Tryd.ntmps8
  go_wp2_with fail
  have HB := Lib.hid (Below.refl w.heap.size w)
  refine (conf20_any w).mono ?_
  rintro e u0 ⟨rfl, hb⟩
  have HB := Lib.hid (keepB hb HB.out)
  clear hb
  go_wp2_with fail
  have HB := Lib.hid (moreB HB.out (.cells ⟨[.int .u8 3, .int .i64 2, .int .i64 3, .int .u8 1, .int .i64 0, .int .i64 0, .int .i64 4, .int .i64 0, .int .i64 2, .int .i64 0, .int .u64 131072, .int .u64 0]⟩ 24))
  have HX' := Box.new u0 24 [.int .u8 3, .int .i64 2, .int .i64 3, .int .u8 1, .int .i64 0, .int .i64 0, .int .i64 4, .int .i64 0, .int .i64 2, .int .i64 0, .int .u64 131072, .int .u64 0]
  generalize u0.alloc _ = v0 at *
  have HX := Lib.hid HX'
  clear HX'
  refine (sArrive_any ex20b 0 0 v0 (HP.out.more HB.out)).mono ?_
  rintro e u2 ⟨rfl, hb⟩
  rw [e20_8a, e20_8]
  have HX := Lib.hid (HX.out.below hb)
  have HB := Lib.hid (keepB hb HB.out)
  clear hb
  go_wp2_with fail
  have HX := Lib.hid (HX.out.alloc (.cells ⟨[.int .u8 0, .int .i64 0, .int .u64 0, .int .u64 0, .int .u64 0, .int .u64 0, .int .u64 0, .int .u64 0, .int .u64 0, .int .u64 0]⟩ 28))
  have HB := Lib.hid (moreB HB.out (.cells ⟨[.int .u8 0, .int .i64 0, .int .u64 0, .int .u64 0, .int .u64 0, .int .u64 0, .int .u64 0, .int .u64 0, .int .u64 0, .int .u64 0]⟩ 28))
  generalize u2.alloc _ = v2 at *
  refine (conf20_any v2).mono ?_
  rintro e u3 ⟨rfl, hb⟩
  have HX := Lib.hid (HX.out.below hb)
  have HB := Lib.hid (keepB hb HB.out)
  clear hb
  go_wp2_with fail
  refine (sArrive_any ex20 2 0 u3 (HP.out.more HB.out)).mono ?_
  rintro e u4 ⟨rfl, hb⟩
  rw [e20_9a, e20_9]
  have HX := Lib.hid (HX.out.below hb)
  have HB := Lib.hid (keepB hb HB.out)
  clear hb
  go_wp2_with fail
  have HX := Lib.hid (HX.out.alloc (.cells ⟨[.int .u8 0, .int .i64 0, .int .u64 0, .int .u64 0, .int .u64 0, .int .u64 0, .int .u64 0, .int .u64 0, .int .u64 0, .int .u64 0]⟩ 28))
  have HB := Lib.hid (moreB HB.out (.cells ⟨[.int .u8 0, .int .i64 0, .int .u64 0, .int .u64 0, .int .u64 0, .int .u64 0, .int .u64 0, .int .u64 0, .int .u64 0, .int .u64 0]⟩ 28))
  generalize u4.alloc _ = v4 at *
  refine (conf20_any v4).mono ?_
  rintro e u5 ⟨rfl, hb⟩
  have HX := Lib.hid (HX.out.below hb)
  have HB := Lib.hid (keepB hb HB.out)
  clear hb
  go_wp2_with fail
  refine (sDepart_any ex20 0 3 u5 (HP.out.more HB.out)).mono ?_
  rintro e u6 ⟨rfl, hb⟩
  rw [e20_10a, e20_10]
  have HX := Lib.hid (HX.out.below hb)
  have HB := Lib.hid (keepB hb HB.out)
  clear hb
  go_wp2_with fail
  have HX := Lib.hid (HX.out.alloc (.cells ⟨[.int .u8 0, .int .i64 0, .int .u64 0, .int .u64 0, .int .u64 0, .int .u64 0, .int .u64 0, .int .u64 0, .int .u64 0, .int .u64 0]⟩ 28))
  have HB := Lib.hid (moreB HB.out (.cells ⟨[.int .u8 0, .int .i64 0, .int .u64 0, .int .u64 0, .int .u64 0, .int .u64 0, .int .u64 0, .int .u64 0, .int .u64 0, .int .u64 0]⟩ 28))
  generalize u6.alloc _ = v6 at *
  refine (conf20_any v6).mono ?_
  rintro e u7 ⟨rfl, hb⟩
  have HX := Lib.hid (HX.out.below hb)
  have HB := Lib.hid (keepB hb HB.out)
  clear hb
  go_wp2_with fail
  refine (sLook_any ex20 0 0 4 0 u7 (HP.out.more HB.out) (by omega)).mono ?_
  rintro e u8 ⟨rfl, hb⟩
  rw [e20_11a, e20_11]
  have HX := Lib.hid (HX.out.below hb)
  have HB := Lib.hid (keepB hb HB.out)
  clear hb
  go_wp2_with fail
  have HX := Lib.hid (HX.out.alloc (.cells ⟨[.int .u8 0, .int .i64 0, .int .u64 0, .int .u64 0, .int .u64 0, .int .u64 0, .int .u64 0, .int .u64 0, .int .u64 0, .int .u64 0]⟩ 28))
  have HB := Lib.hid (moreB HB.out (.cells ⟨[.int .u8 0, .int .i64 0, .int .u64 0, .int .u64 0, .int .u64 0, .int .u64 0, .int .u64 0, .int .u64 0, .int .u64 0, .int .u64 0]⟩ 28))
  generalize u8.alloc _ = v8 at *
  refine (conf20_any v8).mono ?_
  rintro e u9 ⟨rfl, hb⟩
  have HX := Lib.hid (HX.out.below hb)
  have HB := Lib.hid (keepB hb HB.out)
  clear hb
  go_wp2_with fail
  refine (sSeen_any ex20 0 (-1) 0 0 0 0 0 u9 (by omega)).mono ?_
  rintro e u10 ⟨rfl, hb⟩
  rw [e20_12]
  have HX := Lib.hid (HX.out.below hb)
  have HB := Lib.hid (keepB hb HB.out)
  clear hb
  have hx_0 := fun o => (HX.out.alloc o).c 0 rfl
  have hx_1 := fun o => (HX.out.alloc o).c 1 rfl
  have hx_2 := fun o => (HX.out.alloc o).c 2 rfl
  have hx_3 := fun o => (HX.out.alloc o).c 3 rfl
  have hx_4 := fun o => (HX.out.alloc o).c 4 rfl
  have hx_5 := fun o => (HX.out.alloc o).c 5 rfl
  have hx_6 := fun o => (HX.out.alloc o).c 6 rfl
  have hx_7 := fun o => (HX.out.alloc o).c 7 rfl
  have hx_8 := fun o => (HX.out.alloc o).c 8 rfl
  have hx_9 := fun o => (HX.out.alloc o).c 9 rfl
  have hx_10 := fun o => (HX.out.alloc o).c 10 rfl
  have hx_11 := fun o => (HX.out.alloc o).c 11 rfl
  go_wp2_with fail
  clear hx_0 hx_1 hx_2 hx_3 hx_4 hx_5 hx_6 hx_7 hx_8 hx_9 hx_10 hx_11
  have HX := Lib.hid (HX.out.alloc (.cells ⟨[.int .u64 0, .int .i64 0, .int .u64 0]⟩ 36))
  have HB := Lib.hid (moreB HB.out (.cells ⟨[.int .u64 0, .int .i64 0, .int .u64 0]⟩ 36))
  generalize u10.alloc _ = v10 at *
  refine (sFull_any ex20b 0 0 0 0 v10).mono ?_
  rintro e u11 ⟨rfl, hb⟩
  rw [e20_13, e20_13e]
  have HX := Lib.hid (HX.out.below hb)
  have HB := Lib.hid (keepB hb HB.out)
  clear hb
  go_wp2_with fail
  refine (conf20_any u11).mono ?_
  rintro e u12 ⟨rfl, hb⟩
  have HX := Lib.hid (HX.out.below hb)
  have HB := Lib.hid (keepB hb HB.out)
  clear hb
  go_wp2_with fail
  refine (sSeen_any ex20 7 2 0 0 1 0 0 u12 (by omega)).mono ?_
  rintro e u13 ⟨rfl, hb⟩
  rw [e20_14]
  have HX := Lib.hid (HX.out.below hb)
  have HB := Lib.hid (keepB hb HB.out)
  clear hb
  go_wp2_with fail
  have HC' := Box.new u13 36 [.int .u64 7, .int .i64 3, .int .u64 18446744073709551615]
  have HX := Lib.hid (HX.out.alloc (.cells ⟨[.int .u64 7, .int .i64 3, .int .u64 18446744073709551615]⟩ 36))
  have HB := Lib.hid (moreB HB.out (.cells ⟨[.int .u64 7, .int .i64 3, .int .u64 18446744073709551615]⟩ 36))
  generalize u13.alloc _ = v13 at *
  have HC := Lib.hid HC'
  clear HC'
  refine (alive20_any v13 (HP.out.more HB.out)).mono ?_
  rintro e u14 ⟨rfl, hb⟩
  have HX := Lib.hid (HX.out.below hb)
  have HC := Lib.hid (HC.out.below hb)
  have HB := Lib.hid (keepB hb HB.out)
  clear hb
  have hx_0 := HX.out.c 0 rfl
  have hx_1 := HX.out.c 1 rfl
  have hx_2 := HX.out.c 2 rfl
  have hx_3 := HX.out.c 3 rfl
  have hx_4 := HX.out.c 4 rfl
  have hx_5 := HX.out.c 5 rfl
  have hx_6 := HX.out.c 6 rfl
  have hx_7 := HX.out.c 7 rfl
  have hx_8 := HX.out.c 8 rfl
  have hx_9 := HX.out.c 9 rfl
  have hx_10 := HX.out.c 10 rfl
  have hx_11 := HX.out.c 11 rfl
  have hc_0 := HC.out.c 0 rfl
  have hc_1 := HC.out.c 1 rfl
  have hc_2 := HC.out.c 2 rfl
  go_wp2_with fail
  go_ret
  exact ⟨rfl, HB.out⟩

theorem walk_StripeNames (w : World) (hp : Pw w) : Calls Tryd.prog 8 #[] w fun e w' => e = .returned (.bool true) ∧ Below w.heap.size w w' := names20_any w hp

end Go.Proofs.YtdabhkbmdmlgcaaDoor
