/- The walk of SignNames. -/
import Derived.Test.YtecjbgddjejjdaaAlive21
namespace Go.Proofs.Ytecjbgddjejjdaa
open Go.RowKit

def ex21z : Cfg := ⟨0, 0, 0, 0, 0, 0, 0, 0, 0, 0, 0, 0⟩
theorem ex21z_n : ¬ ex21z.May := by decide

theorem n21a (w : World) : Calls Try.prog 14 #[.agg #[.int .u8 3, .int .i64 2, .int .i64 3, .int .u8 1, .int .i64 0, .int .i64 0, .int .i64 4, .int .i64 0, .int .i64 2, .int .i64 0, .int .u64 131072, .int .u64 0], .int .i64 1, .int .i64 0] w fun e w' => e = .returned (.tuple #[.agg #[.int .u8 2, .int .i64 12, .int .u64 0, .int .u64 0, .int .u64 0, .int .u64 0, .int .u64 0, .int .u64 1, .int .u64 0, .int .u64 0], .int .i64 0]) ∧ Below w.heap.size w w' := calls_same (by rw [show accV (mkA ex21a 1 0 accArr) = .agg #[.int .u8 2, .int .i64 12, .int .u64 0, .int .u64 0, .int .u64 0, .int .u64 0, .int .u64 0, .int .u64 1, .int .u64 0, .int .u64 0] by kernel_rfl, show mkE ex21a 1 0 = 0 by kernel_rfl]) (sgArrive_slots ex21a 1 0 w (fun h => absurd h (by decide)) ex21a_s)

theorem n21b (w : World) : Calls Try.prog 14 #[.agg #[.int .u8 3, .int .i64 2, .int .i64 3, .int .u8 2, .int .i64 2, .int .i64 0, .int .i64 4, .int .i64 0, .int .i64 2, .int .i64 0, .int .u64 131072, .int .u64 9], .int .i64 1, .int .i64 2] w fun e w' => e = .returned (.tuple #[.agg #[.int .u8 4, .int .i64 11, .int .u64 0, .int .u64 0, .int .u64 0, .int .u64 0, .int .u64 0, .int .u64 1, .int .u64 0, .int .u64 0], .int .i64 0]) ∧ Below w.heap.size w w' := calls_same (by rw [show accV (stA ex21b (sideK 1) 1 2) = .agg #[.int .u8 4, .int .i64 11, .int .u64 0, .int .u64 0, .int .u64 0, .int .u64 0, .int .u64 0, .int .u64 1, .int .u64 0, .int .u64 0] by kernel_rfl, show stE ex21b 1 2 = 0 by kernel_rfl]) (sgArrive_strs ex21b 1 2 w (fun h => absurd h (by decide)) ex21b_s)

theorem n21c (w : World) : Calls Try.prog 22 #[.agg #[.int .u8 3, .int .i64 2, .int .i64 3, .int .u8 1, .int .i64 0, .int .i64 0, .int .i64 4, .int .i64 0, .int .i64 2, .int .i64 0, .int .u64 131072, .int .u64 0], .int .i64 1, .agg #[.int .u64 0, .int .i64 2, .int .u64 0]] w fun e w' => e = .returned (.tuple #[.agg #[.int .u8 1, .int .i64 14, .int .u64 0, .int .u64 0, .int .u64 0, .int .u64 0, .int .u64 0, .int .u64 0, .int .u64 0, .int .u64 0], .int .i64 0]) ∧ Below w.heap.size w w' := calls_same (by rw [show accV (mkA ex21a 1 2 accLook) = .agg #[.int .u8 1, .int .i64 14, .int .u64 0, .int .u64 0, .int .u64 0, .int .u64 0, .int .u64 0, .int .u64 0, .int .u64 0, .int .u64 0] by kernel_rfl, show mkE ex21a 1 2 = 0 by kernel_rfl]) (sgLook_slots ex21a 1 0 2 0 w (fun h => absurd h (by decide)) ex21a_s)

theorem n21d (w : World) : Calls Try.prog 22 #[.agg #[.int .u8 3, .int .i64 2, .int .i64 3, .int .u8 2, .int .i64 2, .int .i64 0, .int .i64 4, .int .i64 0, .int .i64 2, .int .i64 0, .int .u64 131072, .int .u64 9], .int .i64 1, .agg #[.int .u64 0, .int .i64 2, .int .u64 0]] w fun e w' => e = .returned (.tuple #[.agg #[.int .u8 1, .int .i64 11, .int .u64 0, .int .u64 0, .int .u64 0, .int .u64 0, .int .u64 0, .int .u64 0, .int .u64 0, .int .u64 0], .int .i64 0]) ∧ Below w.heap.size w w' := calls_same (by rw [show accV (lkA ex21b 1 2) = .agg #[.int .u8 1, .int .i64 11, .int .u64 0, .int .u64 0, .int .u64 0, .int .u64 0, .int .u64 0, .int .u64 0, .int .u64 0, .int .u64 0] by kernel_rfl, show lkE ex21b 1 2 = 0 by kernel_rfl]) (sgLook_strs ex21b 1 0 2 0 w (fun h => absurd h (by decide)) (by decide) ex21b_s)

theorem n21e (w : World) : Calls Try.prog 20 #[.agg #[.int .u8 0, .int .i64 0, .int .i64 0, .int .u8 0, .int .i64 0, .int .i64 0, .int .i64 0, .int .i64 0, .int .i64 0, .int .i64 0, .int .u64 0, .int .u64 0]] w fun e w' => e = .returned (.tuple #[.int .i64 0, .int .i64 40]) ∧ Below w.heap.size w w' := sgMany_no ex21z w ex21z_n

theorem n21f (w : World) : Calls Try.prog 24 #[.agg #[.int .u8 3, .int .i64 2, .int .i64 3, .int .u8 1, .int .i64 0, .int .i64 0, .int .i64 4, .int .i64 0, .int .i64 2, .int .i64 0, .int .u64 131072, .int .u64 0], .agg #[.int .u64 0, .int .i64 3, .int .u64 0], .agg #[.int .u64 0, .int .u64 0, .int .u64 0, .int .u64 0]] w fun e w' => e = .returned (.tuple #[.agg #[.int .u64 0, .int .i64 0, .int .u64 0], .bool false, .int .i64 2]) ∧ Below w.heap.size w w' := sgSeen_slots ex21a 0 3 0 0 0 0 0 0 0 0 false 2 w (by kernel_rfl) ex21a_s

theorem n21g (w : World) : Calls Try.prog 24 #[.agg #[.int .u8 3, .int .i64 2, .int .i64 3, .int .u8 2, .int .i64 2, .int .i64 0, .int .i64 4, .int .i64 0, .int .i64 2, .int .i64 0, .int .u64 131072, .int .u64 9], .agg #[.int .u64 0, .int .i64 3, .int .u64 5], .agg #[.int .u64 0, .int .u64 5, .int .u64 0, .int .u64 0]] w fun e w' => e = .returned (.tuple #[.agg #[.int .u64 0, .int .i64 4, .int .u64 0], .bool true, .int .i64 0]) ∧ Below w.heap.size w w' := sgSeen_strs ex21b 0 3 5 0 5 0 0 0 4 0 true 0 w ⟨by decide, by kernel_rfl⟩ ex21b_s

set_option maxRecDepth 100000 in
set_option maxHeartbeats 6400000 in
theorem names21_any (w : World) : Calls Try.prog 6 #[] w fun e w' => e = .returned (.bool true) ∧ Below w.heap.size w w' := by
  go_enter Try.func6, Try.ntmps6
  go_wp2_with fail
  have HB := Lib.hid (Below.refl w.heap.size w)
  refine (conf21a_any w).mono ?_
  rintro e u1 ⟨rfl, hb⟩
  have HB := Lib.hid (keepB hb HB.out)
  clear hb
  go_wp2_with fail
  refine (n21a u1).mono ?_
  rintro e u2 ⟨rfl, hb⟩
  have HB := Lib.hid (keepB hb HB.out)
  clear hb
  go_wp2_with fail
  have HA' := Box.new u2 39 [.int .u8 2, .int .i64 12, .int .u64 0, .int .u64 0, .int .u64 0, .int .u64 0, .int .u64 0, .int .u64 1, .int .u64 0, .int .u64 0]
  have HB := Lib.hid (moreB HB.out (.cells ⟨[.int .u8 2, .int .i64 12, .int .u64 0, .int .u64 0, .int .u64 0, .int .u64 0, .int .u64 0, .int .u64 1, .int .u64 0, .int .u64 0]⟩ 39))
  generalize u2.alloc _ = v2 at *
  have HA := Lib.hid HA'
  clear HA'
  refine (conf21b_any v2).mono ?_
  rintro e u3 ⟨rfl, hb⟩
  have HA := Lib.hid (HA.out.below hb)
  have HB := Lib.hid (keepB hb HB.out)
  clear hb
  go_wp2_with fail
  refine (n21b u3).mono ?_
  rintro e u4 ⟨rfl, hb⟩
  have HA := Lib.hid (HA.out.below hb)
  have HB := Lib.hid (keepB hb HB.out)
  clear hb
  go_wp2_with fail
  have HC' := Box.new u4 39 [.int .u8 4, .int .i64 11, .int .u64 0, .int .u64 0, .int .u64 0, .int .u64 0, .int .u64 0, .int .u64 1, .int .u64 0, .int .u64 0]
  have HA := Lib.hid (HA.out.alloc (.cells ⟨[.int .u8 4, .int .i64 11, .int .u64 0, .int .u64 0, .int .u64 0, .int .u64 0, .int .u64 0, .int .u64 1, .int .u64 0, .int .u64 0]⟩ 39))
  have HB := Lib.hid (moreB HB.out (.cells ⟨[.int .u8 4, .int .i64 11, .int .u64 0, .int .u64 0, .int .u64 0, .int .u64 0, .int .u64 0, .int .u64 1, .int .u64 0, .int .u64 0]⟩ 39))
  generalize u4.alloc _ = v4 at *
  have HC := Lib.hid HC'
  clear HC'
  refine (conf21a_any v4).mono ?_
  rintro e u5 ⟨rfl, hb⟩
  have HA := Lib.hid (HA.out.below hb)
  have HC := Lib.hid (HC.out.below hb)
  have HB := Lib.hid (keepB hb HB.out)
  clear hb
  go_wp2_with fail
  refine (n21c u5).mono ?_
  rintro e u6 ⟨rfl, hb⟩
  have HA := Lib.hid (HA.out.below hb)
  have HC := Lib.hid (HC.out.below hb)
  have HB := Lib.hid (keepB hb HB.out)
  clear hb
  go_wp2_with fail
  have HD' := Box.new u6 39 [.int .u8 1, .int .i64 14, .int .u64 0, .int .u64 0, .int .u64 0, .int .u64 0, .int .u64 0, .int .u64 0, .int .u64 0, .int .u64 0]
  have HA := Lib.hid (HA.out.alloc (.cells ⟨[.int .u8 1, .int .i64 14, .int .u64 0, .int .u64 0, .int .u64 0, .int .u64 0, .int .u64 0, .int .u64 0, .int .u64 0, .int .u64 0]⟩ 39))
  have HC := Lib.hid (HC.out.alloc (.cells ⟨[.int .u8 1, .int .i64 14, .int .u64 0, .int .u64 0, .int .u64 0, .int .u64 0, .int .u64 0, .int .u64 0, .int .u64 0, .int .u64 0]⟩ 39))
  have HB := Lib.hid (moreB HB.out (.cells ⟨[.int .u8 1, .int .i64 14, .int .u64 0, .int .u64 0, .int .u64 0, .int .u64 0, .int .u64 0, .int .u64 0, .int .u64 0, .int .u64 0]⟩ 39))
  generalize u6.alloc _ = v6 at *
  have HD := Lib.hid HD'
  clear HD'
  refine (conf21b_any v6).mono ?_
  rintro e u7 ⟨rfl, hb⟩
  have HA := Lib.hid (HA.out.below hb)
  have HC := Lib.hid (HC.out.below hb)
  have HD := Lib.hid (HD.out.below hb)
  have HB := Lib.hid (keepB hb HB.out)
  clear hb
  go_wp2_with fail
  refine (n21d u7).mono ?_
  rintro e u8 ⟨rfl, hb⟩
  have HA := Lib.hid (HA.out.below hb)
  have HC := Lib.hid (HC.out.below hb)
  have HD := Lib.hid (HD.out.below hb)
  have HB := Lib.hid (keepB hb HB.out)
  clear hb
  go_wp2_with fail
  have HE' := Box.new u8 39 [.int .u8 1, .int .i64 11, .int .u64 0, .int .u64 0, .int .u64 0, .int .u64 0, .int .u64 0, .int .u64 0, .int .u64 0, .int .u64 0]
  have HA := Lib.hid (HA.out.alloc (.cells ⟨[.int .u8 1, .int .i64 11, .int .u64 0, .int .u64 0, .int .u64 0, .int .u64 0, .int .u64 0, .int .u64 0, .int .u64 0, .int .u64 0]⟩ 39))
  have HC := Lib.hid (HC.out.alloc (.cells ⟨[.int .u8 1, .int .i64 11, .int .u64 0, .int .u64 0, .int .u64 0, .int .u64 0, .int .u64 0, .int .u64 0, .int .u64 0, .int .u64 0]⟩ 39))
  have HD := Lib.hid (HD.out.alloc (.cells ⟨[.int .u8 1, .int .i64 11, .int .u64 0, .int .u64 0, .int .u64 0, .int .u64 0, .int .u64 0, .int .u64 0, .int .u64 0, .int .u64 0]⟩ 39))
  have HB := Lib.hid (moreB HB.out (.cells ⟨[.int .u8 1, .int .i64 11, .int .u64 0, .int .u64 0, .int .u64 0, .int .u64 0, .int .u64 0, .int .u64 0, .int .u64 0, .int .u64 0]⟩ 39))
  generalize u8.alloc _ = v8 at *
  have HE := Lib.hid HE'
  clear HE'
  refine (n21e v8).mono ?_
  rintro e u9 ⟨rfl, hb⟩
  have HA := Lib.hid (HA.out.below hb)
  have HC := Lib.hid (HC.out.below hb)
  have HD := Lib.hid (HD.out.below hb)
  have HE := Lib.hid (HE.out.below hb)
  have HB := Lib.hid (keepB hb HB.out)
  clear hb
  go_wp2_with fail
  refine (conf21a_any u9).mono ?_
  rintro e u10 ⟨rfl, hb⟩
  have HA := Lib.hid (HA.out.below hb)
  have HC := Lib.hid (HC.out.below hb)
  have HD := Lib.hid (HD.out.below hb)
  have HE := Lib.hid (HE.out.below hb)
  have HB := Lib.hid (keepB hb HB.out)
  clear hb
  go_wp2_with fail
  refine (n21f u10).mono ?_
  rintro e u11 ⟨rfl, hb⟩
  have HA := Lib.hid (HA.out.below hb)
  have HC := Lib.hid (HC.out.below hb)
  have HD := Lib.hid (HD.out.below hb)
  have HE := Lib.hid (HE.out.below hb)
  have HB := Lib.hid (keepB hb HB.out)
  clear hb
  go_wp2_with fail
  have HA := Lib.hid (HA.out.alloc (.cells ⟨[.int .u64 0, .int .i64 0, .int .u64 0]⟩ 54))
  have HC := Lib.hid (HC.out.alloc (.cells ⟨[.int .u64 0, .int .i64 0, .int .u64 0]⟩ 54))
  have HD := Lib.hid (HD.out.alloc (.cells ⟨[.int .u64 0, .int .i64 0, .int .u64 0]⟩ 54))
  have HE := Lib.hid (HE.out.alloc (.cells ⟨[.int .u64 0, .int .i64 0, .int .u64 0]⟩ 54))
  have HB := Lib.hid (moreB HB.out (.cells ⟨[.int .u64 0, .int .i64 0, .int .u64 0]⟩ 54))
  generalize u11.alloc _ = v11 at *
  refine (conf21b_any v11).mono ?_
  rintro e u12 ⟨rfl, hb⟩
  have HA := Lib.hid (HA.out.below hb)
  have HC := Lib.hid (HC.out.below hb)
  have HD := Lib.hid (HD.out.below hb)
  have HE := Lib.hid (HE.out.below hb)
  have HB := Lib.hid (keepB hb HB.out)
  clear hb
  go_wp2_with fail
  refine (n21g u12).mono ?_
  rintro e u13 ⟨rfl, hb⟩
  have HA := Lib.hid (HA.out.below hb)
  have HC := Lib.hid (HC.out.below hb)
  have HD := Lib.hid (HD.out.below hb)
  have HE := Lib.hid (HE.out.below hb)
  have HB := Lib.hid (keepB hb HB.out)
  clear hb
  go_wp2_with fail
  have HL' := Box.new u13 54 [.int .u64 0, .int .i64 4, .int .u64 0]
  have HA := Lib.hid (HA.out.alloc (.cells ⟨[.int .u64 0, .int .i64 4, .int .u64 0]⟩ 54))
  have HC := Lib.hid (HC.out.alloc (.cells ⟨[.int .u64 0, .int .i64 4, .int .u64 0]⟩ 54))
  have HD := Lib.hid (HD.out.alloc (.cells ⟨[.int .u64 0, .int .i64 4, .int .u64 0]⟩ 54))
  have HE := Lib.hid (HE.out.alloc (.cells ⟨[.int .u64 0, .int .i64 4, .int .u64 0]⟩ 54))
  have HB := Lib.hid (moreB HB.out (.cells ⟨[.int .u64 0, .int .i64 4, .int .u64 0]⟩ 54))
  generalize u13.alloc _ = v13 at *
  have HL := Lib.hid HL'
  clear HL'
  refine (alive21_any v13).mono ?_
  rintro e u14 ⟨rfl, hb⟩
  have HA := Lib.hid (HA.out.below hb)
  have HC := Lib.hid (HC.out.below hb)
  have HD := Lib.hid (HD.out.below hb)
  have HE := Lib.hid (HE.out.below hb)
  have HL := Lib.hid (HL.out.below hb)
  have HB := Lib.hid (keepB hb HB.out)
  clear hb
  have ha_0 := HA.out.c 0 rfl
  have ha_1 := HA.out.c 1 rfl
  have ha_2 := HA.out.c 2 rfl
  have ha_3 := HA.out.c 3 rfl
  have ha_4 := HA.out.c 4 rfl
  have ha_5 := HA.out.c 5 rfl
  have ha_6 := HA.out.c 6 rfl
  have ha_7 := HA.out.c 7 rfl
  have ha_8 := HA.out.c 8 rfl
  have ha_9 := HA.out.c 9 rfl
  have hc_0 := HC.out.c 0 rfl
  have hc_1 := HC.out.c 1 rfl
  have hc_2 := HC.out.c 2 rfl
  have hc_3 := HC.out.c 3 rfl
  have hc_4 := HC.out.c 4 rfl
  have hc_5 := HC.out.c 5 rfl
  have hc_6 := HC.out.c 6 rfl
  have hc_7 := HC.out.c 7 rfl
  have hc_8 := HC.out.c 8 rfl
  have hc_9 := HC.out.c 9 rfl
  have hd_0 := HD.out.c 0 rfl
  have hd_1 := HD.out.c 1 rfl
  have hd_2 := HD.out.c 2 rfl
  have hd_3 := HD.out.c 3 rfl
  have hd_4 := HD.out.c 4 rfl
  have hd_5 := HD.out.c 5 rfl
  have hd_6 := HD.out.c 6 rfl
  have hd_7 := HD.out.c 7 rfl
  have hd_8 := HD.out.c 8 rfl
  have hd_9 := HD.out.c 9 rfl
  have he_0 := HE.out.c 0 rfl
  have he_1 := HE.out.c 1 rfl
  have he_2 := HE.out.c 2 rfl
  have he_3 := HE.out.c 3 rfl
  have he_4 := HE.out.c 4 rfl
  have he_5 := HE.out.c 5 rfl
  have he_6 := HE.out.c 6 rfl
  have he_7 := HE.out.c 7 rfl
  have he_8 := HE.out.c 8 rfl
  have he_9 := HE.out.c 9 rfl
  have hl_0 := HL.out.c 0 rfl
  have hl_1 := HL.out.c 1 rfl
  have hl_2 := HL.out.c 2 rfl
  go_wp2_with fail
  go_ret
  exact ⟨rfl, HB.out⟩

theorem walk_SignNames (w : World) : Calls Try.prog 6 #[] w fun e w' => e = .returned (.bool true) ∧ Below w.heap.size w w' := names21_any w

end Go.Proofs.Ytecjbgddjejjdaa
