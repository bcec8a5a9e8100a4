/- Chapter 19: the examples (alive), and the walk of MarkNames. -/
import Derived.Test.YtdabhkbmdmlgcaaDoorMarkE
namespace Go.Proofs.YtdabhkbmdmlgcaaDoor
open Go.RowKit

def ex19 : Cfg := ⟨3, 2, 3, 1, 0, 0, 4, 0, 2, 0, 131072, 0⟩
def ex19b : Cfg := ⟨3, 2, 3, 2, 1, 0, 4, 0, 2, 0, 131072, 1⟩
set_option maxRecDepth 100000 in
theorem conf19_any (w : World) : Calls Tryd.prog 22 #[] w fun e w' => e = .returned (.agg #[.int .u8 3, .int .i64 2, .int .i64 3, .int .u8 1, .int .i64 0, .int .i64 0, .int .i64 4, .int .i64 0, .int .i64 2, .int .i64 0, .int .u64 131072, .int .u64 0]) ∧ Below w.heap.size w w' := by
  go_enter Tryd.func22, Tryd.ntmps22
  go_wp2_with fail
  exact bodyPost_ret (v := .agg #[.int .u8 3, .int .i64 2, .int .i64 3, .int .u8 1, .int .i64 0, .int .i64 0, .int .i64 4, .int .i64 0, .int .i64 2, .int .i64 0, .int .u64 131072, .int .u64 0]) ((Box.new w 24 [.int .u8 3, .int .i64 2, .int .i64 3, .int .u8 1, .int .i64 0, .int .i64 0, .int .i64 4, .int .i64 0, .int .i64 2, .int .i64 0, .int .u64 131072, .int .u64 0]).results rfl (fun _ => by kernel_rfl) (fun _ => by kernel_rfl) rfl) rfl ⟨rfl, newB w _⟩

theorem e19_1 : accV (mkA ex19 1 0 accArr) = .agg #[.int .u8 2, .int .i64 12, .int .u64 0, .int .u64 0, .int .u64 0, .int .u64 0, .int .u64 0, .int .u64 1, .int .u64 0, .int .u64 0] := by kernel_rfl
theorem e19_1e : mkE ex19 1 0 = 0 := by kernel_rfl
theorem e19_2 : accV (mkA ex19 1 2 accLook) = .agg #[.int .u8 1, .int .i64 14, .int .u64 0, .int .u64 0, .int .u64 0, .int .u64 0, .int .u64 0, .int .u64 0, .int .u64 0, .int .u64 0] := by kernel_rfl
theorem e19_2e : mkE ex19 1 2 = 0 := by kernel_rfl
theorem e19_3 : seenR ex19 0 2 0 = .tuple #[.agg #[.int .u64 0, .int .i64 3, .int .u64 0], .bool true, .int .i64 0] := by kernel_rfl
theorem e19_4 : seenR ex19 0 1 1 = .tuple #[.agg #[.int .u64 0, .int .i64 1, .int .u64 0], .bool false, .int .i64 0] := by kernel_rfl
theorem e19_5 : mkE ex19b 0 0 = 40 := by kernel_rfl
theorem e19_5a : accV (mkA ex19b 0 0 accArr) = .agg #[.int .u8 0, .int .i64 0, .int .u64 0, .int .u64 0, .int .u64 0, .int .u64 0, .int .u64 0, .int .u64 0, .int .u64 0, .int .u64 0] := by kernel_rfl
theorem e19_6 : mkE ex19 2 0 = 2 := by kernel_rfl
theorem e19_6a : accV (mkA ex19 2 0 accArr) = .agg #[.int .u8 0, .int .i64 0, .int .u64 0, .int .u64 0, .int .u64 0, .int .u64 0, .int .u64 0, .int .u64 0, .int .u64 0, .int .u64 0] := by kernel_rfl
theorem e19_7 : mkE ex19 0 3 = 2 := by kernel_rfl
theorem e19_7a : accV (mkA ex19 0 3 accDep) = .agg #[.int .u8 0, .int .i64 0, .int .u64 0, .int .u64 0, .int .u64 0, .int .u64 0, .int .u64 0, .int .u64 0, .int .u64 0, .int .u64 0] := by kernel_rfl
theorem e19_8a : accV (mkA ex19 0 3 accLook) = .agg #[.int .u8 0, .int .i64 0, .int .u64 0, .int .u64 0, .int .u64 0, .int .u64 0, .int .u64 0, .int .u64 0, .int .u64 0, .int .u64 0] := by kernel_rfl
theorem e19_9 : seenR ex19 0 (-1) 0 = .tuple #[.agg #[.int .u64 0, .int .i64 0, .int .u64 0], .bool false, .int .i64 2] := by kernel_rfl
theorem e19_10 : mkE ex19 0 2 = 0 := by kernel_rfl
theorem e19_10a : accV (mkA ex19 0 2 accDep) = .agg #[.int .u8 2, .int .i64 11, .int .u64 0, .int .u64 0, .int .u64 0, .int .u64 0, .int .u64 0, .int .u64 0, .int .u64 0, .int .u64 0] := by kernel_rfl
theorem e19_11 : seenR ex19 7 0 0 = .tuple #[.agg #[.int .u64 7, .int .i64 1, .int .u64 0], .bool false, .int .i64 0] := by kernel_rfl

set_option maxRecDepth 100000 in
set_option maxHeartbeats 6400000 in
theorem alive19_any (w : World) (hp : Pw w) : Calls Tryd.prog 23 #[] w fun e w' => e = .returned (.bool true) ∧ Below w.heap.size w w' := by
  have HP := Lib.hid hp
  clear hp
  go_enter Tryd.func23, Tryd.ntmps23
  go_wp2_with fail
  have HB := Lib.hid (Below.refl w.heap.size w)
  refine (conf19_any w).mono ?_
  rintro e u1 ⟨rfl, hb⟩
  have HB := Lib.hid (keepB hb HB.out)
  clear hb
  go_wp2_with fail
  refine (mArrive_any ex19 1 0 u1 (HP.out.more HB.out)).mono ?_
  rintro e u2 ⟨rfl, hb⟩
  rw [e19_1, e19_1e]
  have HB := Lib.hid (keepB hb HB.out)
  clear hb
  go_wp2_with fail
  have HA' := Box.new u2 28 [.int .u8 2, .int .i64 12, .int .u64 0, .int .u64 0, .int .u64 0, .int .u64 0, .int .u64 0, .int .u64 1, .int .u64 0, .int .u64 0]
  have HB := Lib.hid (moreB HB.out (.cells ⟨[.int .u8 2, .int .i64 12, .int .u64 0, .int .u64 0, .int .u64 0, .int .u64 0, .int .u64 0, .int .u64 1, .int .u64 0, .int .u64 0]⟩ 28))
  generalize u2.alloc _ = v2 at *
  have HA := Lib.hid HA'
  clear HA'
  refine (conf19_any v2).mono ?_
  rintro e u3 ⟨rfl, hb⟩
  have HA := Lib.hid (HA.out.below hb)
  have HB := Lib.hid (keepB hb HB.out)
  clear hb
  go_wp2_with fail
  refine (mLook_any ex19 1 0 2 0 u3 (HP.out.more HB.out)).mono ?_
  rintro e u4 ⟨rfl, hb⟩
  rw [e19_2, e19_2e]
  have HA := Lib.hid (HA.out.below hb)
  have HB := Lib.hid (keepB hb HB.out)
  clear hb
  go_wp2_with fail
  have HC' := Box.new u4 28 [.int .u8 1, .int .i64 14, .int .u64 0, .int .u64 0, .int .u64 0, .int .u64 0, .int .u64 0, .int .u64 0, .int .u64 0, .int .u64 0]
  have HA := Lib.hid (HA.out.alloc (.cells ⟨[.int .u8 1, .int .i64 14, .int .u64 0, .int .u64 0, .int .u64 0, .int .u64 0, .int .u64 0, .int .u64 0, .int .u64 0, .int .u64 0]⟩ 28))
  have HB := Lib.hid (moreB HB.out (.cells ⟨[.int .u8 1, .int .i64 14, .int .u64 0, .int .u64 0, .int .u64 0, .int .u64 0, .int .u64 0, .int .u64 0, .int .u64 0, .int .u64 0]⟩ 28))
  generalize u4.alloc _ = v4 at *
  have HC := Lib.hid HC'
  clear HC'
  refine (conf19_any v4).mono ?_
  rintro e u5 ⟨rfl, hb⟩
  have HA := Lib.hid (HA.out.below hb)
  have HC := Lib.hid (HC.out.below hb)
  have HB := Lib.hid (keepB hb HB.out)
  clear hb
  go_wp2_with fail
  refine (mSeen_any ex19 0 2 0 0 0 0 0 u5).mono ?_
  rintro e u6 ⟨rfl, hb⟩
  rw [e19_3]
  have HA := Lib.hid (HA.out.below hb)
  have HC := Lib.hid (HC.out.below hb)
  have HB := Lib.hid (keepB hb HB.out)
  clear hb
  go_wp2_with fail
  have HD' := Box.new u6 36 [.int .u64 0, .int .i64 3, .int .u64 0]
  have HA := Lib.hid (HA.out.alloc (.cells ⟨[.int .u64 0, .int .i64 3, .int .u64 0]⟩ 36))
  have HC := Lib.hid (HC.out.alloc (.cells ⟨[.int .u64 0, .int .i64 3, .int .u64 0]⟩ 36))
  have HB := Lib.hid (moreB HB.out (.cells ⟨[.int .u64 0, .int .i64 3, .int .u64 0]⟩ 36))
  generalize u6.alloc _ = v6 at *
  have HD := Lib.hid HD'
  clear HD'
  refine (conf19_any v6).mono ?_
  rintro e u7 ⟨rfl, hb⟩
  have HA := Lib.hid (HA.out.below hb)
  have HC := Lib.hid (HC.out.below hb)
  have HD := Lib.hid (HD.out.below hb)
  have HB := Lib.hid (keepB hb HB.out)
  clear hb
  go_wp2_with fail
  refine (mSeen_any ex19 0 1 0 0 1 0 0 u7).mono ?_
  rintro e u8 ⟨rfl, hb⟩
  rw [e19_4]
  have HA := Lib.hid (HA.out.below hb)
  have HC := Lib.hid (HC.out.below hb)
  have HD := Lib.hid (HD.out.below hb)
  have HB := Lib.hid (keepB hb HB.out)
  clear hb
  have ha_0 := fun o => (HA.out.alloc o).c 0 rfl
  have ha_1 := fun o => (HA.out.alloc o).c 1 rfl
  have ha_2 := fun o => (HA.out.alloc o).c 2 rfl
  have ha_3 := fun o => (HA.out.alloc o).c 3 rfl
  have ha_4 := fun o => (HA.out.alloc o).c 4 rfl
  have ha_5 := fun o => (HA.out.alloc o).c 5 rfl
  have ha_6 := fun o => (HA.out.alloc o).c 6 rfl
  have ha_7 := fun o => (HA.out.alloc o).c 7 rfl
  have ha_8 := fun o => (HA.out.alloc o).c 8 rfl
  have ha_9 := fun o => (HA.out.alloc o).c 9 rfl
  have hc_0 := fun o => (HC.out.alloc o).c 0 rfl
  have hc_1 := fun o => (HC.out.alloc o).c 1 rfl
  have hc_2 := fun o => (HC.out.alloc o).c 2 rfl
  have hc_3 := fun o => (HC.out.alloc o).c 3 rfl
  have hc_4 := fun o => (HC.out.alloc o).c 4 rfl
  have hc_5 := fun o => (HC.out.alloc o).c 5 rfl
  have hc_6 := fun o => (HC.out.alloc o).c 6 rfl
  have hc_7 := fun o => (HC.out.alloc o).c 7 rfl
  have hc_8 := fun o => (HC.out.alloc o).c 8 rfl
  have hc_9 := fun o => (HC.out.alloc o).c 9 rfl
  have hd_0 := fun o => (HD.out.alloc o).c 0 rfl
  have hd_1 := fun o => (HD.out.alloc o).c 1 rfl
  have hd_2 := fun o => (HD.out.alloc o).c 2 rfl
  go_wp2_with fail
  go_ret
  exact ⟨rfl, (moreB HB.out _)⟩

set_option maxRecDepth 100000 in
set_option maxHeartbeats 6400000 in
theorem names19_any (w : World) (hp : Pw w) : Calls Tryd.prog 5 #[] w fun e w' => e = .returned (.bool true) ∧ Below w.heap.size w w' := by
  have HP := Lib.hid hp
  clear hp
  go_enter Tryd.func5, Tryd.ntmps5
  go_wp2_with fail
  have HB := Lib.hid (Below.refl w.heap.size w)
  refine (conf19_any w).mono ?_
  rintro e u0 ⟨rfl, hb⟩
  have HB := Lib.hid (keepB hb HB.out)
  clear hb
  go_wp2_with fail
  have HB := Lib.hid (moreB HB.out (.cells ⟨[.int .u8 3, .int .i64 2, .int .i64 3, .int .u8 2, .int .i64 1, .int .i64 0, .int .i64 4, .int .i64 0, .int .i64 2, .int .i64 0, .int .u64 131072, .int .u64 1]⟩ 24))
  generalize u0.alloc _ = v0 at *
  refine (mArrive_any ex19b 0 0 v0 (HP.out.more HB.out)).mono ?_
  rintro e u2 ⟨rfl, hb⟩
  rw [e19_5a, e19_5]
  have HB := Lib.hid (keepB hb HB.out)
  clear hb
  go_wp2_with fail
  have HB := Lib.hid (moreB HB.out (.cells ⟨[.int .u8 0, .int .i64 0, .int .u64 0, .int .u64 0, .int .u64 0, .int .u64 0, .int .u64 0, .int .u64 0, .int .u64 0, .int .u64 0]⟩ 28))
  generalize u2.alloc _ = v2 at *
  refine (conf19_any v2).mono ?_
  rintro e u3 ⟨rfl, hb⟩
  have HB := Lib.hid (keepB hb HB.out)
  clear hb
  go_wp2_with fail
  refine (mArrive_any ex19 2 0 u3 (HP.out.more HB.out)).mono ?_
  rintro e u4 ⟨rfl, hb⟩
  rw [e19_6a, e19_6]
  have HB := Lib.hid (keepB hb HB.out)
  clear hb
  go_wp2_with fail
  have HB := Lib.hid (moreB HB.out (.cells ⟨[.int .u8 0, .int .i64 0, .int .u64 0, .int .u64 0, .int .u64 0, .int .u64 0, .int .u64 0, .int .u64 0, .int .u64 0, .int .u64 0]⟩ 28))
  generalize u4.alloc _ = v4 at *
  refine (conf19_any v4).mono ?_
  rintro e u5 ⟨rfl, hb⟩
  have HB := Lib.hid (keepB hb HB.out)
  clear hb
  go_wp2_with fail
  refine (mDepart_any ex19 0 3 u5 (HP.out.more HB.out)).mono ?_
  rintro e u6 ⟨rfl, hb⟩
  rw [e19_7a, e19_7]
  have HB := Lib.hid (keepB hb HB.out)
  clear hb
  go_wp2_with fail
  have HB := Lib.hid (moreB HB.out (.cells ⟨[.int .u8 0, .int .i64 0, .int .u64 0, .int .u64 0, .int .u64 0, .int .u64 0, .int .u64 0, .int .u64 0, .int .u64 0, .int .u64 0]⟩ 28))
  generalize u6.alloc _ = v6 at *
  refine (conf19_any v6).mono ?_
  rintro e u7 ⟨rfl, hb⟩
  have HB := Lib.hid (keepB hb HB.out)
  clear hb
  go_wp2_with fail
  refine (mLook_any ex19 0 0 3 0 u7 (HP.out.more HB.out)).mono ?_
  rintro e u8 ⟨rfl, hb⟩
  rw [e19_8a, e19_7]
  have HB := Lib.hid (keepB hb HB.out)
  clear hb
  go_wp2_with fail
  have HB := Lib.hid (moreB HB.out (.cells ⟨[.int .u8 0, .int .i64 0, .int .u64 0, .int .u64 0, .int .u64 0, .int .u64 0, .int .u64 0, .int .u64 0, .int .u64 0, .int .u64 0]⟩ 28))
  generalize u8.alloc _ = v8 at *
  refine (conf19_any v8).mono ?_
  rintro e u9 ⟨rfl, hb⟩
  have HB := Lib.hid (keepB hb HB.out)
  clear hb
  go_wp2_with fail
  refine (mSeen_any ex19 0 (-1) 0 0 0 0 0 u9).mono ?_
  rintro e u10 ⟨rfl, hb⟩
  rw [e19_9]
  have HB := Lib.hid (keepB hb HB.out)
  clear hb
  go_wp2_with fail
  have HB := Lib.hid (moreB HB.out (.cells ⟨[.int .u64 0, .int .i64 0, .int .u64 0]⟩ 36))
  generalize u10.alloc _ = v10 at *
  refine (conf19_any v10).mono ?_
  rintro e u11 ⟨rfl, hb⟩
  have HB := Lib.hid (keepB hb HB.out)
  clear hb
  go_wp2_with fail
  refine (mDepart_any ex19 0 2 u11 (HP.out.more HB.out)).mono ?_
  rintro e u12 ⟨rfl, hb⟩
  rw [e19_10a, e19_10]
  have HB := Lib.hid (keepB hb HB.out)
  clear hb
  go_wp2_with fail
  have HA' := Box.new u12 28 [.int .u8 2, .int .i64 11, .int .u64 0, .int .u64 0, .int .u64 0, .int .u64 0, .int .u64 0, .int .u64 0, .int .u64 0, .int .u64 0]
  have HB := Lib.hid (moreB HB.out (.cells ⟨[.int .u8 2, .int .i64 11, .int .u64 0, .int .u64 0, .int .u64 0, .int .u64 0, .int .u64 0, .int .u64 0, .int .u64 0, .int .u64 0]⟩ 28))
  generalize u12.alloc _ = v12 at *
  have HA := Lib.hid HA'
  clear HA'
  refine (conf19_any v12).mono ?_
  rintro e u13 ⟨rfl, hb⟩
  have HA := Lib.hid (HA.out.below hb)
  have HB := Lib.hid (keepB hb HB.out)
  clear hb
  go_wp2_with fail
  refine (mSeen_any ex19 7 0 9 4 0 1 0 u13).mono ?_
  rintro e u14 ⟨rfl, hb⟩
  rw [e19_11]
  have HA := Lib.hid (HA.out.below hb)
  have HB := Lib.hid (keepB hb HB.out)
  clear hb
  go_wp2_with fail
  have HC' := Box.new u14 36 [.int .u64 7, .int .i64 1, .int .u64 0]
  have HA := Lib.hid (HA.out.alloc (.cells ⟨[.int .u64 7, .int .i64 1, .int .u64 0]⟩ 36))
  have HB := Lib.hid (moreB HB.out (.cells ⟨[.int .u64 7, .int .i64 1, .int .u64 0]⟩ 36))
  generalize u14.alloc _ = v14 at *
  have HC := Lib.hid HC'
  clear HC'
  refine (alive19_any v14 (HP.out.more HB.out)).mono ?_
  rintro e u15 ⟨rfl, hb⟩
  have HA := Lib.hid (HA.out.below hb)
  have HC := Lib.hid (HC.out.below hb)
  have HB := Lib.hid (keepB hb HB.out)
  clear hb
  have ha_0 := HA.out.c 0 rfl
  have ha_1 := HA.out.c 1 rfl
  have ha_2 := HA.out.c 2 rfl
  have ha_3 := HA.out.c 3 rfl
  have ha_4 := HA.out.c 4 rfl
  have ha_5 := HA.out.c 5 rfl
  have ha_6 := HA.out.c 6 rfl
  have ha_7 := HA.out.c 7 rfl
  have ha_8 := HA.out.c 8 rfl
  have ha_9 := HA.out.c 9 rfl
  have hc_0 := HC.out.c 0 rfl
  have hc_1 := HC.out.c 1 rfl
  have hc_2 := HC.out.c 2 rfl
  go_wp2_with fail
  go_ret
  exact ⟨rfl, HB.out⟩

theorem walk_MarkNames (w : World) (hp : Pw w) : Calls Tryd.prog 5 #[] w fun e w' => e = .returned (.bool true) ∧ Below w.heap.size w w' := names19_any w hp

end Go.Proofs.YtdabhkbmdmlgcaaDoor
