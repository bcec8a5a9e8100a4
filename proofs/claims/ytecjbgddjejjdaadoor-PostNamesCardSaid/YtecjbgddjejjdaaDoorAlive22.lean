/- Chapter 22: the examples (alive). -/
import Derived.Test.YtecjbgddjejjdaaDoorAnn
import Derived.Test.YtecjbgddjejjdaaDoorPostA
namespace Go.Proofs.YtecjbgddjejjdaaDoor
open Go.RowKit

def ex22 : Cfg := ⟨3, 2, 3, 1, 0, 0, 4, 0, 2, 0, 131072, 0⟩
def ex22z : Cfg := ⟨0, 0, 0, 0, 0, 0, 0, 0, 0, 0, 0, 0⟩

set_option maxRecDepth 100000 in
theorem conf22_any (w : World) : Calls Tryd.prog 11 #[] w fun e w' => e = .returned (.agg #[.int .u8 3, .int .i64 2, .int .i64 3, .int .u8 1, .int .i64 0, .int .i64 0, .int .i64 4, .int .i64 0, .int .i64 2, .int .i64 0, .int .u64 131072, .int .u64 0]) ∧ Below w.heap.size w w' := by
  go_enter Tryd.func11, Tryd.ntmps11
  go_wp2_with fail
  exact bodyPost_ret (v := .agg #[.int .u8 3, .int .i64 2, .int .i64 3, .int .u8 1, .int .i64 0, .int .i64 0, .int .i64 4, .int .i64 0, .int .i64 2, .int .i64 0, .int .u64 131072, .int .u64 0]) ((Box.new w 24 [.int .u8 3, .int .i64 2, .int .i64 3, .int .u8 1, .int .i64 0, .int .i64 0, .int .i64 4, .int .i64 0, .int .i64 2, .int .i64 0, .int .u64 131072, .int .u64 0]).results rfl (fun _ => by kernel_rfl) (fun _ => by kernel_rfl) rfl) rfl ⟨rfl, newB w _⟩

theorem e22_1 : accV (annA ex22 1 2 9 1 7 2) = .agg #[.int .u8 2, .int .i64 4, .int .u64 0, .int .u64 0, .int .u64 0, .int .u64 0, .int .u64 2, .int .u64 265, .int .u64 7, .int .u64 2] := by kernel_rfl
theorem e22_1e : annE ex22 1 2 9 1 7 2 = 0 := by kernel_rfl
theorem e22_2 : tellV 2 5 0 1 = .agg #[.int .u64 2, .int .u64 0, .int .u64 1, .int .u64 5] := by kernel_rfl
theorem e22_3 : toldV 2 2 0 1 5 = .tuple #[.agg #[.int .i64 0, .int .u32 1, .slice none 0 0], .int .u64 5, .bool true] := by kernel_rfl
theorem e22_4 : toldV 3 2 0 1 5 = .tuple #[.agg #[.int .i64 0, .int .u32 0, .slice none 0 0], .int .u64 0, .bool false] := by kernel_rfl
theorem e22_5 : decide ((1 : Nat) < 2) = true := by kernel_rfl
theorem e22_6 : decide ((2 : Nat) < 2) = false := by kernel_rfl
theorem e22_z : accV (annA ex22z 0 1 9 1 7 2) = .agg #[.int .u8 0, .int .i64 0, .int .u64 0, .int .u64 0, .int .u64 0, .int .u64 0, .int .u64 0, .int .u64 0, .int .u64 0, .int .u64 0] := by kernel_rfl
theorem e22_ze : annE ex22z 0 1 9 1 7 2 = 40 := by kernel_rfl
theorem e22_f : accV (annA ex22 3 1 9 1 7 2) = .agg #[.int .u8 0, .int .i64 0, .int .u64 0, .int .u64 0, .int .u64 0, .int .u64 0, .int .u64 0, .int .u64 0, .int .u64 0, .int .u64 0] := by kernel_rfl
theorem e22_fe : annE ex22 3 1 9 1 7 2 = 2 := by kernel_rfl
theorem e22_g : accV (annA ex22 0 0 9 1 7 2) = .agg #[.int .u8 0, .int .i64 0, .int .u64 0, .int .u64 0, .int .u64 0, .int .u64 0, .int .u64 0, .int .u64 0, .int .u64 0, .int .u64 0] := by kernel_rfl
theorem e22_ge : annE ex22 0 0 9 1 7 2 = 2 := by kernel_rfl
theorem e22_h : accV (annA ex22 0 65 9 1 7 2) = .agg #[.int .u8 0, .int .i64 0, .int .u64 0, .int .u64 0, .int .u64 0, .int .u64 0, .int .u64 0, .int .u64 0, .int .u64 0, .int .u64 0] := by kernel_rfl
theorem e22_he : annE ex22 0 65 9 1 7 2 = 2 := by kernel_rfl
theorem e22_i : accV (annA ex22 0 1 11 1 1 0) = .agg #[.int .u8 0, .int .i64 0, .int .u64 0, .int .u64 0, .int .u64 0, .int .u64 0, .int .u64 0, .int .u64 0, .int .u64 0, .int .u64 0] := by kernel_rfl
theorem e22_ie : annE ex22 0 1 11 1 1 0 = 50 := by kernel_rfl
theorem e22_j : accV (annA ex22 0 1 4 0 0 0) = .agg #[.int .u8 0, .int .i64 0, .int .u64 0, .int .u64 0, .int .u64 0, .int .u64 0, .int .u64 0, .int .u64 0, .int .u64 0, .int .u64 0] := by kernel_rfl
theorem e22_je : annE ex22 0 1 4 0 0 0 = 50 := by kernel_rfl
theorem e22_k : accV (annA ex22 0 64 9 0 0 0) = .agg #[.int .u8 0, .int .i64 0, .int .u64 0, .int .u64 0, .int .u64 0, .int .u64 0, .int .u64 0, .int .u64 0, .int .u64 0, .int .u64 0] := by kernel_rfl
theorem e22_ke : annE ex22 0 64 9 0 0 0 = 10 := by kernel_rfl
theorem e22_r : toldV 1 1 65545 4294967299 0 = .tuple #[.agg #[.int .i64 9, .int .u32 3, .slice none 0 0], .int .u64 0, .bool true] := by kernel_rfl

set_option maxRecDepth 100000 in
set_option maxHeartbeats 6400000 in
theorem alive22_any (w : World) (hp : Pw w ∧ Ob w ∧ Wr w) : Calls Tryd.prog 13 #[] w fun e w' => e = .returned (.bool true) ∧ Below w.heap.size w w' := by
  have HP := Lib.hid hp
  clear hp
  go_enter Tryd.func13, Tryd.ntmps13
  go_wp2_with fail
  have HB := Lib.hid (Below.refl w.heap.size w)
  refine (conf22_any w).mono ?_
  rintro e u1 ⟨rfl, hb⟩
  have HB := Lib.hid (keepB hb HB.out)
  clear hb
  go_wp2_with fail
  refine (Ann_any ex22 1 2 9 1 7 2 u1 (by omega) (by omega) (by omega) (by omega) (HP.out.1.more HB.out) (HP.out.2.1.more HB.out) (HP.out.2.2.more HB.out)).mono ?_
  rintro e u2 ⟨rfl, hb⟩
  rw [e22_1, e22_1e]
  have HB := Lib.hid (keepB hb HB.out)
  clear hb
  go_wp2_with fail
  have HA' := Box.new u2 31 [.int .u8 2, .int .i64 4, .int .u64 0, .int .u64 0, .int .u64 0, .int .u64 0, .int .u64 2, .int .u64 265, .int .u64 7, .int .u64 2]
  have HB := Lib.hid (moreB HB.out (.cells ⟨[.int .u8 2, .int .i64 4, .int .u64 0, .int .u64 0, .int .u64 0, .int .u64 0, .int .u64 2, .int .u64 265, .int .u64 7, .int .u64 2]⟩ 31))
  generalize u2.alloc _ = v2 at *
  have HA := Lib.hid HA'
  clear HA'
  refine (Tell_any 2 5 0 1 (.slice none 0 0) v2 (by omega)).mono ?_
  rintro e u3 ⟨rfl, hb⟩
  rw [e22_2]
  have HA := Lib.hid (HA.out.below hb)
  have HB := Lib.hid (keepB hb HB.out)
  clear hb
  go_wp2_with fail
  have HL' := Box.new u3 29 [.int .u64 2, .int .u64 0, .int .u64 1, .int .u64 5]
  have HA := Lib.hid (HA.out.alloc (.cells ⟨[.int .u64 2, .int .u64 0, .int .u64 1, .int .u64 5]⟩ 29))
  have HB := Lib.hid (moreB HB.out (.cells ⟨[.int .u64 2, .int .u64 0, .int .u64 1, .int .u64 5]⟩ 29))
  generalize u3.alloc _ = v3 at *
  have HL := Lib.hid HL'
  clear HL'
  refine (Told_any 2 2 0 1 5 v3).mono ?_
  rintro e u4 ⟨rfl, hb⟩
  rw [e22_3]
  have HA := Lib.hid (HA.out.below hb)
  have HL := Lib.hid (HL.out.below hb)
  have HB := Lib.hid (keepB hb HB.out)
  clear hb
  have hl_0 := fun o => (HL.out.alloc o).c 0 rfl
  have hl_1 := fun o => (HL.out.alloc o).c 1 rfl
  have hl_2 := fun o => (HL.out.alloc o).c 2 rfl
  have hl_3 := fun o => (HL.out.alloc o).c 3 rfl
  go_wp2_with fail
  clear hl_0 hl_1 hl_2 hl_3
  have HR' := Box.new u4 41 [.int .i64 0, .int .u32 1, .slice none 0 0]
  have HA := Lib.hid (HA.out.alloc (.cells ⟨[.int .i64 0, .int .u32 1, .slice none 0 0]⟩ 41))
  have HL := Lib.hid (HL.out.alloc (.cells ⟨[.int .i64 0, .int .u32 1, .slice none 0 0]⟩ 41))
  have HB := Lib.hid (moreB HB.out (.cells ⟨[.int .i64 0, .int .u32 1, .slice none 0 0]⟩ 41))
  generalize u4.alloc _ = v4 at *
  have HR := Lib.hid HR'
  clear HR'
  refine (Told_any 3 2 0 1 5 v4).mono ?_
  rintro e u5 ⟨rfl, hb⟩
  rw [e22_4]
  have HA := Lib.hid (HA.out.below hb)
  have HL := Lib.hid (HL.out.below hb)
  have HR := Lib.hid (HR.out.below hb)
  have HB := Lib.hid (keepB hb HB.out)
  clear hb
  have ha_0 := fun o => (HA.out.alloc o).c 0 rfl
  have ha_1 := fun o => (HA.out.alloc o).c 1 rfl
  have ha_2 := fun o => (HA.out.alloc o).c 2 rfl
  have ha_3 := fun o => (HA.out.alloc o).c 3 rfl
  have ha_4 := fun o => (HA.out.alloc o).c 4 rfl
  have ha_5 := fun o => (HA.out.alloc o).c 5 rfl
  have ha_6 := fun o => (HA.out.alloc o).c 6 rfl
  have ha_7 := fun o => (HA.out.alloc o).c 7 rfl
  have ha_8 := fun o => (HA.out.alloc o).c 8 rfl
  have ha_9 := fun o => (HA.out.alloc o).c 9 rfl
  have hl_0 := fun o => (HL.out.alloc o).c 0 rfl
  have hl_1 := fun o => (HL.out.alloc o).c 1 rfl
  have hl_2 := fun o => (HL.out.alloc o).c 2 rfl
  have hl_3 := fun o => (HL.out.alloc o).c 3 rfl
  have hr_0 := fun o => (HR.out.alloc o).c 0 rfl
  have hr_1 := fun o => (HR.out.alloc o).c 1 rfl
  have hr_2 := fun o => (HR.out.alloc o).c 2 rfl
  go_wp2_with fail
  clear ha_0 ha_1 ha_2 ha_3 ha_4 ha_5 ha_6 ha_7 ha_8 ha_9
  clear hl_0 hl_1 hl_2 hl_3
  clear hr_0 hr_1 hr_2
  have HA := Lib.hid (HA.out.alloc (.cells ⟨[.int .i64 0, .int .u32 0, .slice none 0 0]⟩ 41))
  have HL := Lib.hid (HL.out.alloc (.cells ⟨[.int .i64 0, .int .u32 0, .slice none 0 0]⟩ 41))
  have HR := Lib.hid (HR.out.alloc (.cells ⟨[.int .i64 0, .int .u32 0, .slice none 0 0]⟩ 41))
  have HB := Lib.hid (moreB HB.out (.cells ⟨[.int .i64 0, .int .u32 0, .slice none 0 0]⟩ 41))
  generalize u5.alloc _ = v5 at *
  refine (Pending_any 2 0 0 0 1 0 0 0 v5).mono ?_
  rintro e u6 ⟨rfl, hb⟩
  rw [e22_5]
  have HA := Lib.hid (HA.out.below hb)
  have HL := Lib.hid (HL.out.below hb)
  have HR := Lib.hid (HR.out.below hb)
  have HB := Lib.hid (keepB hb HB.out)
  clear hb
  have hl_0 := HL.out.c 0 rfl
  have hl_1 := HL.out.c 1 rfl
  have hl_2 := HL.out.c 2 rfl
  have hl_3 := HL.out.c 3 rfl
  go_wp2_with fail
  clear hl_0 hl_1 hl_2 hl_3
  refine (Pending_any 2 0 0 0 2 0 1 5 u6).mono ?_
  rintro e u7 ⟨rfl, hb⟩
  rw [e22_6]
  have HA := Lib.hid (HA.out.below hb)
  have HL := Lib.hid (HL.out.below hb)
  have HR := Lib.hid (HR.out.below hb)
  have HB := Lib.hid (keepB hb HB.out)
  clear hb
  have ha_0 := HA.out.c 0 rfl
  have ha_1 := HA.out.c 1 rfl
  have ha_2 := HA.out.c 2 rfl
  have ha_3 := HA.out.c 3 rfl
  have ha_4 := HA.out.c 4 rfl
  have ha_5 := HA.out.c 5 rfl
  have ha_6 := HA.out.c 6 rfl
  have ha_7 := HA.out.c 7 rfl
  have ha_8 := HA.out.c 8 rfl
  have ha_9 := HA.out.c 9 rfl
  have hl_0 := HL.out.c 0 rfl
  have hl_1 := HL.out.c 1 rfl
  have hl_2 := HL.out.c 2 rfl
  have hl_3 := HL.out.c 3 rfl
  have hr_0 := HR.out.c 0 rfl
  have hr_1 := HR.out.c 1 rfl
  have hr_2 := HR.out.c 2 rfl
  go_wp2_with fail
  go_ret
  exact ⟨rfl, HB.out⟩

end Go.Proofs.YtecjbgddjejjdaaDoor
