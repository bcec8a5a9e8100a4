/- The chapter's examples (alive), and the walks of the laws of registers. -/
import Derived.Test.YtnaggpkcaioppaaRegStart
import Derived.Test.YtnaggpkcaioppaaRegRefB
namespace Go.Proofs.Ytnaggpkcaioppaa
open Go.RowKit

theorem moreB {w V : World} (h : Below w.heap.size w V) (o : Obj) : Below w.heap.size w (V.alloc o) := keepB (newB V o) h
theorem laid_ex1 : laidV 9 5 3 0 7 (nine 1 2 1 3 0 0 0 0 0) = .tuple #[.agg #[.int .u64 9, .int .u64 200769, .int .u64 12884901893, .int .u64 30064771072], .int .i64 0] := by
  simp [laidV, fits9, nine, sum9]
theorem laid_ex2 : laidV 0 0 0 0 0 (nine 32 0 0 0 0 0 0 0 0) = .tuple #[.agg #[.int .u64 0, .int .u64 0, .int .u64 0, .int .u64 0], .int .i64 10] := by
  simp [laidV, fits9, nine]

set_option maxHeartbeats 1600000 in
theorem alive_any (w : World) : Calls Try.prog 9 #[] w fun e w' => e = .returned (.bool true) ∧ Below w.heap.size w w' := by
  go_enter Try.func9, Try.ntmps9
  go_wp2_with fail
  refine (Start_any 1 5 3 7 _).mono ?_
  rintro e w1 ⟨rfl, hb1⟩
  rw [show startV 1 5 3 7 = .agg #[.int .u8 1, .int .u32 5, .int .u32 3, .int .u8 0, .int .u8 0, .int .u8 0, .int .u8 0, .int .u8 0, .int .u8 0, .int .u32 0, .int .u32 7] from rfl]
  go_wp2_with fail
  refine (Laid_any 9 1 2 1 5 3 3 0 0 0 0 0 0 7 _ (by omega) (by omega) (by omega) (by omega) (by omega) (by omega) (by omega) (by omega) (by omega) (by omega) (by omega) (by omega) (by omega)).mono ?_
  rintro e w2 ⟨rfl, hb2⟩
  rw [laid_ex1]
  have hf := (((Box.new w1 26 [.int .u8 1, .int .u32 5, .int .u32 3, .int .u8 0, .int .u8 0, .int .u8 0, .int .u8 0, .int .u8 0, .int .u8 0, .int .u32 0, .int .u32 7]).alloc (.cells #[.int .u8 1, .int .u32 5, .int .u32 3, .int .u8 0, .int .u8 0, .int .u8 0, .int .u8 0, .int .u8 0, .int .u8 0, .int .u32 0, .int .u32 7] 26)).alloc (.cells #[.int .u8 1, .int .u32 5, .int .u32 3, .int .u8 3, .int .u8 0, .int .u8 0, .int .u8 0, .int .u8 0, .int .u8 0, .int .u32 0, .int .u32 7] 26)).below hb2
  have hw := ((Box.newAt (w1.alloc (.cells #[.int .u8 1, .int .u32 5, .int .u32 3, .int .u8 0, .int .u8 0, .int .u8 0, .int .u8 0, .int .u8 0, .int .u8 0, .int .u32 0, .int .u32 7] 26)) 26 [.int .u8 1, .int .u32 5, .int .u32 3, .int .u8 0, .int .u8 0, .int .u8 0, .int .u8 0, .int .u8 0, .int .u8 0, .int .u32 0, .int .u32 7] (g := w1.heap.size + 1) (by simp)).alloc (.cells #[.int .u8 1, .int .u32 5, .int .u32 3, .int .u8 3, .int .u8 0, .int .u8 0, .int .u8 0, .int .u8 0, .int .u8 0, .int .u32 0, .int .u32 7] 26)).below hb2
  have HB2 := Lib.hid (keepB hb2 (moreB (moreB (moreB hb1 _) _) _))
  have HF := Lib.hid hf; have HW := Lib.hid hw
  clear hf hw hb1 hb2
  go_wp2_with fail
  refine (Laid_any 0 32 0 0 0 0 0 0 0 0 0 0 0 0 _ (by omega) (by omega) (by omega) (by omega) (by omega) (by omega) (by omega) (by omega) (by omega) (by omega) (by omega) (by omega) (by omega)).mono ?_
  rintro e w3 ⟨rfl, hb3⟩
  rw [laid_ex2]
  have hf := (HF.out.alloc _).below hb3
  have hw := (HW.out.alloc _).below hb3
  have hl := (Box.new w2 34 [.int .u64 9, .int .u64 200769, .int .u64 12884901893, .int .u64 30064771072]).below hb3
  have HB3 := Lib.hid (keepB hb3 (keepB (newB _ _) HB2.out))
  have f0 := fun o => (hf.alloc o).c 0 rfl
  have f1 := fun o => (hf.alloc o).c 1 rfl
  have f2 := fun o => (hf.alloc o).c 2 rfl
  have f3 := fun o => (hf.alloc o).c 3 rfl
  have f4 := fun o => (hf.alloc o).c 4 rfl
  have f5 := fun o => (hf.alloc o).c 5 rfl
  have f6 := fun o => (hf.alloc o).c 6 rfl
  have f7 := fun o => (hf.alloc o).c 7 rfl
  have f8 := fun o => (hf.alloc o).c 8 rfl
  have f9 := fun o => (hf.alloc o).c 9 rfl
  have f10 := fun o => (hf.alloc o).c 10 rfl
  have w0 := fun o => (hw.alloc o).c 0 rfl
  have w1 := fun o => (hw.alloc o).c 1 rfl
  have w2 := fun o => (hw.alloc o).c 2 rfl
  have w3 := fun o => (hw.alloc o).c 3 rfl
  have w4 := fun o => (hw.alloc o).c 4 rfl
  have w5 := fun o => (hw.alloc o).c 5 rfl
  have w6 := fun o => (hw.alloc o).c 6 rfl
  have w7 := fun o => (hw.alloc o).c 7 rfl
  have w8 := fun o => (hw.alloc o).c 8 rfl
  have w9 := fun o => (hw.alloc o).c 9 rfl
  have w10 := fun o => (hw.alloc o).c 10 rfl
  have l0 := fun o => (hl.alloc o).c 0 rfl
  have l1 := fun o => (hl.alloc o).c 1 rfl
  have l2 := fun o => (hl.alloc o).c 2 rfl
  have l3 := fun o => (hl.alloc o).c 3 rfl
  clear hf hw hl hb3 HF HW HB2
  go_wp2_with fail
  go_ret
  exact ⟨rfl, keepB (newB _ _) HB3.out⟩

end Go.Proofs.Ytnaggpkcaioppaa
