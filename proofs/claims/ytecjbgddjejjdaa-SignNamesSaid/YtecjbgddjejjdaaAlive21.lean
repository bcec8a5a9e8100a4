/- Chapter 21: the examples (alive). -/
import Derived.Test.YtecjbgddjejjdaaSignC
namespace Go.Proofs.Ytecjbgddjejjdaa
open Go.RowKit

def ex21a : Cfg := ⟨3, 2, 3, 1, 0, 0, 4, 0, 2, 0, 131072, 0⟩
def ex21b : Cfg := ⟨3, 2, 3, 2, 2, 0, 4, 0, 2, 0, 131072, 9⟩
theorem ex21a_s : ex21a.Slots := ⟨by decide, rfl⟩
theorem ex21b_s : ex21b.Strs := ⟨by decide, rfl⟩

set_option maxRecDepth 100000 in
theorem conf21a_any (w : World) : Calls Try.prog 26 #[] w fun e w' => e = .returned (.agg #[.int .u8 3, .int .i64 2, .int .i64 3, .int .u8 1, .int .i64 0, .int .i64 0, .int .i64 4, .int .i64 0, .int .i64 2, .int .i64 0, .int .u64 131072, .int .u64 0]) ∧ Below w.heap.size w w' := by
  go_enter Try.func26, Try.ntmps26
  go_wp2_with fail
  exact bodyPost_ret (v := .agg #[.int .u8 3, .int .i64 2, .int .i64 3, .int .u8 1, .int .i64 0, .int .i64 0, .int .i64 4, .int .i64 0, .int .i64 2, .int .i64 0, .int .u64 131072, .int .u64 0]) ((Box.new w 37 [.int .u8 3, .int .i64 2, .int .i64 3, .int .u8 1, .int .i64 0, .int .i64 0, .int .i64 4, .int .i64 0, .int .i64 2, .int .i64 0, .int .u64 131072, .int .u64 0]).results rfl (fun _ => by kernel_rfl) (fun _ => by kernel_rfl) rfl) rfl ⟨rfl, newB w _⟩

set_option maxRecDepth 100000 in
theorem conf21b_any (w : World) : Calls Try.prog 27 #[] w fun e w' => e = .returned (.agg #[.int .u8 3, .int .i64 2, .int .i64 3, .int .u8 2, .int .i64 2, .int .i64 0, .int .i64 4, .int .i64 0, .int .i64 2, .int .i64 0, .int .u64 131072, .int .u64 9]) ∧ Below w.heap.size w w' := by
  go_enter Try.func27, Try.ntmps27
  go_wp2_with fail
  exact bodyPost_ret (v := .agg #[.int .u8 3, .int .i64 2, .int .i64 3, .int .u8 2, .int .i64 2, .int .i64 0, .int .i64 4, .int .i64 0, .int .i64 2, .int .i64 0, .int .u64 131072, .int .u64 9]) ((Box.new w 37 [.int .u8 3, .int .i64 2, .int .i64 3, .int .u8 2, .int .i64 2, .int .i64 0, .int .i64 4, .int .i64 0, .int .i64 2, .int .i64 0, .int .u64 131072, .int .u64 9]).results rfl (fun _ => by kernel_rfl) (fun _ => by kernel_rfl) rfl) rfl ⟨rfl, newB w _⟩

theorem many21a (w : World) : Calls Try.prog 20 #[.agg #[.int .u8 3, .int .i64 2, .int .i64 3, .int .u8 1, .int .i64 0, .int .i64 0, .int .i64 4, .int .i64 0, .int .i64 2, .int .i64 0, .int .u64 131072, .int .u64 0]] w fun e w' => e = .returned (.tuple #[.int .i64 3, .int .i64 0]) ∧ Below w.heap.size w w' := sgMany_slots ex21a w ex21a_s
theorem many21b (w : World) : Calls Try.prog 20 #[.agg #[.int .u8 3, .int .i64 2, .int .i64 3, .int .u8 2, .int .i64 2, .int .i64 0, .int .i64 4, .int .i64 0, .int .i64 2, .int .i64 0, .int .u64 131072, .int .u64 9]] w fun e w' => e = .returned (.tuple #[.int .i64 4, .int .i64 0]) ∧ Below w.heap.size w w' := sgMany_strs ex21b 4 w (by kernel_rfl) ex21b_s
theorem full21a (w : World) : Calls Try.prog 18 #[.agg #[.int .u8 3, .int .i64 2, .int .i64 3, .int .u8 1, .int .i64 0, .int .i64 0, .int .i64 4, .int .i64 0, .int .i64 2, .int .i64 0, .int .u64 131072, .int .u64 0], .agg #[.int .u64 0, .int .u64 9, .int .u64 0, .int .u64 0]] w fun e w' => e = .returned (.tuple #[.bool false, .int .i64 0]) ∧ Below w.heap.size w w' := sgFull_slots ex21a 0 9 0 0 w ex21a_s
theorem full21b (w : World) : Calls Try.prog 18 #[.agg #[.int .u8 3, .int .i64 2, .int .i64 3, .int .u8 2, .int .i64 2, .int .i64 0, .int .i64 4, .int .i64 0, .int .i64 2, .int .i64 0, .int .u64 131072, .int .u64 9], .agg #[.int .u64 0, .int .u64 9, .int .u64 0, .int .u64 0]] w fun e w' => e = .returned (.tuple #[.bool true, .int .i64 0]) ∧ Below w.heap.size w w' := calls_same (by rw [show fullB ex21b 9 = true by kernel_rfl, show fullE ex21b = 0 by kernel_rfl]) (sgFull_strs ex21b 0 9 0 0 w ex21b_s)

set_option maxRecDepth 100000 in
set_option maxHeartbeats 6400000 in
theorem alive21_any (w : World) : Calls Try.prog 28 #[] w fun e w' => e = .returned (.bool true) ∧ Below w.heap.size w w' := by
  go_enter Try.func28, Try.ntmps28
  go_wp2_with fail
  have HB := Lib.hid (Below.refl w.heap.size w)
  refine (conf21a_any w).mono ?_
  rintro e u1 ⟨rfl, hb⟩
  have HB := Lib.hid (keepB hb HB.out)
  clear hb
  go_wp2_with fail
  refine (many21a u1).mono ?_
  rintro e u2 ⟨rfl, hb⟩
  have HB := Lib.hid (keepB hb HB.out)
  clear hb
  go_wp2_with fail
  refine (conf21b_any u2).mono ?_
  rintro e u3 ⟨rfl, hb⟩
  have HB := Lib.hid (keepB hb HB.out)
  clear hb
  go_wp2_with fail
  refine (many21b u3).mono ?_
  rintro e u4 ⟨rfl, hb⟩
  have HB := Lib.hid (keepB hb HB.out)
  clear hb
  go_wp2_with fail
  refine (conf21a_any u4).mono ?_
  rintro e u5 ⟨rfl, hb⟩
  have HB := Lib.hid (keepB hb HB.out)
  clear hb
  go_wp2_with fail
  refine (full21a u5).mono ?_
  rintro e u6 ⟨rfl, hb⟩
  have HB := Lib.hid (keepB hb HB.out)
  clear hb
  go_wp2_with fail
  refine (conf21b_any u6).mono ?_
  rintro e u7 ⟨rfl, hb⟩
  have HB := Lib.hid (keepB hb HB.out)
  clear hb
  go_wp2_with fail
  refine (full21b u7).mono ?_
  rintro e u8 ⟨rfl, hb⟩
  have HB := Lib.hid (keepB hb HB.out)
  clear hb
  go_wp2_with fail
  go_ret
  exact ⟨rfl, HB.out⟩

end Go.Proofs.Ytecjbgddjejjdaa
