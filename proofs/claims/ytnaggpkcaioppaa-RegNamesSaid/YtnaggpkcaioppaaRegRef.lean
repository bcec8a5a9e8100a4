/- Contracts of the reference of registers: Fits, Cell, Laid. -/
import Derived.Test.YtnaggpkcaioppaaRegOf
namespace Go.Proofs.Ytnaggpkcaioppaa
open Go.RowKit

theorem fits9_iff (v : Nat → Nat) : fits9 v = true ↔ v 0 < 32 ∧ v 1 < 128 ∧ v 2 < 16 ∧ v 3 < 32 ∧ v 4 < 128 ∧ v 5 < 128 ∧ v 6 < 64 ∧ v 7 < 64 ∧ v 8 < 8 := by
  simp [fits9, and_assoc]

set_option maxHeartbeats 1600000 in
theorem rCell_any (tag K sq ki A B pc i j n p h X Y : Nat) (w : World) (hf : fits9 (nine K sq ki pc i j n p h) = true) (hA : A < 4294967296) (hB : B < 4294967296) (hX : X < 4294967296) (hY : Y < 4294967296) :
    Calls Try.prog 20 #[.agg #[.int .u64 tag, .int .u8 K, .int .u8 sq, .int .u8 ki, .int .u32 A, .int .u32 B, .int .u8 pc, .int .u8 i, .int .u8 j, .int .u8 n, .int .u8 p, .int .u8 h, .int .u32 X, .int .u32 Y]] w fun e w' => e = .returned (.agg #[.int .u64 tag, .int .u64 (sum9 (nine K sq ki pc i j n p h)), .int .u64 ((B * 4294967296 + A : Nat) : Int), .int .u64 ((Y * 4294967296 + X : Nat) : Int)]) ∧ Below w.heap.size w w' := by
  have hq := (fits9_iff _).1 hf
  have hs : sum9 (nine K sq ki pc i j n p h) = K + sq * 32 + ki * 4096 + pc * 65536 + i * 2097152 + j * 268435456 + n * 34359738368 + p * 2199023255552 + h * 140737488355328 := rfl
  rw [hs]
  obtain ⟨q0, q1, q2, q3, q4, q5, q6, q7, q8⟩ := (show K < 32 ∧ sq < 128 ∧ ki < 16 ∧ pc < 32 ∧ i < 128 ∧ j < 128 ∧ n < 64 ∧ p < 64 ∧ h < 8 from hq)
  clear hf hq hs
  go_enter Try.func20, Try.ntmps20
  go_wp2_with fail
  (try simp only [Exit.inBlock, Exit.then])
  refine bodyPost_ret (v := .agg #[.int .u64 tag, .int .u64 ((K + sq * 32 + ki * 4096 + pc * 65536 + i * 2097152 + j * 268435456 + n * 34359738368 + p * 2199023255552 + h * 140737488355328 : Nat) : Int), .int .u64 ((B * 4294967296 + A : Nat) : Int), .int .u64 ((Y * 4294967296 + X : Nat) : Int)]) (by simp [results, Try.f20, go_sem]; omega) rfl ⟨rfl, by (repeat (first | exact Below.refl _ _ | assumption | apply Below.drew | apply below_drewN | (refine Below.alloc ?_ (by simp <;> omega) _) | (refine Below.setCell ?_ (by simp <;> omega) _)))⟩

set_option maxRecDepth 100000 in
set_option maxHeartbeats 1600000 in
theorem rFits_any (tag K sq ki A B pc i j n p h X Y : Nat) (w : World) :
    Calls Try.prog 19 #[.agg #[.int .u64 tag, .int .u8 K, .int .u8 sq, .int .u8 ki, .int .u32 A, .int .u32 B, .int .u8 pc, .int .u8 i, .int .u8 j, .int .u8 n, .int .u8 p, .int .u8 h, .int .u32 X, .int .u32 Y]] w fun e w' => e = .returned (.bool (fits9 (nine K sq ki pc i j n p h))) ∧ Below w.heap.size w w' := by
  have HF := Lib.hid (show fits9 (nine K sq ki pc i j n p h) = (decide (K < 32) && decide (sq < 128) && decide (ki < 16) && decide (pc < 32) && decide (i < 128) && decide (j < 128) && decide (n < 64) && decide (p < 64) && decide (h < 8)) from rfl)
  go_enter Try.func19, Try.ntmps19
  go_wp2_with fail
  all_goals go_ret
  all_goals (refine ⟨ret_bool ?_, by (repeat (first | exact Below.refl _ _ | assumption | apply Below.drew | apply below_drewN | (refine Below.alloc ?_ (by simp <;> omega) _) | (refine Below.setCell ?_ (by simp <;> omega) _)))⟩; rw [HF.out]; clear HF)
  all_goals (rw [Bool.eq_iff_iff]; simp only [Bool.and_eq_true, decide_eq_true_eq, Bool.false_eq_true, false_iff]; omega)

set_option maxHeartbeats 800000 in
theorem rLaid_no (tag K sq ki A B pc i j n p h X Y : Nat) (w : World) (hf : fits9 (nine K sq ki pc i j n p h) = false) :
    Calls Try.prog 12 #[.agg #[.int .u64 tag, .int .u8 K, .int .u8 sq, .int .u8 ki, .int .u32 A, .int .u32 B, .int .u8 pc, .int .u8 i, .int .u8 j, .int .u8 n, .int .u8 p, .int .u8 h, .int .u32 X, .int .u32 Y]] w fun e w' => e = .returned (laidV tag A B X Y (nine K sq ki pc i j n p h)) ∧ Below w.heap.size w w' := by
  have HL := Lib.hid (show laidV tag A B X Y (nine K sq ki pc i j n p h) = .tuple #[.agg #[.int .u64 0, .int .u64 0, .int .u64 0, .int .u64 0], .int .i64 10] by simp [laidV, hf])
  have HF := Lib.hid hf
  clear hf
  go_enter Try.func12, Try.ntmps12
  go_wp2_with fail
  refine (rFits_any tag K sq ki A B pc i j n p h X Y _).mono ?_
  rintro e w1 ⟨rfl, hb1⟩
  rw [HF.out]
  have hr := ((Box.newAt (w.alloc (.cells #[.int .u64 tag, .int .u8 K, .int .u8 sq, .int .u8 ki, .int .u32 A, .int .u32 B, .int .u8 pc, .int .u8 i, .int .u8 j, .int .u8 n, .int .u8 p, .int .u8 h, .int .u32 X, .int .u32 Y] 32)) 34 [.int .u64 0, .int .u64 0, .int .u64 0, .int .u64 0] (g := w.heap.size + 1) (by simp)).below hb1)
  have hB := keepB (w := w) hb1 (by (repeat (first | exact Below.refl _ _ | assumption | apply Below.drew | apply below_drewN | (refine Below.alloc ?_ (by simp <;> omega) _) | (refine Below.setCell ?_ (by simp <;> omega) _))))
  obtain ⟨q0, q1, q2, q3⟩ := box4 hr
  have f0 := hr.f 0
  have f1 := hr.f 1
  have f2 := hr.f 2
  have f3 := hr.f 3
  have HBB := Lib.hid hB
  clear hr hb1 hB
  go_wp2_with fail
  (try simp only [Exit.inBlock, Exit.then])
  refine bodyPost_ret (v := laidV tag A B X Y (nine K sq ki pc i j n p h)) (by rw [HL.out]; simp [results, Try.f12, go_sem, q0, q1, q2, q3]) rfl ⟨rfl, ?_⟩
  have hB := HBB.out
  clear q0 q1 q2 q3 f0 f1 f2 f3
  (repeat (first | exact Below.refl _ _ | assumption | apply Below.drew | apply below_drewN | (refine Below.alloc ?_ (by simp <;> omega) _) | (refine Below.setCell ?_ (by simp <;> omega) _)))

end Go.Proofs.Ytnaggpkcaioppaa
