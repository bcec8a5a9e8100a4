/- Chapter 5: whether an operation's numbers fit. -/
import Derived.Test.YtecjbgddjejjdaaDoorOpC
import Derived.IntWalk
import Derived.WalkSmall
namespace Go.Proofs.YtecjbgddjejjdaaDoor
open Go.RowKit

theorem bitsO {b : Int} (h1 : 1 ≤ b) (h2 : b ≤ 6) : b = 1 ∨ b = 2 ∨ b = 3 ∨ b = 4 ∨ b = 5 ∨ b = 6 := by omega
theorem and32 (a : Nat) (ha : a < 4294967296) : bits .and .u32 (a : Int) 65535 = ((a % 65536 : Nat) : Int) := by
  have hx : a &&& 65535 = a % 65536 := Nat.and_two_pow_sub_one_eq_mod a 16
  have h1 : (BitVec.ofInt 32 (a : Int)).toNat = a := by
    rw [BitVec.ofInt_natCast, BitVec.toNat_ofNat]; exact Nat.mod_eq_of_lt (by omega)
  have h2 : (BitVec.ofInt 32 (65535 : Int)).toNat = 65535 := by decide
  show IntKind.u32.wrap ((BitVec.ofInt 32 (a : Int) &&& BitVec.ofInt 32 (65535 : Int)).toNat : Int) = _
  rw [BitVec.toNat_and, h1, h2, hx, IntKind.wrap_u32]
  omega

theorem path_any (a b : Int) (w : World) (ha : 0 ≤ a) (hb : 0 ≤ b) (ha' : a ≤ 4294967295) (hb' : b ≤ 4294967295) : Calls Tryd.prog 70 #[.int .u32 a, .int .u32 b] w fun e w' => e = .returned (.bool (pathZ a b)) ∧ w = w' := by
  obtain ⟨n, rfl⟩ := Int.eq_ofNat_of_zero_le ha
  have HZ0 : pathZ n b = (!(((n % 65536 : Nat) : Int) == 0) && decide (b ≤ 65535) && (!((n : Int) / 65536 == 0) || b == 0)) := by unfold pathZ; rw [Int.natCast_emod]; rfl
  have hm := and32 n (by omega)
  have hf : (((n % 65536 : Nat) : Int)) ≤ 65535 := by omega
  generalize ((n % 65536 : Nat) : Int) = f at *
  have HQ0 := Lib.hid HZ0
  clear HZ0
  by_cases h1 : f = 0
  · have e1 : (f != 0) = false := by simp [h1]
    have HZ := Lib.hid (show pathZ n b = false by rw [HQ0.out]; simp [h1])
    clear h1
    go_enter Tryd.func70, Tryd.ntmps70
    go_wp2_with fail
    go_ret
    exact ⟨ret_bool (by rw [HZ.out]), rfl⟩
  · have e1 : (f != 0) = true := by simp [h1]
    by_cases h2 : (n : Int) / 65536 = 0
    · have e2 : ((n : Int) / 65536 != 0) = false := by simp only [h2]; rfl
      by_cases h3 : b = 0
      · subst h3
        have HZ := Lib.hid (show pathZ n 0 = true by rw [HQ0.out]; simp [h1])
        clear h1 h2
        go_enter Tryd.func70, Tryd.ntmps70
        go_wp2_with fail
        go_ret
        exact ⟨ret_bool (by rw [HZ.out]), rfl⟩
      · have e3 : (b == 0) = false := by simp [h3]
        have HZ := Lib.hid (show pathZ n b = false by rw [HQ0.out, h2]; simp [h3])
        clear h1 h2 h3
        go_enter Tryd.func70, Tryd.ntmps70
        go_wp2_with fail
        go_ret
        exact ⟨ret_bool (by rw [HZ.out]), rfl⟩
    · have e2 : ((n : Int) / 65536 != 0) = true := by simpa using h2
      have e2' : ((n : Int) / 65536 == 0) = false := by simpa using h2
      by_cases h4 : b ≤ 65535
      · have HZ := Lib.hid (show pathZ n b = true by rw [HQ0.out, e2']; simp [h1, h4])
        clear h1 h2
        go_enter Tryd.func70, Tryd.ntmps70
        go_wp2_with fail
        go_ret
        exact ⟨ret_bool (by rw [HZ.out]), rfl⟩
      · have HZ := Lib.hid (show pathZ n b = false by rw [HQ0.out]; simp [h4])
        clear h1 h2
        go_enter Tryd.func70, Tryd.ntmps70
        go_wp2_with fail
        go_ret
        exact ⟨ret_bool (Eq.trans (by first | rfl | exact decide_eq_false (by omega)) HZ.out.symm), rfl⟩

set_option linter.unusedVariables false in
set_option maxHeartbeats 3200000 in
theorem fits_1 (c : Cfg) (a b x : Int) (w : World) (ha : 0 ≤ a) (hb : 0 ≤ b) (hx : 0 ≤ x) (ha' : a ≤ 4294967295) (hb' : b ≤ 4294967295) (hx' : x ≤ 4294967295) (hB0 : 0 ≤ c.bits) (hB6 : c.bits ≤ 6) : Calls Tryd.prog 53 #[.agg #[.int .u8 c.ob, .int .i64 c.inst, .int .i64 c.thr, .int .u8 c.kd, .int .i64 c.str, .int .i64 c.bits, .int .i64 c.cap, .int .i64 c.node, .int .i64 c.bat, .int .i64 c.chk, .int .u64 c.lim, .int .u64 c.most], .agg #[.int .u8 1, .int .u32 a, .int .u32 b, .int .u32 x]] w fun e w' => e = .returned (.bool (fitsZ c.bits 1 a b x)) ∧ Below w.heap.size w w' := by
  by_cases h1 : x ≤ 2147483647
  · by_cases h2 : b ≤ c.bits
    · have h6 : b = 0 ∨ b = 1 ∨ b = 2 ∨ b = 3 ∨ b = 4 ∨ b = 5 ∨ b = 6 := by omega
      rcases h6 with rfl | rfl | rfl | rfl | rfl | rfl | rfl
      · by_cases h3 : a < 1
        · have HZ := Lib.hid (show fitsZ c.bits 1 a 0 x = true from by simp [fitsZ, prefZ, *] <;> omega)
          go_enter Tryd.func53, Tryd.ntmps53
          go_wp2_with fail
          go_ret
          exact ⟨ret_bool (Eq.trans (by first | rfl | exact decide_eq_false (by omega) | exact decide_eq_true (by omega)) HZ.out.symm), by (repeat (first | exact Below.refl _ _ | assumption | apply Below.drew | apply below_drewN | (refine Below.alloc ?_ (by simp <;> omega) _) | (refine Below.setCell ?_ (by simp <;> omega) _)))⟩
        · have HZ := Lib.hid (show fitsZ c.bits 1 a 0 x = false from by simp [fitsZ, prefZ, *] <;> omega)
          go_enter Tryd.func53, Tryd.ntmps53
          go_wp2_with fail
          go_ret
          exact ⟨ret_bool (Eq.trans (by first | rfl | exact decide_eq_false (by omega) | exact decide_eq_true (by omega)) HZ.out.symm), by (repeat (first | exact Below.refl _ _ | assumption | apply Below.drew | apply below_drewN | (refine Below.alloc ?_ (by simp <;> omega) _) | (refine Below.setCell ?_ (by simp <;> omega) _)))⟩
      · by_cases h3 : a < 2
        · have HZ := Lib.hid (show fitsZ c.bits 1 a 1 x = true from by simp [fitsZ, prefZ, *] <;> omega)
          go_enter Tryd.func53, Tryd.ntmps53
          go_wp2_with fail
          go_ret
          exact ⟨ret_bool (Eq.trans (by first | rfl | exact decide_eq_false (by omega) | exact decide_eq_true (by omega)) HZ.out.symm), by (repeat (first | exact Below.refl _ _ | assumption | apply Below.drew | apply below_drewN | (refine Below.alloc ?_ (by simp <;> omega) _) | (refine Below.setCell ?_ (by simp <;> omega) _)))⟩
        · have HZ := Lib.hid (show fitsZ c.bits 1 a 1 x = false from by simp [fitsZ, prefZ, *] <;> omega)
          go_enter Tryd.func53, Tryd.ntmps53
          go_wp2_with fail
          go_ret
          exact ⟨ret_bool (Eq.trans (by first | rfl | exact decide_eq_false (by omega) | exact decide_eq_true (by omega)) HZ.out.symm), by (repeat (first | exact Below.refl _ _ | assumption | apply Below.drew | apply below_drewN | (refine Below.alloc ?_ (by simp <;> omega) _) | (refine Below.setCell ?_ (by simp <;> omega) _)))⟩
      · by_cases h3 : a < 4
        · have HZ := Lib.hid (show fitsZ c.bits 1 a 2 x = true from by simp [fitsZ, prefZ, *] <;> omega)
          go_enter Tryd.func53, Tryd.ntmps53
          go_wp2_with fail
          go_ret
          exact ⟨ret_bool (Eq.trans (by first | rfl | exact decide_eq_false (by omega) | exact decide_eq_true (by omega)) HZ.out.symm), by (repeat (first | exact Below.refl _ _ | assumption | apply Below.drew | apply below_drewN | (refine Below.alloc ?_ (by simp <;> omega) _) | (refine Below.setCell ?_ (by simp <;> omega) _)))⟩
        · have HZ := Lib.hid (show fitsZ c.bits 1 a 2 x = false from by simp [fitsZ, prefZ, *] <;> omega)
          go_enter Tryd.func53, Tryd.ntmps53
          go_wp2_with fail
          go_ret
          exact ⟨ret_bool (Eq.trans (by first | rfl | exact decide_eq_false (by omega) | exact decide_eq_true (by omega)) HZ.out.symm), by (repeat (first | exact Below.refl _ _ | assumption | apply Below.drew | apply below_drewN | (refine Below.alloc ?_ (by simp <;> omega) _) | (refine Below.setCell ?_ (by simp <;> omega) _)))⟩
      · by_cases h3 : a < 8
        · have HZ := Lib.hid (show fitsZ c.bits 1 a 3 x = true from by simp [fitsZ, prefZ, *] <;> omega)
          go_enter Tryd.func53, Tryd.ntmps53
          go_wp2_with fail
          go_ret
          exact ⟨ret_bool (Eq.trans (by first | rfl | exact decide_eq_false (by omega) | exact decide_eq_true (by omega)) HZ.out.symm), by (repeat (first | exact Below.refl _ _ | assumption | apply Below.drew | apply below_drewN | (refine Below.alloc ?_ (by simp <;> omega) _) | (refine Below.setCell ?_ (by simp <;> omega) _)))⟩
        · have HZ := Lib.hid (show fitsZ c.bits 1 a 3 x = false from by simp [fitsZ, prefZ, *] <;> omega)
          go_enter Tryd.func53, Tryd.ntmps53
          go_wp2_with fail
          go_ret
          exact ⟨ret_bool (Eq.trans (by first | rfl | exact decide_eq_false (by omega) | exact decide_eq_true (by omega)) HZ.out.symm), by (repeat (first | exact Below.refl _ _ | assumption | apply Below.drew | apply below_drewN | (refine Below.alloc ?_ (by simp <;> omega) _) | (refine Below.setCell ?_ (by simp <;> omega) _)))⟩
      · by_cases h3 : a < 16
        · have HZ := Lib.hid (show fitsZ c.bits 1 a 4 x = true from by simp [fitsZ, prefZ, *] <;> omega)
          go_enter Tryd.func53, Tryd.ntmps53
          go_wp2_with fail
          go_ret
          exact ⟨ret_bool (Eq.trans (by first | rfl | exact decide_eq_false (by omega) | exact decide_eq_true (by omega)) HZ.out.symm), by (repeat (first | exact Below.refl _ _ | assumption | apply Below.drew | apply below_drewN | (refine Below.alloc ?_ (by simp <;> omega) _) | (refine Below.setCell ?_ (by simp <;> omega) _)))⟩
        · have HZ := Lib.hid (show fitsZ c.bits 1 a 4 x = false from by simp [fitsZ, prefZ, *] <;> omega)
          go_enter Tryd.func53, Tryd.ntmps53
          go_wp2_with fail
          go_ret
          exact ⟨ret_bool (Eq.trans (by first | rfl | exact decide_eq_false (by omega) | exact decide_eq_true (by omega)) HZ.out.symm), by (repeat (first | exact Below.refl _ _ | assumption | apply Below.drew | apply below_drewN | (refine Below.alloc ?_ (by simp <;> omega) _) | (refine Below.setCell ?_ (by simp <;> omega) _)))⟩
      · by_cases h3 : a < 32
        · have HZ := Lib.hid (show fitsZ c.bits 1 a 5 x = true from by simp [fitsZ, prefZ, *] <;> omega)
          go_enter Tryd.func53, Tryd.ntmps53
          go_wp2_with fail
          go_ret
          exact ⟨ret_bool (Eq.trans (by first | rfl | exact decide_eq_false (by omega) | exact decide_eq_true (by omega)) HZ.out.symm), by (repeat (first | exact Below.refl _ _ | assumption | apply Below.drew | apply below_drewN | (refine Below.alloc ?_ (by simp <;> omega) _) | (refine Below.setCell ?_ (by simp <;> omega) _)))⟩
        · have HZ := Lib.hid (show fitsZ c.bits 1 a 5 x = false from by simp [fitsZ, prefZ, *] <;> omega)
          go_enter Tryd.func53, Tryd.ntmps53
          go_wp2_with fail
          go_ret
          exact ⟨ret_bool (Eq.trans (by first | rfl | exact decide_eq_false (by omega) | exact decide_eq_true (by omega)) HZ.out.symm), by (repeat (first | exact Below.refl _ _ | assumption | apply Below.drew | apply below_drewN | (refine Below.alloc ?_ (by simp <;> omega) _) | (refine Below.setCell ?_ (by simp <;> omega) _)))⟩
      · by_cases h3 : a < 64
        · have HZ := Lib.hid (show fitsZ c.bits 1 a 6 x = true from by simp [fitsZ, prefZ, *] <;> omega)
          go_enter Tryd.func53, Tryd.ntmps53
          go_wp2_with fail
          go_ret
          exact ⟨ret_bool (Eq.trans (by first | rfl | exact decide_eq_false (by omega) | exact decide_eq_true (by omega)) HZ.out.symm), by (repeat (first | exact Below.refl _ _ | assumption | apply Below.drew | apply below_drewN | (refine Below.alloc ?_ (by simp <;> omega) _) | (refine Below.setCell ?_ (by simp <;> omega) _)))⟩
        · have HZ := Lib.hid (show fitsZ c.bits 1 a 6 x = false from by simp [fitsZ, prefZ, *] <;> omega)
          go_enter Tryd.func53, Tryd.ntmps53
          go_wp2_with fail
          go_ret
          exact ⟨ret_bool (Eq.trans (by first | rfl | exact decide_eq_false (by omega) | exact decide_eq_true (by omega)) HZ.out.symm), by (repeat (first | exact Below.refl _ _ | assumption | apply Below.drew | apply below_drewN | (refine Below.alloc ?_ (by simp <;> omega) _) | (refine Below.setCell ?_ (by simp <;> omega) _)))⟩
    · have HZ := Lib.hid (show fitsZ c.bits 1 a b x = false from by simp [fitsZ, prefZ, *] <;> omega)
      go_enter Tryd.func53, Tryd.ntmps53
      go_wp2_with fail
      go_ret
      exact ⟨ret_bool (Eq.trans (by first | rfl | exact decide_eq_false (by omega) | exact decide_eq_true (by omega)) HZ.out.symm), by (repeat (first | exact Below.refl _ _ | assumption | apply Below.drew | apply below_drewN | (refine Below.alloc ?_ (by simp <;> omega) _) | (refine Below.setCell ?_ (by simp <;> omega) _)))⟩
  · have HZ := Lib.hid (show fitsZ c.bits 1 a b x = false from by simp [fitsZ, prefZ, *] <;> omega)
    go_enter Tryd.func53, Tryd.ntmps53
    go_wp2_with fail
    go_ret
    exact ⟨ret_bool (Eq.trans (by first | rfl | exact decide_eq_false (by omega) | exact decide_eq_true (by omega)) HZ.out.symm), by (repeat (first | exact Below.refl _ _ | assumption | apply Below.drew | apply below_drewN | (refine Below.alloc ?_ (by simp <;> omega) _) | (refine Below.setCell ?_ (by simp <;> omega) _)))⟩

set_option linter.unusedVariables false in
set_option maxHeartbeats 3200000 in
theorem fits_2 (c : Cfg) (a b x : Int) (w : World) (ha : 0 ≤ a) (hb : 0 ≤ b) (hx : 0 ≤ x) (ha' : a ≤ 4294967295) (hb' : b ≤ 4294967295) (hx' : x ≤ 4294967295) (hB0 : 0 ≤ c.bits) (hB6 : c.bits ≤ 6) : Calls Tryd.prog 53 #[.agg #[.int .u8 c.ob, .int .i64 c.inst, .int .i64 c.thr, .int .u8 c.kd, .int .i64 c.str, .int .i64 c.bits, .int .i64 c.cap, .int .i64 c.node, .int .i64 c.bat, .int .i64 c.chk, .int .u64 c.lim, .int .u64 c.most], .agg #[.int .u8 2, .int .u32 a, .int .u32 b, .int .u32 x]] w fun e w' => e = .returned (.bool (fitsZ c.bits 2 a b x)) ∧ Below w.heap.size w w' := by
  by_cases h1 : x = 0
  · subst h1
    by_cases h2 : b ≤ c.bits
    · have h6 : b = 0 ∨ b = 1 ∨ b = 2 ∨ b = 3 ∨ b = 4 ∨ b = 5 ∨ b = 6 := by omega
      rcases h6 with rfl | rfl | rfl | rfl | rfl | rfl | rfl
      · by_cases h3 : a < 1
        · have HZ := Lib.hid (show fitsZ c.bits 2 a 0 0 = true from by simp [fitsZ, prefZ, *] <;> omega)
          go_enter Tryd.func53, Tryd.ntmps53
          go_wp2_with fail
          go_ret
          exact ⟨ret_bool (Eq.trans (by first | rfl | exact decide_eq_false (by omega) | exact decide_eq_true (by omega)) HZ.out.symm), by (repeat (first | exact Below.refl _ _ | assumption | apply Below.drew | apply below_drewN | (refine Below.alloc ?_ (by simp <;> omega) _) | (refine Below.setCell ?_ (by simp <;> omega) _)))⟩
        · have HZ := Lib.hid (show fitsZ c.bits 2 a 0 0 = false from by simp [fitsZ, prefZ, *] <;> omega)
          go_enter Tryd.func53, Tryd.ntmps53
          go_wp2_with fail
          go_ret
          exact ⟨ret_bool (Eq.trans (by first | rfl | exact decide_eq_false (by omega) | exact decide_eq_true (by omega)) HZ.out.symm), by (repeat (first | exact Below.refl _ _ | assumption | apply Below.drew | apply below_drewN | (refine Below.alloc ?_ (by simp <;> omega) _) | (refine Below.setCell ?_ (by simp <;> omega) _)))⟩
      · by_cases h3 : a < 2
        · have HZ := Lib.hid (show fitsZ c.bits 2 a 1 0 = true from by simp [fitsZ, prefZ, *] <;> omega)
          go_enter Tryd.func53, Tryd.ntmps53
          go_wp2_with fail
          go_ret
          exact ⟨ret_bool (Eq.trans (by first | rfl | exact decide_eq_false (by omega) | exact decide_eq_true (by omega)) HZ.out.symm), by (repeat (first | exact Below.refl _ _ | assumption | apply Below.drew | apply below_drewN | (refine Below.alloc ?_ (by simp <;> omega) _) | (refine Below.setCell ?_ (by simp <;> omega) _)))⟩
        · have HZ := Lib.hid (show fitsZ c.bits 2 a 1 0 = false from by simp [fitsZ, prefZ, *] <;> omega)
          go_enter Tryd.func53, Tryd.ntmps53
          go_wp2_with fail
          go_ret
          exact ⟨ret_bool (Eq.trans (by first | rfl | exact decide_eq_false (by omega) | exact decide_eq_true (by omega)) HZ.out.symm), by (repeat (first | exact Below.refl _ _ | assumption | apply Below.drew | apply below_drewN | (refine Below.alloc ?_ (by simp <;> omega) _) | (refine Below.setCell ?_ (by simp <;> omega) _)))⟩
      · by_cases h3 : a < 4
        · have HZ := Lib.hid (show fitsZ c.bits 2 a 2 0 = true from by simp [fitsZ, prefZ, *] <;> omega)
          go_enter Tryd.func53, Tryd.ntmps53
          go_wp2_with fail
          go_ret
          exact ⟨ret_bool (Eq.trans (by first | rfl | exact decide_eq_false (by omega) | exact decide_eq_true (by omega)) HZ.out.symm), by (repeat (first | exact Below.refl _ _ | assumption | apply Below.drew | apply below_drewN | (refine Below.alloc ?_ (by simp <;> omega) _) | (refine Below.setCell ?_ (by simp <;> omega) _)))⟩
        · have HZ := Lib.hid (show fitsZ c.bits 2 a 2 0 = false from by simp [fitsZ, prefZ, *] <;> omega)
          go_enter Tryd.func53, Tryd.ntmps53
          go_wp2_with fail
          go_ret
          exact ⟨ret_bool (Eq.trans (by first | rfl | exact decide_eq_false (by omega) | exact decide_eq_true (by omega)) HZ.out.symm), by (repeat (first | exact Below.refl _ _ | assumption | apply Below.drew | apply below_drewN | (refine Below.alloc ?_ (by simp <;> omega) _) | (refine Below.setCell ?_ (by simp <;> omega) _)))⟩
      · by_cases h3 : a < 8
        · have HZ := Lib.hid (show fitsZ c.bits 2 a 3 0 = true from by simp [fitsZ, prefZ, *] <;> omega)
          go_enter Tryd.func53, Tryd.ntmps53
          go_wp2_with fail
          go_ret
          exact ⟨ret_bool (Eq.trans (by first | rfl | exact decide_eq_false (by omega) | exact decide_eq_true (by omega)) HZ.out.symm), by (repeat (first | exact Below.refl _ _ | assumption | apply Below.drew | apply below_drewN | (refine Below.alloc ?_ (by simp <;> omega) _) | (refine Below.setCell ?_ (by simp <;> omega) _)))⟩
        · have HZ := Lib.hid (show fitsZ c.bits 2 a 3 0 = false from by simp [fitsZ, prefZ, *] <;> omega)
          go_enter Tryd.func53, Tryd.ntmps53
          go_wp2_with fail
          go_ret
          exact ⟨ret_bool (Eq.trans (by first | rfl | exact decide_eq_false (by omega) | exact decide_eq_true (by omega)) HZ.out.symm), by (repeat (first | exact Below.refl _ _ | assumption | apply Below.drew | apply below_drewN | (refine Below.alloc ?_ (by simp <;> omega) _) | (refine Below.setCell ?_ (by simp <;> omega) _)))⟩
      · by_cases h3 : a < 16
        · have HZ := Lib.hid (show fitsZ c.bits 2 a 4 0 = true from by simp [fitsZ, prefZ, *] <;> omega)
          go_enter Tryd.func53, Tryd.ntmps53
          go_wp2_with fail
          go_ret
          exact ⟨ret_bool (Eq.trans (by first | rfl | exact decide_eq_false (by omega) | exact decide_eq_true (by omega)) HZ.out.symm), by (repeat (first | exact Below.refl _ _ | assumption | apply Below.drew | apply below_drewN | (refine Below.alloc ?_ (by simp <;> omega) _) | (refine Below.setCell ?_ (by simp <;> omega) _)))⟩
        · have HZ := Lib.hid (show fitsZ c.bits 2 a 4 0 = false from by simp [fitsZ, prefZ, *] <;> omega)
          go_enter Tryd.func53, Tryd.ntmps53
          go_wp2_with fail
          go_ret
          exact ⟨ret_bool (Eq.trans (by first | rfl | exact decide_eq_false (by omega) | exact decide_eq_true (by omega)) HZ.out.symm), by (repeat (first | exact Below.refl _ _ | assumption | apply Below.drew | apply below_drewN | (refine Below.alloc ?_ (by simp <;> omega) _) | (refine Below.setCell ?_ (by simp <;> omega) _)))⟩
      · by_cases h3 : a < 32
        · have HZ := Lib.hid (show fitsZ c.bits 2 a 5 0 = true from by simp [fitsZ, prefZ, *] <;> omega)
          go_enter Tryd.func53, Tryd.ntmps53
          go_wp2_with fail
          go_ret
          exact ⟨ret_bool (Eq.trans (by first | rfl | exact decide_eq_false (by omega) | exact decide_eq_true (by omega)) HZ.out.symm), by (repeat (first | exact Below.refl _ _ | assumption | apply Below.drew | apply below_drewN | (refine Below.alloc ?_ (by simp <;> omega) _) | (refine Below.setCell ?_ (by simp <;> omega) _)))⟩
        · have HZ := Lib.hid (show fitsZ c.bits 2 a 5 0 = false from by simp [fitsZ, prefZ, *] <;> omega)
          go_enter Tryd.func53, Tryd.ntmps53
          go_wp2_with fail
          go_ret
          exact ⟨ret_bool (Eq.trans (by first | rfl | exact decide_eq_false (by omega) | exact decide_eq_true (by omega)) HZ.out.symm), by (repeat (first | exact Below.refl _ _ | assumption | apply Below.drew | apply below_drewN | (refine Below.alloc ?_ (by simp <;> omega) _) | (refine Below.setCell ?_ (by simp <;> omega) _)))⟩
      · by_cases h3 : a < 64
        · have HZ := Lib.hid (show fitsZ c.bits 2 a 6 0 = true from by simp [fitsZ, prefZ, *] <;> omega)
          go_enter Tryd.func53, Tryd.ntmps53
          go_wp2_with fail
          go_ret
          exact ⟨ret_bool (Eq.trans (by first | rfl | exact decide_eq_false (by omega) | exact decide_eq_true (by omega)) HZ.out.symm), by (repeat (first | exact Below.refl _ _ | assumption | apply Below.drew | apply below_drewN | (refine Below.alloc ?_ (by simp <;> omega) _) | (refine Below.setCell ?_ (by simp <;> omega) _)))⟩
        · have HZ := Lib.hid (show fitsZ c.bits 2 a 6 0 = false from by simp [fitsZ, prefZ, *] <;> omega)
          go_enter Tryd.func53, Tryd.ntmps53
          go_wp2_with fail
          go_ret
          exact ⟨ret_bool (Eq.trans (by first | rfl | exact decide_eq_false (by omega) | exact decide_eq_true (by omega)) HZ.out.symm), by (repeat (first | exact Below.refl _ _ | assumption | apply Below.drew | apply below_drewN | (refine Below.alloc ?_ (by simp <;> omega) _) | (refine Below.setCell ?_ (by simp <;> omega) _)))⟩
    · have HZ := Lib.hid (show fitsZ c.bits 2 a b 0 = false from by simp [fitsZ, prefZ, *] <;> omega)
      go_enter Tryd.func53, Tryd.ntmps53
      go_wp2_with fail
      go_ret
      exact ⟨ret_bool (Eq.trans (by first | rfl | exact decide_eq_false (by omega) | exact decide_eq_true (by omega)) HZ.out.symm), by (repeat (first | exact Below.refl _ _ | assumption | apply Below.drew | apply below_drewN | (refine Below.alloc ?_ (by simp <;> omega) _) | (refine Below.setCell ?_ (by simp <;> omega) _)))⟩
  · have e_x : (x == 0) = false := by simp [h1]
    have HZ := Lib.hid (show fitsZ c.bits 2 a b x = false from by simp [fitsZ, prefZ, *] <;> omega)
    go_enter Tryd.func53, Tryd.ntmps53
    go_wp2_with fail
    go_ret
    exact ⟨ret_bool (Eq.trans (by first | rfl | exact decide_eq_false (by omega) | exact decide_eq_true (by omega)) HZ.out.symm), by (repeat (first | exact Below.refl _ _ | assumption | apply Below.drew | apply below_drewN | (refine Below.alloc ?_ (by simp <;> omega) _) | (refine Below.setCell ?_ (by simp <;> omega) _)))⟩

set_option linter.unusedVariables false in
set_option maxHeartbeats 3200000 in
theorem fits_3 (c : Cfg) (a b x : Int) (w : World) (ha : 0 ≤ a) (hb : 0 ≤ b) (hx : 0 ≤ x) (ha' : a ≤ 4294967295) (hb' : b ≤ 4294967295) (hx' : x ≤ 4294967295) (hB0 : 1 ≤ c.bits) (hB6 : c.bits ≤ 6) : Calls Tryd.prog 53 #[.agg #[.int .u8 c.ob, .int .i64 c.inst, .int .i64 c.thr, .int .u8 c.kd, .int .i64 c.str, .int .i64 c.bits, .int .i64 c.cap, .int .i64 c.node, .int .i64 c.bat, .int .i64 c.chk, .int .u64 c.lim, .int .u64 c.most], .agg #[.int .u8 3, .int .u32 a, .int .u32 b, .int .u32 x]] w fun e w' => e = .returned (.bool (fitsZ c.bits 3 a b x)) ∧ Below w.heap.size w w' := by
  obtain ⟨ob, inst, thr, kd, str, bits, cap, node, bat, chk, lim, most⟩ := c
  simp only at *
  by_cases h1 : x = 0
  · subst h1
    by_cases h2 : b = 0
    · subst h2
      rcases bitsO hB0 hB6 with rfl | rfl | rfl | rfl | rfl | rfl
      · by_cases h3 : a < 2
        · have HZ := Lib.hid (show fitsZ 1 3 a 0 0 = true from by simp [fitsZ, prefZ, *] <;> omega)
          go_enter Tryd.func53, Tryd.ntmps53
          go_wp2_with fail
          go_quiet (fail)
          go_wp2_with fail
          go_ret
          exact ⟨ret_bool (Eq.trans (by first | rfl | exact decide_eq_false (by omega) | exact decide_eq_true (by omega)) HZ.out.symm), by (repeat (first | exact Below.refl _ _ | assumption | apply Below.drew | apply below_drewN | (refine Below.alloc ?_ (by simp <;> omega) _) | (refine Below.setCell ?_ (by simp <;> omega) _)))⟩
        · have HZ := Lib.hid (show fitsZ 1 3 a 0 0 = false from by simp [fitsZ, prefZ, *] <;> omega)
          go_enter Tryd.func53, Tryd.ntmps53
          go_wp2_with fail
          go_quiet (fail)
          go_wp2_with fail
          go_ret
          exact ⟨ret_bool (Eq.trans (by first | rfl | exact decide_eq_false (by omega) | exact decide_eq_true (by omega)) HZ.out.symm), by (repeat (first | exact Below.refl _ _ | assumption | apply Below.drew | apply below_drewN | (refine Below.alloc ?_ (by simp <;> omega) _) | (refine Below.setCell ?_ (by simp <;> omega) _)))⟩
      · by_cases h3 : a < 4
        · have HZ := Lib.hid (show fitsZ 2 3 a 0 0 = true from by simp [fitsZ, prefZ, *] <;> omega)
          go_enter Tryd.func53, Tryd.ntmps53
          go_wp2_with fail
          go_quiet (fail)
          go_wp2_with fail
          go_ret
          exact ⟨ret_bool (Eq.trans (by first | rfl | exact decide_eq_false (by omega) | exact decide_eq_true (by omega)) HZ.out.symm), by (repeat (first | exact Below.refl _ _ | assumption | apply Below.drew | apply below_drewN | (refine Below.alloc ?_ (by simp <;> omega) _) | (refine Below.setCell ?_ (by simp <;> omega) _)))⟩
        · have HZ := Lib.hid (show fitsZ 2 3 a 0 0 = false from by simp [fitsZ, prefZ, *] <;> omega)
          go_enter Tryd.func53, Tryd.ntmps53
          go_wp2_with fail
          go_quiet (fail)
          go_wp2_with fail
          go_ret
          exact ⟨ret_bool (Eq.trans (by first | rfl | exact decide_eq_false (by omega) | exact decide_eq_true (by omega)) HZ.out.symm), by (repeat (first | exact Below.refl _ _ | assumption | apply Below.drew | apply below_drewN | (refine Below.alloc ?_ (by simp <;> omega) _) | (refine Below.setCell ?_ (by simp <;> omega) _)))⟩
      · by_cases h3 : a < 8
        · have HZ := Lib.hid (show fitsZ 3 3 a 0 0 = true from by simp [fitsZ, prefZ, *] <;> omega)
          go_enter Tryd.func53, Tryd.ntmps53
          go_wp2_with fail
          go_quiet (fail)
          go_wp2_with fail
          go_ret
          exact ⟨ret_bool (Eq.trans (by first | rfl | exact decide_eq_false (by omega) | exact decide_eq_true (by omega)) HZ.out.symm), by (repeat (first | exact Below.refl _ _ | assumption | apply Below.drew | apply below_drewN | (refine Below.alloc ?_ (by simp <;> omega) _) | (refine Below.setCell ?_ (by simp <;> omega) _)))⟩
        · have HZ := Lib.hid (show fitsZ 3 3 a 0 0 = false from by simp [fitsZ, prefZ, *] <;> omega)
          go_enter Tryd.func53, Tryd.ntmps53
          go_wp2_with fail
          go_quiet (fail)
          go_wp2_with fail
          go_ret
          exact ⟨ret_bool (Eq.trans (by first | rfl | exact decide_eq_false (by omega) | exact decide_eq_true (by omega)) HZ.out.symm), by (repeat (first | exact Below.refl _ _ | assumption | apply Below.drew | apply below_drewN | (refine Below.alloc ?_ (by simp <;> omega) _) | (refine Below.setCell ?_ (by simp <;> omega) _)))⟩
      · by_cases h3 : a < 16
        · have HZ := Lib.hid (show fitsZ 4 3 a 0 0 = true from by simp [fitsZ, prefZ, *] <;> omega)
          go_enter Tryd.func53, Tryd.ntmps53
          go_wp2_with fail
          go_quiet (fail)
          go_wp2_with fail
          go_ret
          exact ⟨ret_bool (Eq.trans (by first | rfl | exact decide_eq_false (by omega) | exact decide_eq_true (by omega)) HZ.out.symm), by (repeat (first | exact Below.refl _ _ | assumption | apply Below.drew | apply below_drewN | (refine Below.alloc ?_ (by simp <;> omega) _) | (refine Below.setCell ?_ (by simp <;> omega) _)))⟩
        · have HZ := Lib.hid (show fitsZ 4 3 a 0 0 = false from by simp [fitsZ, prefZ, *] <;> omega)
          go_enter Tryd.func53, Tryd.ntmps53
          go_wp2_with fail
          go_quiet (fail)
          go_wp2_with fail
          go_ret
          exact ⟨ret_bool (Eq.trans (by first | rfl | exact decide_eq_false (by omega) | exact decide_eq_true (by omega)) HZ.out.symm), by (repeat (first | exact Below.refl _ _ | assumption | apply Below.drew | apply below_drewN | (refine Below.alloc ?_ (by simp <;> omega) _) | (refine Below.setCell ?_ (by simp <;> omega) _)))⟩
      · by_cases h3 : a < 32
        · have HZ := Lib.hid (show fitsZ 5 3 a 0 0 = true from by simp [fitsZ, prefZ, *] <;> omega)
          go_enter Tryd.func53, Tryd.ntmps53
          go_wp2_with fail
          go_quiet (fail)
          go_wp2_with fail
          go_ret
          exact ⟨ret_bool (Eq.trans (by first | rfl | exact decide_eq_false (by omega) | exact decide_eq_true (by omega)) HZ.out.symm), by (repeat (first | exact Below.refl _ _ | assumption | apply Below.drew | apply below_drewN | (refine Below.alloc ?_ (by simp <;> omega) _) | (refine Below.setCell ?_ (by simp <;> omega) _)))⟩
        · have HZ := Lib.hid (show fitsZ 5 3 a 0 0 = false from by simp [fitsZ, prefZ, *] <;> omega)
          go_enter Tryd.func53, Tryd.ntmps53
          go_wp2_with fail
          go_quiet (fail)
          go_wp2_with fail
          go_ret
          exact ⟨ret_bool (Eq.trans (by first | rfl | exact decide_eq_false (by omega) | exact decide_eq_true (by omega)) HZ.out.symm), by (repeat (first | exact Below.refl _ _ | assumption | apply Below.drew | apply below_drewN | (refine Below.alloc ?_ (by simp <;> omega) _) | (refine Below.setCell ?_ (by simp <;> omega) _)))⟩
      · by_cases h3 : a < 64
        · have HZ := Lib.hid (show fitsZ 6 3 a 0 0 = true from by simp [fitsZ, prefZ, *] <;> omega)
          go_enter Tryd.func53, Tryd.ntmps53
          go_wp2_with fail
          go_quiet (fail)
          go_wp2_with fail
          go_ret
          exact ⟨ret_bool (Eq.trans (by first | rfl | exact decide_eq_false (by omega) | exact decide_eq_true (by omega)) HZ.out.symm), by (repeat (first | exact Below.refl _ _ | assumption | apply Below.drew | apply below_drewN | (refine Below.alloc ?_ (by simp <;> omega) _) | (refine Below.setCell ?_ (by simp <;> omega) _)))⟩
        · have HZ := Lib.hid (show fitsZ 6 3 a 0 0 = false from by simp [fitsZ, prefZ, *] <;> omega)
          go_enter Tryd.func53, Tryd.ntmps53
          go_wp2_with fail
          go_quiet (fail)
          go_wp2_with fail
          go_ret
          exact ⟨ret_bool (Eq.trans (by first | rfl | exact decide_eq_false (by omega) | exact decide_eq_true (by omega)) HZ.out.symm), by (repeat (first | exact Below.refl _ _ | assumption | apply Below.drew | apply below_drewN | (refine Below.alloc ?_ (by simp <;> omega) _) | (refine Below.setCell ?_ (by simp <;> omega) _)))⟩
    · have e_b : (b == 0) = false := by simp [h2]
      have HZ := Lib.hid (show fitsZ bits 3 a b 0 = false from by simp [fitsZ, prefZ, *] <;> omega)
      go_enter Tryd.func53, Tryd.ntmps53
      go_wp2_with fail
      go_quiet (fail)
      go_wp2_with fail
      go_ret
      exact ⟨ret_bool (Eq.trans (by first | rfl | exact decide_eq_false (by omega) | exact decide_eq_true (by omega)) HZ.out.symm), by (repeat (first | exact Below.refl _ _ | assumption | apply Below.drew | apply below_drewN | (refine Below.alloc ?_ (by simp <;> omega) _) | (refine Below.setCell ?_ (by simp <;> omega) _)))⟩
  · have e_x : (x == 0) = false := by simp [h1]
    have HZ := Lib.hid (show fitsZ bits 3 a b x = false from by simp [fitsZ, prefZ, *] <;> omega)
    go_enter Tryd.func53, Tryd.ntmps53
    go_wp2_with fail
    go_quiet (fail)
    go_wp2_with fail
    go_ret
    exact ⟨ret_bool (Eq.trans (by first | rfl | exact decide_eq_false (by omega) | exact decide_eq_true (by omega)) HZ.out.symm), by (repeat (first | exact Below.refl _ _ | assumption | apply Below.drew | apply below_drewN | (refine Below.alloc ?_ (by simp <;> omega) _) | (refine Below.setCell ?_ (by simp <;> omega) _)))⟩

set_option linter.unusedVariables false in
set_option maxHeartbeats 3200000 in
theorem fits_4 (c : Cfg) (a b x : Int) (w : World) (ha : 0 ≤ a) (hb : 0 ≤ b) (hx : 0 ≤ x) (ha' : a ≤ 4294967295) (hb' : b ≤ 4294967295) (hx' : x ≤ 4294967295) : Calls Tryd.prog 53 #[.agg #[.int .u8 c.ob, .int .i64 c.inst, .int .i64 c.thr, .int .u8 c.kd, .int .i64 c.str, .int .i64 c.bits, .int .i64 c.cap, .int .i64 c.node, .int .i64 c.bat, .int .i64 c.chk, .int .u64 c.lim, .int .u64 c.most], .agg #[.int .u8 4, .int .u32 a, .int .u32 b, .int .u32 x]] w fun e w' => e = .returned (.bool (fitsZ c.bits 4 a b x)) ∧ Below w.heap.size w w' := by
  by_cases h1 : x = 0
  · subst h1
    by_cases h2 : a ≤ 2147483647
    · by_cases h3 : b ≤ 2147483647
      · have HZ := Lib.hid (show fitsZ c.bits 4 a b 0 = true from by simp [fitsZ, *] <;> omega)
        go_enter Tryd.func53, Tryd.ntmps53
        go_wp2_with fail
        go_ret
        exact ⟨ret_bool (Eq.trans (by first | rfl | exact decide_eq_false (by omega) | exact decide_eq_true (by omega)) HZ.out.symm), by (repeat (first | exact Below.refl _ _ | assumption | apply Below.drew | apply below_drewN | (refine Below.alloc ?_ (by simp <;> omega) _) | (refine Below.setCell ?_ (by simp <;> omega) _)))⟩
      · have HZ := Lib.hid (show fitsZ c.bits 4 a b 0 = false from by simp [fitsZ, *] <;> omega)
        go_enter Tryd.func53, Tryd.ntmps53
        go_wp2_with fail
        go_ret
        exact ⟨ret_bool (Eq.trans (by first | rfl | exact decide_eq_false (by omega) | exact decide_eq_true (by omega)) HZ.out.symm), by (repeat (first | exact Below.refl _ _ | assumption | apply Below.drew | apply below_drewN | (refine Below.alloc ?_ (by simp <;> omega) _) | (refine Below.setCell ?_ (by simp <;> omega) _)))⟩
    · have HZ := Lib.hid (show fitsZ c.bits 4 a b 0 = false from by simp [fitsZ, *] <;> omega)
      go_enter Tryd.func53, Tryd.ntmps53
      go_wp2_with fail
      go_ret
      exact ⟨ret_bool (Eq.trans (by first | rfl | exact decide_eq_false (by omega) | exact decide_eq_true (by omega)) HZ.out.symm), by (repeat (first | exact Below.refl _ _ | assumption | apply Below.drew | apply below_drewN | (refine Below.alloc ?_ (by simp <;> omega) _) | (refine Below.setCell ?_ (by simp <;> omega) _)))⟩
  · have e_x : (x == 0) = false := by simp [h1]
    have HZ := Lib.hid (show fitsZ c.bits 4 a b x = false from by simp [fitsZ, *] <;> omega)
    go_enter Tryd.func53, Tryd.ntmps53
    go_wp2_with fail
    go_ret
    exact ⟨ret_bool (Eq.trans (by first | rfl | exact decide_eq_false (by omega) | exact decide_eq_true (by omega)) HZ.out.symm), by (repeat (first | exact Below.refl _ _ | assumption | apply Below.drew | apply below_drewN | (refine Below.alloc ?_ (by simp <;> omega) _) | (refine Below.setCell ?_ (by simp <;> omega) _)))⟩

set_option linter.unusedVariables false in
set_option maxHeartbeats 3200000 in
theorem fits_5 (c : Cfg) (a b x : Int) (w : World) (ha : 0 ≤ a) (hb : 0 ≤ b) (hx : 0 ≤ x) (ha' : a ≤ 4294967295) (hb' : b ≤ 4294967295) (hx' : x ≤ 4294967295) : Calls Tryd.prog 53 #[.agg #[.int .u8 c.ob, .int .i64 c.inst, .int .i64 c.thr, .int .u8 c.kd, .int .i64 c.str, .int .i64 c.bits, .int .i64 c.cap, .int .i64 c.node, .int .i64 c.bat, .int .i64 c.chk, .int .u64 c.lim, .int .u64 c.most], .agg #[.int .u8 5, .int .u32 a, .int .u32 b, .int .u32 x]] w fun e w' => e = .returned (.bool (fitsZ c.bits 5 a b x)) ∧ Below w.heap.size w w' := by
  by_cases h1 : x = 0
  · subst h1
    by_cases h2 : b = 0
    · subst h2
      by_cases h3 : a ≤ 2147483647
      · have HZ := Lib.hid (show fitsZ c.bits 5 a 0 0 = true from by simp [fitsZ, *] <;> omega)
        go_enter Tryd.func53, Tryd.ntmps53
        go_wp2_with fail
        go_ret
        exact ⟨ret_bool (Eq.trans (by first | rfl | exact decide_eq_false (by omega) | exact decide_eq_true (by omega)) HZ.out.symm), by (repeat (first | exact Below.refl _ _ | assumption | apply Below.drew | apply below_drewN | (refine Below.alloc ?_ (by simp <;> omega) _) | (refine Below.setCell ?_ (by simp <;> omega) _)))⟩
      · have HZ := Lib.hid (show fitsZ c.bits 5 a 0 0 = false from by simp [fitsZ, *] <;> omega)
        go_enter Tryd.func53, Tryd.ntmps53
        go_wp2_with fail
        go_ret
        exact ⟨ret_bool (Eq.trans (by first | rfl | exact decide_eq_false (by omega) | exact decide_eq_true (by omega)) HZ.out.symm), by (repeat (first | exact Below.refl _ _ | assumption | apply Below.drew | apply below_drewN | (refine Below.alloc ?_ (by simp <;> omega) _) | (refine Below.setCell ?_ (by simp <;> omega) _)))⟩
    · have e_b : (b == 0) = false := by simp [h2]
      have HZ := Lib.hid (show fitsZ c.bits 5 a b 0 = false from by simp [fitsZ, *] <;> omega)
      go_enter Tryd.func53, Tryd.ntmps53
      go_wp2_with fail
      go_ret
      exact ⟨ret_bool (Eq.trans (by first | rfl | exact decide_eq_false (by omega) | exact decide_eq_true (by omega)) HZ.out.symm), by (repeat (first | exact Below.refl _ _ | assumption | apply Below.drew | apply below_drewN | (refine Below.alloc ?_ (by simp <;> omega) _) | (refine Below.setCell ?_ (by simp <;> omega) _)))⟩
  · have e_x : (x == 0) = false := by simp [h1]
    have HZ := Lib.hid (show fitsZ c.bits 5 a b x = false from by simp [fitsZ, *] <;> omega)
    go_enter Tryd.func53, Tryd.ntmps53
    go_wp2_with fail
    go_ret
    exact ⟨ret_bool (Eq.trans (by first | rfl | exact decide_eq_false (by omega) | exact decide_eq_true (by omega)) HZ.out.symm), by (repeat (first | exact Below.refl _ _ | assumption | apply Below.drew | apply below_drewN | (refine Below.alloc ?_ (by simp <;> omega) _) | (refine Below.setCell ?_ (by simp <;> omega) _)))⟩

set_option linter.unusedVariables false in
set_option maxHeartbeats 3200000 in
theorem fits_6 (c : Cfg) (a b x : Int) (w : World) (ha : 0 ≤ a) (hb : 0 ≤ b) (hx : 0 ≤ x) (ha' : a ≤ 4294967295) (hb' : b ≤ 4294967295) (hx' : x ≤ 4294967295) : Calls Tryd.prog 53 #[.agg #[.int .u8 c.ob, .int .i64 c.inst, .int .i64 c.thr, .int .u8 c.kd, .int .i64 c.str, .int .i64 c.bits, .int .i64 c.cap, .int .i64 c.node, .int .i64 c.bat, .int .i64 c.chk, .int .u64 c.lim, .int .u64 c.most], .agg #[.int .u8 6, .int .u32 a, .int .u32 b, .int .u32 x]] w fun e w' => e = .returned (.bool (fitsZ c.bits 6 a b x)) ∧ Below w.heap.size w w' := by
  by_cases h1 : x = 0
  · subst h1
    by_cases h2 : b = 0
    · subst h2
      by_cases h3 : a ≤ 2147483647
      · have HZ := Lib.hid (show fitsZ c.bits 6 a 0 0 = true from by simp [fitsZ, *] <;> omega)
        go_enter Tryd.func53, Tryd.ntmps53
        go_wp2_with fail
        go_ret
        exact ⟨ret_bool (Eq.trans (by first | rfl | exact decide_eq_false (by omega) | exact decide_eq_true (by omega)) HZ.out.symm), by (repeat (first | exact Below.refl _ _ | assumption | apply Below.drew | apply below_drewN | (refine Below.alloc ?_ (by simp <;> omega) _) | (refine Below.setCell ?_ (by simp <;> omega) _)))⟩
      · have HZ := Lib.hid (show fitsZ c.bits 6 a 0 0 = false from by simp [fitsZ, *] <;> omega)
        go_enter Tryd.func53, Tryd.ntmps53
        go_wp2_with fail
        go_ret
        exact ⟨ret_bool (Eq.trans (by first | rfl | exact decide_eq_false (by omega) | exact decide_eq_true (by omega)) HZ.out.symm), by (repeat (first | exact Below.refl _ _ | assumption | apply Below.drew | apply below_drewN | (refine Below.alloc ?_ (by simp <;> omega) _) | (refine Below.setCell ?_ (by simp <;> omega) _)))⟩
    · have e_b : (b == 0) = false := by simp [h2]
      have HZ := Lib.hid (show fitsZ c.bits 6 a b 0 = false from by simp [fitsZ, *] <;> omega)
      go_enter Tryd.func53, Tryd.ntmps53
      go_wp2_with fail
      go_ret
      exact ⟨ret_bool (Eq.trans (by first | rfl | exact decide_eq_false (by omega) | exact decide_eq_true (by omega)) HZ.out.symm), by (repeat (first | exact Below.refl _ _ | assumption | apply Below.drew | apply below_drewN | (refine Below.alloc ?_ (by simp <;> omega) _) | (refine Below.setCell ?_ (by simp <;> omega) _)))⟩
  · have e_x : (x == 0) = false := by simp [h1]
    have HZ := Lib.hid (show fitsZ c.bits 6 a b x = false from by simp [fitsZ, *] <;> omega)
    go_enter Tryd.func53, Tryd.ntmps53
    go_wp2_with fail
    go_ret
    exact ⟨ret_bool (Eq.trans (by first | rfl | exact decide_eq_false (by omega) | exact decide_eq_true (by omega)) HZ.out.symm), by (repeat (first | exact Below.refl _ _ | assumption | apply Below.drew | apply below_drewN | (refine Below.alloc ?_ (by simp <;> omega) _) | (refine Below.setCell ?_ (by simp <;> omega) _)))⟩

set_option linter.unusedVariables false in
set_option maxHeartbeats 3200000 in
theorem fits_7 (c : Cfg) (a b x : Int) (w : World) (ha : 0 ≤ a) (hb : 0 ≤ b) (hx : 0 ≤ x) (ha' : a ≤ 4294967295) (hb' : b ≤ 4294967295) (hx' : x ≤ 4294967295) : Calls Tryd.prog 53 #[.agg #[.int .u8 c.ob, .int .i64 c.inst, .int .i64 c.thr, .int .u8 c.kd, .int .i64 c.str, .int .i64 c.bits, .int .i64 c.cap, .int .i64 c.node, .int .i64 c.bat, .int .i64 c.chk, .int .u64 c.lim, .int .u64 c.most], .agg #[.int .u8 7, .int .u32 a, .int .u32 b, .int .u32 x]] w fun e w' => e = .returned (.bool (fitsZ c.bits 7 a b x)) ∧ Below w.heap.size w w' := by
  by_cases h1 : x = 0
  · subst h1
    by_cases h2 : b = 0
    · subst h2
      by_cases h3 : a ≤ 2147483647
      · have HZ := Lib.hid (show fitsZ c.bits 7 a 0 0 = true from by simp [fitsZ, *] <;> omega)
        go_enter Tryd.func53, Tryd.ntmps53
        go_wp2_with fail
        go_ret
        exact ⟨ret_bool (Eq.trans (by first | rfl | exact decide_eq_false (by omega) | exact decide_eq_true (by omega)) HZ.out.symm), by (repeat (first | exact Below.refl _ _ | assumption | apply Below.drew | apply below_drewN | (refine Below.alloc ?_ (by simp <;> omega) _) | (refine Below.setCell ?_ (by simp <;> omega) _)))⟩
      · have HZ := Lib.hid (show fitsZ c.bits 7 a 0 0 = false from by simp [fitsZ, *] <;> omega)
        go_enter Tryd.func53, Tryd.ntmps53
        go_wp2_with fail
        go_ret
        exact ⟨ret_bool (Eq.trans (by first | rfl | exact decide_eq_false (by omega) | exact decide_eq_true (by omega)) HZ.out.symm), by (repeat (first | exact Below.refl _ _ | assumption | apply Below.drew | apply below_drewN | (refine Below.alloc ?_ (by simp <;> omega) _) | (refine Below.setCell ?_ (by simp <;> omega) _)))⟩
    · have e_b : (b == 0) = false := by simp [h2]
      have HZ := Lib.hid (show fitsZ c.bits 7 a b 0 = false from by simp [fitsZ, *] <;> omega)
      go_enter Tryd.func53, Tryd.ntmps53
      go_wp2_with fail
      go_ret
      exact ⟨ret_bool (Eq.trans (by first | rfl | exact decide_eq_false (by omega) | exact decide_eq_true (by omega)) HZ.out.symm), by (repeat (first | exact Below.refl _ _ | assumption | apply Below.drew | apply below_drewN | (refine Below.alloc ?_ (by simp <;> omega) _) | (refine Below.setCell ?_ (by simp <;> omega) _)))⟩
  · have e_x : (x == 0) = false := by simp [h1]
    have HZ := Lib.hid (show fitsZ c.bits 7 a b x = false from by simp [fitsZ, *] <;> omega)
    go_enter Tryd.func53, Tryd.ntmps53
    go_wp2_with fail
    go_ret
    exact ⟨ret_bool (Eq.trans (by first | rfl | exact decide_eq_false (by omega) | exact decide_eq_true (by omega)) HZ.out.symm), by (repeat (first | exact Below.refl _ _ | assumption | apply Below.drew | apply below_drewN | (refine Below.alloc ?_ (by simp <;> omega) _) | (refine Below.setCell ?_ (by simp <;> omega) _)))⟩

set_option linter.unusedVariables false in
set_option maxHeartbeats 3200000 in
theorem fits_8 (c : Cfg) (a b x : Int) (w : World) (ha : 0 ≤ a) (hb : 0 ≤ b) (hx : 0 ≤ x) (ha' : a ≤ 4294967295) (hb' : b ≤ 4294967295) (hx' : x ≤ 4294967295) : Calls Tryd.prog 53 #[.agg #[.int .u8 c.ob, .int .i64 c.inst, .int .i64 c.thr, .int .u8 c.kd, .int .i64 c.str, .int .i64 c.bits, .int .i64 c.cap, .int .i64 c.node, .int .i64 c.bat, .int .i64 c.chk, .int .u64 c.lim, .int .u64 c.most], .agg #[.int .u8 8, .int .u32 a, .int .u32 b, .int .u32 x]] w fun e w' => e = .returned (.bool (fitsZ c.bits 8 a b x)) ∧ Below w.heap.size w w' := by
  by_cases h1 : x = 0
  · subst h1
    by_cases h2 : a ≤ 2147483647
    · by_cases h3 : b ≤ 2147483647
      · have HZ := Lib.hid (show fitsZ c.bits 8 a b 0 = true from by simp [fitsZ, *] <;> omega)
        go_enter Tryd.func53, Tryd.ntmps53
        go_wp2_with fail
        go_ret
        exact ⟨ret_bool (Eq.trans (by first | rfl | exact decide_eq_false (by omega) | exact decide_eq_true (by omega)) HZ.out.symm), by (repeat (first | exact Below.refl _ _ | assumption | apply Below.drew | apply below_drewN | (refine Below.alloc ?_ (by simp <;> omega) _) | (refine Below.setCell ?_ (by simp <;> omega) _)))⟩
      · have HZ := Lib.hid (show fitsZ c.bits 8 a b 0 = false from by simp [fitsZ, *] <;> omega)
        go_enter Tryd.func53, Tryd.ntmps53
        go_wp2_with fail
        go_ret
        exact ⟨ret_bool (Eq.trans (by first | rfl | exact decide_eq_false (by omega) | exact decide_eq_true (by omega)) HZ.out.symm), by (repeat (first | exact Below.refl _ _ | assumption | apply Below.drew | apply below_drewN | (refine Below.alloc ?_ (by simp <;> omega) _) | (refine Below.setCell ?_ (by simp <;> omega) _)))⟩
    · have HZ := Lib.hid (show fitsZ c.bits 8 a b 0 = false from by simp [fitsZ, *] <;> omega)
      go_enter Tryd.func53, Tryd.ntmps53
      go_wp2_with fail
      go_ret
      exact ⟨ret_bool (Eq.trans (by first | rfl | exact decide_eq_false (by omega) | exact decide_eq_true (by omega)) HZ.out.symm), by (repeat (first | exact Below.refl _ _ | assumption | apply Below.drew | apply below_drewN | (refine Below.alloc ?_ (by simp <;> omega) _) | (refine Below.setCell ?_ (by simp <;> omega) _)))⟩
  · have e_x : (x == 0) = false := by simp [h1]
    have HZ := Lib.hid (show fitsZ c.bits 8 a b x = false from by simp [fitsZ, *] <;> omega)
    go_enter Tryd.func53, Tryd.ntmps53
    go_wp2_with fail
    go_ret
    exact ⟨ret_bool (Eq.trans (by first | rfl | exact decide_eq_false (by omega) | exact decide_eq_true (by omega)) HZ.out.symm), by (repeat (first | exact Below.refl _ _ | assumption | apply Below.drew | apply below_drewN | (refine Below.alloc ?_ (by simp <;> omega) _) | (refine Below.setCell ?_ (by simp <;> omega) _)))⟩

set_option linter.unusedVariables false in
set_option maxHeartbeats 3200000 in
theorem fits_9 (c : Cfg) (a b x : Int) (w : World) (ha : 0 ≤ a) (hb : 0 ≤ b) (hx : 0 ≤ x) (ha' : a ≤ 4294967295) (hb' : b ≤ 4294967295) (hx' : x ≤ 4294967295) : Calls Tryd.prog 53 #[.agg #[.int .u8 c.ob, .int .i64 c.inst, .int .i64 c.thr, .int .u8 c.kd, .int .i64 c.str, .int .i64 c.bits, .int .i64 c.cap, .int .i64 c.node, .int .i64 c.bat, .int .i64 c.chk, .int .u64 c.lim, .int .u64 c.most], .agg #[.int .u8 9, .int .u32 a, .int .u32 b, .int .u32 x]] w fun e w' => e = .returned (.bool (fitsZ c.bits 9 a b x)) ∧ Below w.heap.size w w' := by
  by_cases h1 : x = 1
  · subst h1
    by_cases h2 : a ≤ 65535
    · by_cases h3 : b ≤ 65535
      · have HZ := Lib.hid (show fitsZ c.bits 9 a b 1 = true from by simp [fitsZ, *] <;> omega)
        go_enter Tryd.func53, Tryd.ntmps53
        go_wp2_with fail
        go_ret
        exact ⟨ret_bool (Eq.trans (by first | rfl | exact decide_eq_false (by omega) | exact decide_eq_true (by omega)) HZ.out.symm), by (repeat (first | exact Below.refl _ _ | assumption | apply Below.drew | apply below_drewN | (refine Below.alloc ?_ (by simp <;> omega) _) | (refine Below.setCell ?_ (by simp <;> omega) _)))⟩
      · have HZ := Lib.hid (show fitsZ c.bits 9 a b 1 = false from by simp [fitsZ, *] <;> omega)
        go_enter Tryd.func53, Tryd.ntmps53
        go_wp2_with fail
        go_ret
        exact ⟨ret_bool (Eq.trans (by first | rfl | exact decide_eq_false (by omega) | exact decide_eq_true (by omega)) HZ.out.symm), by (repeat (first | exact Below.refl _ _ | assumption | apply Below.drew | apply below_drewN | (refine Below.alloc ?_ (by simp <;> omega) _) | (refine Below.setCell ?_ (by simp <;> omega) _)))⟩
    · have HZ := Lib.hid (show fitsZ c.bits 9 a b 1 = false from by simp [fitsZ, *] <;> omega)
      go_enter Tryd.func53, Tryd.ntmps53
      go_wp2_with fail
      go_ret
      exact ⟨ret_bool (Eq.trans (by first | rfl | exact decide_eq_false (by omega) | exact decide_eq_true (by omega)) HZ.out.symm), by (repeat (first | exact Below.refl _ _ | assumption | apply Below.drew | apply below_drewN | (refine Below.alloc ?_ (by simp <;> omega) _) | (refine Below.setCell ?_ (by simp <;> omega) _)))⟩
  · by_cases h1' : x = 2
    · subst h1'
      by_cases h2 : a ≤ 65535
      · by_cases h3 : b ≤ 65535
        · have HZ := Lib.hid (show fitsZ c.bits 9 a b 2 = true from by simp [fitsZ, *] <;> omega)
          go_enter Tryd.func53, Tryd.ntmps53
          go_wp2_with fail
          go_ret
          exact ⟨ret_bool (Eq.trans (by first | rfl | exact decide_eq_false (by omega) | exact decide_eq_true (by omega)) HZ.out.symm), by (repeat (first | exact Below.refl _ _ | assumption | apply Below.drew | apply below_drewN | (refine Below.alloc ?_ (by simp <;> omega) _) | (refine Below.setCell ?_ (by simp <;> omega) _)))⟩
        · have HZ := Lib.hid (show fitsZ c.bits 9 a b 2 = false from by simp [fitsZ, *] <;> omega)
          go_enter Tryd.func53, Tryd.ntmps53
          go_wp2_with fail
          go_ret
          exact ⟨ret_bool (Eq.trans (by first | rfl | exact decide_eq_false (by omega) | exact decide_eq_true (by omega)) HZ.out.symm), by (repeat (first | exact Below.refl _ _ | assumption | apply Below.drew | apply below_drewN | (refine Below.alloc ?_ (by simp <;> omega) _) | (refine Below.setCell ?_ (by simp <;> omega) _)))⟩
      · have HZ := Lib.hid (show fitsZ c.bits 9 a b 2 = false from by simp [fitsZ, *] <;> omega)
        go_enter Tryd.func53, Tryd.ntmps53
        go_wp2_with fail
        go_ret
        exact ⟨ret_bool (Eq.trans (by first | rfl | exact decide_eq_false (by omega) | exact decide_eq_true (by omega)) HZ.out.symm), by (repeat (first | exact Below.refl _ _ | assumption | apply Below.drew | apply below_drewN | (refine Below.alloc ?_ (by simp <;> omega) _) | (refine Below.setCell ?_ (by simp <;> omega) _)))⟩
    · have e_1 : (x == 1) = false := by simp; omega
      have e_2 : (x == 2) = false := by simp; omega
      have HZ := Lib.hid (show fitsZ c.bits 9 a b x = false from by simp [fitsZ, *] <;> omega)
      go_enter Tryd.func53, Tryd.ntmps53
      go_wp2_with fail
      go_ret
      exact ⟨ret_bool (Eq.trans (by first | rfl | exact decide_eq_false (by omega) | exact decide_eq_true (by omega)) HZ.out.symm), by (repeat (first | exact Below.refl _ _ | assumption | apply Below.drew | apply below_drewN | (refine Below.alloc ?_ (by simp <;> omega) _) | (refine Below.setCell ?_ (by simp <;> omega) _)))⟩

set_option linter.unusedVariables false in
set_option maxHeartbeats 3200000 in
theorem fits_10 (c : Cfg) (a b x : Int) (w : World) (ha : 0 ≤ a) (hb : 0 ≤ b) (hx : 0 ≤ x) (ha' : a ≤ 4294967295) (hb' : b ≤ 4294967295) (hx' : x ≤ 4294967295) : Calls Tryd.prog 53 #[.agg #[.int .u8 c.ob, .int .i64 c.inst, .int .i64 c.thr, .int .u8 c.kd, .int .i64 c.str, .int .i64 c.bits, .int .i64 c.cap, .int .i64 c.node, .int .i64 c.bat, .int .i64 c.chk, .int .u64 c.lim, .int .u64 c.most], .agg #[.int .u8 10, .int .u32 a, .int .u32 b, .int .u32 x]] w fun e w' => e = .returned (.bool (fitsZ c.bits 10 a b x)) ∧ Below w.heap.size w w' := by
  by_cases h1 : x = 0
  · subst h1
    by_cases h2 : a ≤ 65535
    · by_cases h3 : b ≤ 65535
      · have HZ := Lib.hid (show fitsZ c.bits 10 a b 0 = true from by simp [fitsZ, *] <;> omega)
        go_enter Tryd.func53, Tryd.ntmps53
        go_wp2_with fail
        go_ret
        exact ⟨ret_bool (Eq.trans (by first | rfl | exact decide_eq_false (by omega) | exact decide_eq_true (by omega)) HZ.out.symm), by (repeat (first | exact Below.refl _ _ | assumption | apply Below.drew | apply below_drewN | (refine Below.alloc ?_ (by simp <;> omega) _) | (refine Below.setCell ?_ (by simp <;> omega) _)))⟩
      · have HZ := Lib.hid (show fitsZ c.bits 10 a b 0 = false from by simp [fitsZ, *] <;> omega)
        go_enter Tryd.func53, Tryd.ntmps53
        go_wp2_with fail
        go_ret
        exact ⟨ret_bool (Eq.trans (by first | rfl | exact decide_eq_false (by omega) | exact decide_eq_true (by omega)) HZ.out.symm), by (repeat (first | exact Below.refl _ _ | assumption | apply Below.drew | apply below_drewN | (refine Below.alloc ?_ (by simp <;> omega) _) | (refine Below.setCell ?_ (by simp <;> omega) _)))⟩
    · have HZ := Lib.hid (show fitsZ c.bits 10 a b 0 = false from by simp [fitsZ, *] <;> omega)
      go_enter Tryd.func53, Tryd.ntmps53
      go_wp2_with fail
      go_ret
      exact ⟨ret_bool (Eq.trans (by first | rfl | exact decide_eq_false (by omega) | exact decide_eq_true (by omega)) HZ.out.symm), by (repeat (first | exact Below.refl _ _ | assumption | apply Below.drew | apply below_drewN | (refine Below.alloc ?_ (by simp <;> omega) _) | (refine Below.setCell ?_ (by simp <;> omega) _)))⟩
  · have e_x : (x == 0) = false := by simp [h1]
    have HZ := Lib.hid (show fitsZ c.bits 10 a b x = false from by simp [fitsZ, *] <;> omega)
    go_enter Tryd.func53, Tryd.ntmps53
    go_wp2_with fail
    go_ret
    exact ⟨ret_bool (Eq.trans (by first | rfl | exact decide_eq_false (by omega) | exact decide_eq_true (by omega)) HZ.out.symm), by (repeat (first | exact Below.refl _ _ | assumption | apply Below.drew | apply below_drewN | (refine Below.alloc ?_ (by simp <;> omega) _) | (refine Below.setCell ?_ (by simp <;> omega) _)))⟩

set_option linter.unusedVariables false in
set_option maxHeartbeats 3200000 in
theorem fits_11 (c : Cfg) (a b x : Int) (w : World) (ha : 0 ≤ a) (hb : 0 ≤ b) (hx : 0 ≤ x) (ha' : a ≤ 4294967295) (hb' : b ≤ 4294967295) (hx' : x ≤ 4294967295) : Calls Tryd.prog 53 #[.agg #[.int .u8 c.ob, .int .i64 c.inst, .int .i64 c.thr, .int .u8 c.kd, .int .i64 c.str, .int .i64 c.bits, .int .i64 c.cap, .int .i64 c.node, .int .i64 c.bat, .int .i64 c.chk, .int .u64 c.lim, .int .u64 c.most], .agg #[.int .u8 11, .int .u32 a, .int .u32 b, .int .u32 x]] w fun e w' => e = .returned (.bool (fitsZ c.bits 11 a b x)) ∧ Below w.heap.size w w' := by
  by_cases h1 : x = 0
  · subst h1
    by_cases h2 : a = 0
    · subst h2
      have HZ := Lib.hid (show fitsZ c.bits 11 0 b 0 = false from by simp [fitsZ, *] <;> omega)
      go_enter Tryd.func53, Tryd.ntmps53
      go_wp2_with fail
      go_ret
      exact ⟨ret_bool (Eq.trans (by first | rfl | exact decide_eq_false (by omega) | exact decide_eq_true (by omega)) HZ.out.symm), by (repeat (first | exact Below.refl _ _ | assumption | apply Below.drew | apply below_drewN | (refine Below.alloc ?_ (by simp <;> omega) _) | (refine Below.setCell ?_ (by simp <;> omega) _)))⟩
    · have a1 : 1 ≤ a := by omega
      by_cases h2' : a ≤ 65535
      · by_cases h3 : b = 0
        · subst h3
          have HZ := Lib.hid (show fitsZ c.bits 11 a 0 0 = false from by simp [fitsZ, *] <;> omega)
          go_enter Tryd.func53, Tryd.ntmps53
          go_wp2_with fail
          go_ret
          exact ⟨ret_bool (Eq.trans (by first | rfl | exact decide_eq_false (by omega) | exact decide_eq_true (by omega)) HZ.out.symm), by (repeat (first | exact Below.refl _ _ | assumption | apply Below.drew | apply below_drewN | (refine Below.alloc ?_ (by simp <;> omega) _) | (refine Below.setCell ?_ (by simp <;> omega) _)))⟩
        · have b1 : 1 ≤ b := by omega
          by_cases h3' : b ≤ 65535
          · have HZ := Lib.hid (show fitsZ c.bits 11 a b 0 = true from by simp [fitsZ, *] <;> omega)
            go_enter Tryd.func53, Tryd.ntmps53
            go_wp2_with fail
            go_ret
            exact ⟨ret_bool (Eq.trans (by first | rfl | exact decide_eq_false (by omega) | exact decide_eq_true (by omega)) HZ.out.symm), by (repeat (first | exact Below.refl _ _ | assumption | apply Below.drew | apply below_drewN | (refine Below.alloc ?_ (by simp <;> omega) _) | (refine Below.setCell ?_ (by simp <;> omega) _)))⟩
          · have HZ := Lib.hid (show fitsZ c.bits 11 a b 0 = false from by simp [fitsZ, *] <;> omega)
            go_enter Tryd.func53, Tryd.ntmps53
            go_wp2_with fail
            go_ret
            exact ⟨ret_bool (Eq.trans (by first | rfl | exact decide_eq_false (by omega) | exact decide_eq_true (by omega)) HZ.out.symm), by (repeat (first | exact Below.refl _ _ | assumption | apply Below.drew | apply below_drewN | (refine Below.alloc ?_ (by simp <;> omega) _) | (refine Below.setCell ?_ (by simp <;> omega) _)))⟩
      · have HZ := Lib.hid (show fitsZ c.bits 11 a b 0 = false from by simp [fitsZ, *] <;> omega)
        go_enter Tryd.func53, Tryd.ntmps53
        go_wp2_with fail
        go_ret
        exact ⟨ret_bool (Eq.trans (by first | rfl | exact decide_eq_false (by omega) | exact decide_eq_true (by omega)) HZ.out.symm), by (repeat (first | exact Below.refl _ _ | assumption | apply Below.drew | apply below_drewN | (refine Below.alloc ?_ (by simp <;> omega) _) | (refine Below.setCell ?_ (by simp <;> omega) _)))⟩
  · have e_x : (x == 0) = false := by simp [h1]
    have HZ := Lib.hid (show fitsZ c.bits 11 a b x = false from by simp [fitsZ, *] <;> omega)
    go_enter Tryd.func53, Tryd.ntmps53
    go_wp2_with fail
    go_ret
    exact ⟨ret_bool (Eq.trans (by first | rfl | exact decide_eq_false (by omega) | exact decide_eq_true (by omega)) HZ.out.symm), by (repeat (first | exact Below.refl _ _ | assumption | apply Below.drew | apply below_drewN | (refine Below.alloc ?_ (by simp <;> omega) _) | (refine Below.setCell ?_ (by simp <;> omega) _)))⟩

set_option linter.unusedVariables false in
set_option maxHeartbeats 3200000 in
theorem fits_12 (c : Cfg) (a b x : Int) (w : World) (ha : 0 ≤ a) (hb : 0 ≤ b) (hx : 0 ≤ x) (ha' : a ≤ 4294967295) (hb' : b ≤ 4294967295) (hx' : x ≤ 4294967295) : Calls Tryd.prog 53 #[.agg #[.int .u8 c.ob, .int .i64 c.inst, .int .i64 c.thr, .int .u8 c.kd, .int .i64 c.str, .int .i64 c.bits, .int .i64 c.cap, .int .i64 c.node, .int .i64 c.bat, .int .i64 c.chk, .int .u64 c.lim, .int .u64 c.most], .agg #[.int .u8 12, .int .u32 a, .int .u32 b, .int .u32 x]] w fun e w' => e = .returned (.bool (fitsZ c.bits 12 a b x)) ∧ Below w.heap.size w w' := by
  by_cases h1 : x ≤ 2147483647
  · cases hp : pathZ a b with
    | true =>
      have HP := Lib.hid hp
      have HZ := Lib.hid (show fitsZ c.bits 12 a b x = true from by simp [fitsZ, *] <;> omega)
      clear hp
      go_enter Tryd.func53, Tryd.ntmps53
      go_wp2_with (go_at_call 70; refine (path_any a b _ ha hb ha' hb').mono ?_; rw [HP.out]; rintro e w' ⟨rfl, rfl⟩)
      go_ret
      exact ⟨ret_bool (Eq.trans (by first | rfl | exact decide_eq_false (by omega) | exact decide_eq_true (by omega)) HZ.out.symm), by (repeat (first | exact Below.refl _ _ | assumption | apply Below.drew | apply below_drewN | (refine Below.alloc ?_ (by simp <;> omega) _) | (refine Below.setCell ?_ (by simp <;> omega) _)))⟩
    | false =>
      have HP := Lib.hid hp
      have HZ := Lib.hid (show fitsZ c.bits 12 a b x = false from by simp [fitsZ, *] <;> omega)
      clear hp
      go_enter Tryd.func53, Tryd.ntmps53
      go_wp2_with (go_at_call 70; refine (path_any a b _ ha hb ha' hb').mono ?_; rw [HP.out]; rintro e w' ⟨rfl, rfl⟩)
      go_ret
      exact ⟨ret_bool (Eq.trans (by first | rfl | exact decide_eq_false (by omega) | exact decide_eq_true (by omega)) HZ.out.symm), by (repeat (first | exact Below.refl _ _ | assumption | apply Below.drew | apply below_drewN | (refine Below.alloc ?_ (by simp <;> omega) _) | (refine Below.setCell ?_ (by simp <;> omega) _)))⟩
  · have HZ := Lib.hid (show fitsZ c.bits 12 a b x = false from by simp [fitsZ, *] <;> omega)
    go_enter Tryd.func53, Tryd.ntmps53
    go_wp2_with fail
    go_ret
    exact ⟨ret_bool (Eq.trans (by first | rfl | exact decide_eq_false (by omega) | exact decide_eq_true (by omega)) HZ.out.symm), by (repeat (first | exact Below.refl _ _ | assumption | apply Below.drew | apply below_drewN | (refine Below.alloc ?_ (by simp <;> omega) _) | (refine Below.setCell ?_ (by simp <;> omega) _)))⟩

set_option linter.unusedVariables false in
set_option maxHeartbeats 3200000 in
theorem fits_13 (c : Cfg) (a b x : Int) (w : World) (ha : 0 ≤ a) (hb : 0 ≤ b) (hx : 0 ≤ x) (ha' : a ≤ 4294967295) (hb' : b ≤ 4294967295) (hx' : x ≤ 4294967295) : Calls Tryd.prog 53 #[.agg #[.int .u8 c.ob, .int .i64 c.inst, .int .i64 c.thr, .int .u8 c.kd, .int .i64 c.str, .int .i64 c.bits, .int .i64 c.cap, .int .i64 c.node, .int .i64 c.bat, .int .i64 c.chk, .int .u64 c.lim, .int .u64 c.most], .agg #[.int .u8 13, .int .u32 a, .int .u32 b, .int .u32 x]] w fun e w' => e = .returned (.bool (fitsZ c.bits 13 a b x)) ∧ Below w.heap.size w w' := by
  by_cases h1 : x = 0
  · subst h1
    cases hp : pathZ a b with
    | true =>
      have HP := Lib.hid hp
      have HZ := Lib.hid (show fitsZ c.bits 13 a b 0 = true from by simp [fitsZ, *] <;> omega)
      clear hp
      go_enter Tryd.func53, Tryd.ntmps53
      go_wp2_with (go_at_call 70; refine (path_any a b _ ha hb ha' hb').mono ?_; rw [HP.out]; rintro e w' ⟨rfl, rfl⟩)
      go_ret
      exact ⟨ret_bool (Eq.trans (by first | rfl | exact decide_eq_false (by omega) | exact decide_eq_true (by omega)) HZ.out.symm), by (repeat (first | exact Below.refl _ _ | assumption | apply Below.drew | apply below_drewN | (refine Below.alloc ?_ (by simp <;> omega) _) | (refine Below.setCell ?_ (by simp <;> omega) _)))⟩
    | false =>
      have HP := Lib.hid hp
      have HZ := Lib.hid (show fitsZ c.bits 13 a b 0 = false from by simp [fitsZ, *] <;> omega)
      clear hp
      go_enter Tryd.func53, Tryd.ntmps53
      go_wp2_with (go_at_call 70; refine (path_any a b _ ha hb ha' hb').mono ?_; rw [HP.out]; rintro e w' ⟨rfl, rfl⟩)
      go_ret
      exact ⟨ret_bool (Eq.trans (by first | rfl | exact decide_eq_false (by omega) | exact decide_eq_true (by omega)) HZ.out.symm), by (repeat (first | exact Below.refl _ _ | assumption | apply Below.drew | apply below_drewN | (refine Below.alloc ?_ (by simp <;> omega) _) | (refine Below.setCell ?_ (by simp <;> omega) _)))⟩
  · have e_x : (x == 0) = false := by simp [h1]
    have HZ := Lib.hid (show fitsZ c.bits 13 a b x = false from by simp [fitsZ, *] <;> omega)
    go_enter Tryd.func53, Tryd.ntmps53
    go_wp2_with fail
    go_ret
    exact ⟨ret_bool (Eq.trans (by first | rfl | exact decide_eq_false (by omega) | exact decide_eq_true (by omega)) HZ.out.symm), by (repeat (first | exact Below.refl _ _ | assumption | apply Below.drew | apply below_drewN | (refine Below.alloc ?_ (by simp <;> omega) _) | (refine Below.setCell ?_ (by simp <;> omega) _)))⟩

set_option linter.unusedVariables false in
set_option maxHeartbeats 3200000 in
theorem fits_14 (c : Cfg) (a b x : Int) (w : World) (ha : 0 ≤ a) (hb : 0 ≤ b) (hx : 0 ≤ x) (ha' : a ≤ 4294967295) (hb' : b ≤ 4294967295) (hx' : x ≤ 4294967295) : Calls Tryd.prog 53 #[.agg #[.int .u8 c.ob, .int .i64 c.inst, .int .i64 c.thr, .int .u8 c.kd, .int .i64 c.str, .int .i64 c.bits, .int .i64 c.cap, .int .i64 c.node, .int .i64 c.bat, .int .i64 c.chk, .int .u64 c.lim, .int .u64 c.most], .agg #[.int .u8 14, .int .u32 a, .int .u32 b, .int .u32 x]] w fun e w' => e = .returned (.bool (fitsZ c.bits 14 a b x)) ∧ Below w.heap.size w w' := by
  by_cases h1 : x = 0
  · subst h1
    cases hp : pathZ a b with
    | true =>
      have HP := Lib.hid hp
      have HZ := Lib.hid (show fitsZ c.bits 14 a b 0 = true from by simp [fitsZ, *] <;> omega)
      clear hp
      go_enter Tryd.func53, Tryd.ntmps53
      go_wp2_with (go_at_call 70; refine (path_any a b _ ha hb ha' hb').mono ?_; rw [HP.out]; rintro e w' ⟨rfl, rfl⟩)
      go_ret
      exact ⟨ret_bool (Eq.trans (by first | rfl | exact decide_eq_false (by omega) | exact decide_eq_true (by omega)) HZ.out.symm), by (repeat (first | exact Below.refl _ _ | assumption | apply Below.drew | apply below_drewN | (refine Below.alloc ?_ (by simp <;> omega) _) | (refine Below.setCell ?_ (by simp <;> omega) _)))⟩
    | false =>
      have HP := Lib.hid hp
      have HZ := Lib.hid (show fitsZ c.bits 14 a b 0 = false from by simp [fitsZ, *] <;> omega)
      clear hp
      go_enter Tryd.func53, Tryd.ntmps53
      go_wp2_with (go_at_call 70; refine (path_any a b _ ha hb ha' hb').mono ?_; rw [HP.out]; rintro e w' ⟨rfl, rfl⟩)
      go_ret
      exact ⟨ret_bool (Eq.trans (by first | rfl | exact decide_eq_false (by omega) | exact decide_eq_true (by omega)) HZ.out.symm), by (repeat (first | exact Below.refl _ _ | assumption | apply Below.drew | apply below_drewN | (refine Below.alloc ?_ (by simp <;> omega) _) | (refine Below.setCell ?_ (by simp <;> omega) _)))⟩
  · have e_x : (x == 0) = false := by simp [h1]
    have HZ := Lib.hid (show fitsZ c.bits 14 a b x = false from by simp [fitsZ, *] <;> omega)
    go_enter Tryd.func53, Tryd.ntmps53
    go_wp2_with fail
    go_ret
    exact ⟨ret_bool (Eq.trans (by first | rfl | exact decide_eq_false (by omega) | exact decide_eq_true (by omega)) HZ.out.symm), by (repeat (first | exact Below.refl _ _ | assumption | apply Below.drew | apply below_drewN | (refine Below.alloc ?_ (by simp <;> omega) _) | (refine Below.setCell ?_ (by simp <;> omega) _)))⟩

end Go.Proofs.YtecjbgddjejjdaaDoor
