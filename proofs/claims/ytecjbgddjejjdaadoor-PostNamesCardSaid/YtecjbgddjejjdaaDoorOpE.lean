/- Chapter 5: the reference's prefix, path, Fits. -/
import Derived.Test.YtecjbgddjejjdaaDoorOpC
import Derived.IntWalk
import Derived.WalkSmall
namespace Go.Proofs.YtecjbgddjejjdaaDoor
open Go.RowKit

theorem prefix_any (bits a b : Int) (w : World) (h0 : 0 ≤ bits) (h6 : bits ≤ 6) (hb : 0 ≤ b) : Calls Tryd.prog 74 #[.int .i64 bits, .int .u32 a, .int .u32 b] w fun e w' => e = .returned (.bool (prefZ bits a b)) ∧ w = w' := by
  by_cases hle : b ≤ bits
  · obtain ⟨n, rfl⟩ := Int.eq_ofNat_of_zero_le hb
    have hn : n ≤ 6 := by omega
    have HZ := Lib.hid (show prefZ bits a n = decide (a < (2 ^ n : Nat)) from by unfold prefZ; rw [decide_eq_true hle, Bool.true_and]; rfl)
    go_enter Tryd.func74, Tryd.ntmps74
    go_wp2_with fail
    go_loop [7, 8] (fun s i => ∃ j : Nat, j ≤ n ∧ i = .int .u32 j ∧ s = .int .u32 (2 ^ j : Nat)) (fun _ i => 7 - (intOf i).toNat)
    case atStart => exact ⟨0, by omega, rfl, rfl⟩
    case round =>
      obtain ⟨j, hj, rfl, rfl⟩ := hrel
      have hs := pow6 j (by omega)
      by_cases hlt : j < n
      · have HS := Lib.hid (show 2 ^ (j + 1) = 2 * 2 ^ j from by rw [Nat.pow_succ]; omega)
        generalize hx : 2 ^ j = x at *
        clear hx
        go_wp2_with fail
        go_round
        case rel => exact ⟨j + 1, by omega, by go_num, by rw [HS.out]; go_num⟩
        case measure => simp [intOf]; omega
      · obtain rfl : j = n := by omega
        generalize hx : 2 ^ j = x at *
        clear hx
        go_wp2_with fail
        go_ret
        exact ⟨ret_bool (by rw [HZ.out]), rfl⟩
  · have HZ := Lib.hid (show prefZ bits a b = false from by unfold prefZ; rw [decide_eq_false hle, Bool.false_and])
    have hgt : bits < b := by omega
    clear hle
    go_enter Tryd.func74, Tryd.ntmps74
    go_wp2_with fail
    go_ret
    exact ⟨ret_bool (by rw [HZ.out]), rfl⟩

theorem rNames_any (k a b x : Int) (w : World) (ha : 0 ≤ a) (ha' : a ≤ 4294967295) : Calls Tryd.prog 82 #[.agg #[.int .u8 k, .int .u32 a, .int .u32 b, .int .u32 x]] w fun e w' => e = .returned (.agg #[.int .u32 (a % 65536), .int .u32 (a / 65536), .int .u32 b]) ∧ Below w.heap.size w w' := by
  go_enter Tryd.func82, Tryd.ntmps82
  go_wp2_with fail
  refine bodyPost_ret (v := .agg #[.int .u32 (a % 65536), .int .u32 (a / 65536), .int .u32 b]) (by simp [results, Tryd.f82, go_sem]) rfl ⟨rfl, by (repeat (first | exact Below.refl _ _ | assumption | apply Below.drew | apply below_drewN | (refine Below.alloc ?_ (by simp <;> omega) _) | (refine Below.setCell ?_ (by simp <;> omega) _)))⟩

set_option maxHeartbeats 1600000 in
theorem rpath_any (k a b x : Int) (w : World) (ha : 0 ≤ a) (ha' : a ≤ 4294967295) : Calls Tryd.prog 75 #[.agg #[.int .u8 k, .int .u32 a, .int .u32 b, .int .u32 x]] w fun e w' => e = .returned (.bool (pathZ a b)) ∧ Below w.heap.size w w' := by
  have HZ0 := Lib.hid (show pathZ a b = (!(a % 65536 == 0) && decide (b ≤ 65535) && (!(a / 65536 == 0) || b == 0)) from rfl)
  have HA := Lib.hid ha; have HA' := Lib.hid ha'
  go_enter Tryd.func75, Tryd.ntmps75
  go_wp2_with fail
  have HB := Lib.hid (newB w (.cells #[.int .u8 k, .int .u32 a, .int .u32 b, .int .u32 x] 27))
  generalize w.alloc _ = V at *
  refine (rNames_any k a b x V HA.out HA'.out).mono ?_
  rintro e w1 ⟨rfl, hb⟩
  have HB := Lib.hid (keepB hb HB.out)
  clear hb
  generalize a % 65536 = f at *
  generalize a / 65536 = s at *
  by_cases h1 : f = 0
  · have e1 : (f != 0) = false := by simp [h1]
    have HZ := Lib.hid (show pathZ a b = false by rw [HZ0.out]; simp [h1])
    clear h1
    go_wp2_with fail
    go_ret
    exact ⟨ret_bool (by rw [HZ.out]), moreB HB.out _⟩
  · have e1 : (f != 0) = true := by simp [h1]
    by_cases h4 : b ≤ 65535
    · by_cases h2 : s = 0
      · have e2 : (s != 0) = false := by simp [h2]
        by_cases h3 : b = 0
        · subst h3
          have HZ := Lib.hid (show pathZ a 0 = true by rw [HZ0.out]; simp [h1])
          clear h1 h2
          go_wp2_with fail
          go_ret
          exact ⟨ret_bool (by rw [HZ.out]), moreB HB.out _⟩
        · have e3 : (b == 0) = false := by simp [h3]
          have HZ := Lib.hid (show pathZ a b = false by rw [HZ0.out]; simp [h2, h3])
          clear h1 h2 h3
          go_wp2_with fail
          go_ret
          exact ⟨ret_bool (by rw [HZ.out]), moreB HB.out _⟩
      · have e2 : (s != 0) = true := by simp [h2]
        have HZ := Lib.hid (show pathZ a b = true by rw [HZ0.out]; simp [h1, h2, h4])
        clear h1 h2
        go_wp2_with fail
        go_ret
        exact ⟨ret_bool (by rw [HZ.out]), moreB HB.out _⟩
    · have HZ := Lib.hid (show pathZ a b = false by rw [HZ0.out]; simp [h4])
      clear h1
      go_wp2_with fail
      go_ret
      exact ⟨ret_bool (Eq.trans (by first | rfl | exact decide_eq_false (by omega)) HZ.out.symm), moreB HB.out _⟩

set_option linter.unusedVariables false in
set_option maxRecDepth 100000 in
set_option maxHeartbeats 3200000 in
theorem rfits_1 (c : Cfg) (a b x : Int) (w : World) (ha : 0 ≤ a) (hb : 0 ≤ b) (hx : 0 ≤ x) (ha' : a ≤ 4294967295) (hb' : b ≤ 4294967295) (hx' : x ≤ 4294967295) (hB0 : 0 ≤ c.bits) (hB6 : c.bits ≤ 6) : Calls Tryd.prog 56 #[.agg #[.int .u8 c.ob, .int .i64 c.inst, .int .i64 c.thr, .int .u8 c.kd, .int .i64 c.str, .int .i64 c.bits, .int .i64 c.cap, .int .i64 c.node, .int .i64 c.bat, .int .i64 c.chk, .int .u64 c.lim, .int .u64 c.most], .agg #[.int .u8 1, .int .u32 a, .int .u32 b, .int .u32 x]] w fun e w' => e = .returned (.bool (fitsZ c.bits 1 a b x)) ∧ Below w.heap.size w w' := by
  cases hp : prefZ c.bits a b with
  | true =>
    have HP := Lib.hid hp
    by_cases h1 : x ≤ 2147483647
    · have HZ := Lib.hid (show fitsZ c.bits 1 a b x = true from by simp [fitsZ, *])
      clear hp
      go_enter Tryd.func56, Tryd.ntmps56
      go_wp2_with (go_at_call 74; refine (prefix_any c.bits a b _ hB0 hB6 (by omega)).mono ?_; rw [HP.out]; rintro e w' ⟨rfl, rfl⟩)
      all_goals go_ret
      all_goals exact ⟨ret_bool (Eq.trans (by first | rfl | exact decide_eq_false (by omega) | exact decide_eq_true (by omega)) HZ.out.symm), by (repeat (first | exact Below.refl _ _ | assumption | apply Below.drew | apply below_drewN | (refine Below.alloc ?_ (by simp <;> omega) _) | (refine Below.setCell ?_ (by simp <;> omega) _)))⟩
    · have HZ := Lib.hid (show fitsZ c.bits 1 a b x = false from by simp [fitsZ, *])
      clear hp
      go_enter Tryd.func56, Tryd.ntmps56
      go_wp2_with (go_at_call 74; refine (prefix_any c.bits a b _ hB0 hB6 (by omega)).mono ?_; rw [HP.out]; rintro e w' ⟨rfl, rfl⟩)
      all_goals go_ret
      all_goals exact ⟨ret_bool (Eq.trans (by first | rfl | exact decide_eq_false (by omega) | exact decide_eq_true (by omega)) HZ.out.symm), by (repeat (first | exact Below.refl _ _ | assumption | apply Below.drew | apply below_drewN | (refine Below.alloc ?_ (by simp <;> omega) _) | (refine Below.setCell ?_ (by simp <;> omega) _)))⟩
  | false =>
    have HP := Lib.hid hp
    by_cases h1 : x ≤ 2147483647
    · have HZ := Lib.hid (show fitsZ c.bits 1 a b x = false from by simp [fitsZ, *])
      clear hp
      go_enter Tryd.func56, Tryd.ntmps56
      go_wp2_with (go_at_call 74; refine (prefix_any c.bits a b _ hB0 hB6 (by omega)).mono ?_; rw [HP.out]; rintro e w' ⟨rfl, rfl⟩)
      all_goals go_ret
      all_goals exact ⟨ret_bool (Eq.trans (by first | rfl | exact decide_eq_false (by omega) | exact decide_eq_true (by omega)) HZ.out.symm), by (repeat (first | exact Below.refl _ _ | assumption | apply Below.drew | apply below_drewN | (refine Below.alloc ?_ (by simp <;> omega) _) | (refine Below.setCell ?_ (by simp <;> omega) _)))⟩
    · have HZ := Lib.hid (show fitsZ c.bits 1 a b x = false from by simp [fitsZ, *])
      clear hp
      go_enter Tryd.func56, Tryd.ntmps56
      go_wp2_with (go_at_call 74; refine (prefix_any c.bits a b _ hB0 hB6 (by omega)).mono ?_; rw [HP.out]; rintro e w' ⟨rfl, rfl⟩)
      all_goals go_ret
      all_goals exact ⟨ret_bool (Eq.trans (by first | rfl | exact decide_eq_false (by omega) | exact decide_eq_true (by omega)) HZ.out.symm), by (repeat (first | exact Below.refl _ _ | assumption | apply Below.drew | apply below_drewN | (refine Below.alloc ?_ (by simp <;> omega) _) | (refine Below.setCell ?_ (by simp <;> omega) _)))⟩

set_option linter.unusedVariables false in
set_option maxRecDepth 100000 in
set_option maxHeartbeats 3200000 in
theorem rfits_2 (c : Cfg) (a b x : Int) (w : World) (ha : 0 ≤ a) (hb : 0 ≤ b) (hx : 0 ≤ x) (ha' : a ≤ 4294967295) (hb' : b ≤ 4294967295) (hx' : x ≤ 4294967295) (hB0 : 0 ≤ c.bits) (hB6 : c.bits ≤ 6) : Calls Tryd.prog 56 #[.agg #[.int .u8 c.ob, .int .i64 c.inst, .int .i64 c.thr, .int .u8 c.kd, .int .i64 c.str, .int .i64 c.bits, .int .i64 c.cap, .int .i64 c.node, .int .i64 c.bat, .int .i64 c.chk, .int .u64 c.lim, .int .u64 c.most], .agg #[.int .u8 2, .int .u32 a, .int .u32 b, .int .u32 x]] w fun e w' => e = .returned (.bool (fitsZ c.bits 2 a b x)) ∧ Below w.heap.size w w' := by
  cases hp : prefZ c.bits a b with
  | true =>
    have HP := Lib.hid hp
    by_cases h1 : x = 0
    · subst h1
      have HZ := Lib.hid (show fitsZ c.bits 2 a b 0 = true from by simp [fitsZ, *])
      clear hp
      go_enter Tryd.func56, Tryd.ntmps56
      go_wp2_with (go_at_call 74; refine (prefix_any c.bits a b _ hB0 hB6 (by omega)).mono ?_; rw [HP.out]; rintro e w' ⟨rfl, rfl⟩)
      all_goals go_ret
      all_goals exact ⟨ret_bool (Eq.trans (by first | rfl | exact decide_eq_false (by omega) | exact decide_eq_true (by omega)) HZ.out.symm), by (repeat (first | exact Below.refl _ _ | assumption | apply Below.drew | apply below_drewN | (refine Below.alloc ?_ (by simp <;> omega) _) | (refine Below.setCell ?_ (by simp <;> omega) _)))⟩
    · have e_x : (x == 0) = false := by simp [h1]
      have HZ := Lib.hid (show fitsZ c.bits 2 a b x = false from by simp [fitsZ, *])
      clear hp
      go_enter Tryd.func56, Tryd.ntmps56
      go_wp2_with (go_at_call 74; refine (prefix_any c.bits a b _ hB0 hB6 (by omega)).mono ?_; rw [HP.out]; rintro e w' ⟨rfl, rfl⟩)
      all_goals go_ret
      all_goals exact ⟨ret_bool (Eq.trans (by first | rfl | exact decide_eq_false (by omega) | exact decide_eq_true (by omega)) HZ.out.symm), by (repeat (first | exact Below.refl _ _ | assumption | apply Below.drew | apply below_drewN | (refine Below.alloc ?_ (by simp <;> omega) _) | (refine Below.setCell ?_ (by simp <;> omega) _)))⟩
  | false =>
    have HP := Lib.hid hp
    by_cases h1 : x = 0
    · subst h1
      have HZ := Lib.hid (show fitsZ c.bits 2 a b 0 = false from by simp [fitsZ, *])
      clear hp
      go_enter Tryd.func56, Tryd.ntmps56
      go_wp2_with (go_at_call 74; refine (prefix_any c.bits a b _ hB0 hB6 (by omega)).mono ?_; rw [HP.out]; rintro e w' ⟨rfl, rfl⟩)
      all_goals go_ret
      all_goals exact ⟨ret_bool (Eq.trans (by first | rfl | exact decide_eq_false (by omega) | exact decide_eq_true (by omega)) HZ.out.symm), by (repeat (first | exact Below.refl _ _ | assumption | apply Below.drew | apply below_drewN | (refine Below.alloc ?_ (by simp <;> omega) _) | (refine Below.setCell ?_ (by simp <;> omega) _)))⟩
    · have e_x : (x == 0) = false := by simp [h1]
      have HZ := Lib.hid (show fitsZ c.bits 2 a b x = false from by simp [fitsZ, *])
      clear hp
      go_enter Tryd.func56, Tryd.ntmps56
      go_wp2_with (go_at_call 74; refine (prefix_any c.bits a b _ hB0 hB6 (by omega)).mono ?_; rw [HP.out]; rintro e w' ⟨rfl, rfl⟩)
      all_goals go_ret
      all_goals exact ⟨ret_bool (Eq.trans (by first | rfl | exact decide_eq_false (by omega) | exact decide_eq_true (by omega)) HZ.out.symm), by (repeat (first | exact Below.refl _ _ | assumption | apply Below.drew | apply below_drewN | (refine Below.alloc ?_ (by simp <;> omega) _) | (refine Below.setCell ?_ (by simp <;> omega) _)))⟩

set_option linter.unusedVariables false in
set_option maxRecDepth 100000 in
set_option maxHeartbeats 3200000 in
theorem rfits_3 (c : Cfg) (a b x : Int) (w : World) (ha : 0 ≤ a) (hb : 0 ≤ b) (hx : 0 ≤ x) (ha' : a ≤ 4294967295) (hb' : b ≤ 4294967295) (hx' : x ≤ 4294967295) (hB0 : 0 ≤ c.bits) (hB6 : c.bits ≤ 6) : Calls Tryd.prog 56 #[.agg #[.int .u8 c.ob, .int .i64 c.inst, .int .i64 c.thr, .int .u8 c.kd, .int .i64 c.str, .int .i64 c.bits, .int .i64 c.cap, .int .i64 c.node, .int .i64 c.bat, .int .i64 c.chk, .int .u64 c.lim, .int .u64 c.most], .agg #[.int .u8 3, .int .u32 a, .int .u32 b, .int .u32 x]] w fun e w' => e = .returned (.bool (fitsZ c.bits 3 a b x)) ∧ Below w.heap.size w w' := by
  cases hp : prefZ c.bits a c.bits with
  | true =>
    have HP := Lib.hid hp
    by_cases h1 : x = 0
    · subst h1
      by_cases h2 : b = 0
      · subst h2
        have HZ := Lib.hid (show fitsZ c.bits 3 a 0 0 = true from by simp [fitsZ, *])
        clear hp
        go_enter Tryd.func56, Tryd.ntmps56
        go_wp2_with (go_at_call 74; refine (prefix_any c.bits a c.bits _ hB0 hB6 (by omega)).mono ?_; rw [HP.out]; rintro e w' ⟨rfl, rfl⟩)
        all_goals go_ret
        all_goals exact ⟨ret_bool (Eq.trans (by first | rfl | exact decide_eq_false (by omega) | exact decide_eq_true (by omega)) HZ.out.symm), by (repeat (first | exact Below.refl _ _ | assumption | apply Below.drew | apply below_drewN | (refine Below.alloc ?_ (by simp <;> omega) _) | (refine Below.setCell ?_ (by simp <;> omega) _)))⟩
      · have e_b : (b == 0) = false := by simp [h2]
        have HZ := Lib.hid (show fitsZ c.bits 3 a b 0 = false from by simp [fitsZ, *])
        clear hp
        go_enter Tryd.func56, Tryd.ntmps56
        go_wp2_with (go_at_call 74; refine (prefix_any c.bits a c.bits _ hB0 hB6 (by omega)).mono ?_; rw [HP.out]; rintro e w' ⟨rfl, rfl⟩)
        all_goals go_ret
        all_goals exact ⟨ret_bool (Eq.trans (by first | rfl | exact decide_eq_false (by omega) | exact decide_eq_true (by omega)) HZ.out.symm), by (repeat (first | exact Below.refl _ _ | assumption | apply Below.drew | apply below_drewN | (refine Below.alloc ?_ (by simp <;> omega) _) | (refine Below.setCell ?_ (by simp <;> omega) _)))⟩
    · have e_x : (x == 0) = false := by simp [h1]
      have HZ := Lib.hid (show fitsZ c.bits 3 a b x = false from by simp [fitsZ, *])
      clear hp
      go_enter Tryd.func56, Tryd.ntmps56
      go_wp2_with (go_at_call 74; refine (prefix_any c.bits a c.bits _ hB0 hB6 (by omega)).mono ?_; rw [HP.out]; rintro e w' ⟨rfl, rfl⟩)
      all_goals go_ret
      all_goals exact ⟨ret_bool (Eq.trans (by first | rfl | exact decide_eq_false (by omega) | exact decide_eq_true (by omega)) HZ.out.symm), by (repeat (first | exact Below.refl _ _ | assumption | apply Below.drew | apply below_drewN | (refine Below.alloc ?_ (by simp <;> omega) _) | (refine Below.setCell ?_ (by simp <;> omega) _)))⟩
  | false =>
    have HP := Lib.hid hp
    by_cases h1 : x = 0
    · subst h1
      by_cases h2 : b = 0
      · subst h2
        have HZ := Lib.hid (show fitsZ c.bits 3 a 0 0 = false from by simp [fitsZ, *])
        clear hp
        go_enter Tryd.func56, Tryd.ntmps56
        go_wp2_with (go_at_call 74; refine (prefix_any c.bits a c.bits _ hB0 hB6 (by omega)).mono ?_; rw [HP.out]; rintro e w' ⟨rfl, rfl⟩)
        all_goals go_ret
        all_goals exact ⟨ret_bool (Eq.trans (by first | rfl | exact decide_eq_false (by omega) | exact decide_eq_true (by omega)) HZ.out.symm), by (repeat (first | exact Below.refl _ _ | assumption | apply Below.drew | apply below_drewN | (refine Below.alloc ?_ (by simp <;> omega) _) | (refine Below.setCell ?_ (by simp <;> omega) _)))⟩
      · have e_b : (b == 0) = false := by simp [h2]
        have HZ := Lib.hid (show fitsZ c.bits 3 a b 0 = false from by simp [fitsZ, *])
        clear hp
        go_enter Tryd.func56, Tryd.ntmps56
        go_wp2_with (go_at_call 74; refine (prefix_any c.bits a c.bits _ hB0 hB6 (by omega)).mono ?_; rw [HP.out]; rintro e w' ⟨rfl, rfl⟩)
        all_goals go_ret
        all_goals exact ⟨ret_bool (Eq.trans (by first | rfl | exact decide_eq_false (by omega) | exact decide_eq_true (by omega)) HZ.out.symm), by (repeat (first | exact Below.refl _ _ | assumption | apply Below.drew | apply below_drewN | (refine Below.alloc ?_ (by simp <;> omega) _) | (refine Below.setCell ?_ (by simp <;> omega) _)))⟩
    · have e_x : (x == 0) = false := by simp [h1]
      have HZ := Lib.hid (show fitsZ c.bits 3 a b x = false from by simp [fitsZ, *])
      clear hp
      go_enter Tryd.func56, Tryd.ntmps56
      go_wp2_with (go_at_call 74; refine (prefix_any c.bits a c.bits _ hB0 hB6 (by omega)).mono ?_; rw [HP.out]; rintro e w' ⟨rfl, rfl⟩)
      all_goals go_ret
      all_goals exact ⟨ret_bool (Eq.trans (by first | rfl | exact decide_eq_false (by omega) | exact decide_eq_true (by omega)) HZ.out.symm), by (repeat (first | exact Below.refl _ _ | assumption | apply Below.drew | apply below_drewN | (refine Below.alloc ?_ (by simp <;> omega) _) | (refine Below.setCell ?_ (by simp <;> omega) _)))⟩

set_option linter.unusedVariables false in
set_option maxRecDepth 100000 in
set_option maxHeartbeats 3200000 in
theorem rfits_4 (c : Cfg) (a b x : Int) (w : World) (ha : 0 ≤ a) (hb : 0 ≤ b) (hx : 0 ≤ x) (ha' : a ≤ 4294967295) (hb' : b ≤ 4294967295) (hx' : x ≤ 4294967295) : Calls Tryd.prog 56 #[.agg #[.int .u8 c.ob, .int .i64 c.inst, .int .i64 c.thr, .int .u8 c.kd, .int .i64 c.str, .int .i64 c.bits, .int .i64 c.cap, .int .i64 c.node, .int .i64 c.bat, .int .i64 c.chk, .int .u64 c.lim, .int .u64 c.most], .agg #[.int .u8 4, .int .u32 a, .int .u32 b, .int .u32 x]] w fun e w' => e = .returned (.bool (fitsZ c.bits 4 a b x)) ∧ Below w.heap.size w w' := by
  by_cases h1 : x = 0
  · subst h1
    by_cases h2 : a ≤ 2147483647
    · by_cases h3 : b ≤ 2147483647
      · have HZ := Lib.hid (show fitsZ c.bits 4 a b 0 = true from by simp [fitsZ, *] <;> omega)
        go_enter Tryd.func56, Tryd.ntmps56
        go_wp2_with fail
        all_goals go_ret
        all_goals exact ⟨ret_bool (Eq.trans (by first | rfl | exact decide_eq_false (by omega) | exact decide_eq_true (by omega)) HZ.out.symm), by (repeat (first | exact Below.refl _ _ | assumption | apply Below.drew | apply below_drewN | (refine Below.alloc ?_ (by simp <;> omega) _) | (refine Below.setCell ?_ (by simp <;> omega) _)))⟩
      · have HZ := Lib.hid (show fitsZ c.bits 4 a b 0 = false from by simp [fitsZ, *] <;> omega)
        go_enter Tryd.func56, Tryd.ntmps56
        go_wp2_with fail
        all_goals go_ret
        all_goals exact ⟨ret_bool (Eq.trans (by first | rfl | exact decide_eq_false (by omega) | exact decide_eq_true (by omega)) HZ.out.symm), by (repeat (first | exact Below.refl _ _ | assumption | apply Below.drew | apply below_drewN | (refine Below.alloc ?_ (by simp <;> omega) _) | (refine Below.setCell ?_ (by simp <;> omega) _)))⟩
    · have HZ := Lib.hid (show fitsZ c.bits 4 a b 0 = false from by simp [fitsZ, *] <;> omega)
      go_enter Tryd.func56, Tryd.ntmps56
      go_wp2_with fail
      all_goals go_ret
      all_goals exact ⟨ret_bool (Eq.trans (by first | rfl | exact decide_eq_false (by omega) | exact decide_eq_true (by omega)) HZ.out.symm), by (repeat (first | exact Below.refl _ _ | assumption | apply Below.drew | apply below_drewN | (refine Below.alloc ?_ (by simp <;> omega) _) | (refine Below.setCell ?_ (by simp <;> omega) _)))⟩
  · have e_x : (x == 0) = false := by simp [h1]
    have HZ := Lib.hid (show fitsZ c.bits 4 a b x = false from by simp [fitsZ, *] <;> omega)
    go_enter Tryd.func56, Tryd.ntmps56
    go_wp2_with fail
    all_goals go_ret
    all_goals exact ⟨ret_bool (Eq.trans (by first | rfl | exact decide_eq_false (by omega) | exact decide_eq_true (by omega)) HZ.out.symm), by (repeat (first | exact Below.refl _ _ | assumption | apply Below.drew | apply below_drewN | (refine Below.alloc ?_ (by simp <;> omega) _) | (refine Below.setCell ?_ (by simp <;> omega) _)))⟩

set_option linter.unusedVariables false in
set_option maxRecDepth 100000 in
set_option maxHeartbeats 3200000 in
theorem rfits_5 (c : Cfg) (a b x : Int) (w : World) (ha : 0 ≤ a) (hb : 0 ≤ b) (hx : 0 ≤ x) (ha' : a ≤ 4294967295) (hb' : b ≤ 4294967295) (hx' : x ≤ 4294967295) : Calls Tryd.prog 56 #[.agg #[.int .u8 c.ob, .int .i64 c.inst, .int .i64 c.thr, .int .u8 c.kd, .int .i64 c.str, .int .i64 c.bits, .int .i64 c.cap, .int .i64 c.node, .int .i64 c.bat, .int .i64 c.chk, .int .u64 c.lim, .int .u64 c.most], .agg #[.int .u8 5, .int .u32 a, .int .u32 b, .int .u32 x]] w fun e w' => e = .returned (.bool (fitsZ c.bits 5 a b x)) ∧ Below w.heap.size w w' := by
  by_cases h1 : x = 0
  · subst h1
    by_cases h2 : b = 0
    · subst h2
      by_cases h3 : a ≤ 2147483647
      · have HZ := Lib.hid (show fitsZ c.bits 5 a 0 0 = true from by simp [fitsZ, *] <;> omega)
        go_enter Tryd.func56, Tryd.ntmps56
        go_wp2_with fail
        all_goals go_ret
        all_goals exact ⟨ret_bool (Eq.trans (by first | rfl | exact decide_eq_false (by omega) | exact decide_eq_true (by omega)) HZ.out.symm), by (repeat (first | exact Below.refl _ _ | assumption | apply Below.drew | apply below_drewN | (refine Below.alloc ?_ (by simp <;> omega) _) | (refine Below.setCell ?_ (by simp <;> omega) _)))⟩
      · have HZ := Lib.hid (show fitsZ c.bits 5 a 0 0 = false from by simp [fitsZ, *] <;> omega)
        go_enter Tryd.func56, Tryd.ntmps56
        go_wp2_with fail
        all_goals go_ret
        all_goals exact ⟨ret_bool (Eq.trans (by first | rfl | exact decide_eq_false (by omega) | exact decide_eq_true (by omega)) HZ.out.symm), by (repeat (first | exact Below.refl _ _ | assumption | apply Below.drew | apply below_drewN | (refine Below.alloc ?_ (by simp <;> omega) _) | (refine Below.setCell ?_ (by simp <;> omega) _)))⟩
    · have e_b : (b == 0) = false := by simp [h2]
      have HZ := Lib.hid (show fitsZ c.bits 5 a b 0 = false from by simp [fitsZ, *] <;> omega)
      go_enter Tryd.func56, Tryd.ntmps56
      go_wp2_with fail
      all_goals go_ret
      all_goals exact ⟨ret_bool (Eq.trans (by first | rfl | exact decide_eq_false (by omega) | exact decide_eq_true (by omega)) HZ.out.symm), by (repeat (first | exact Below.refl _ _ | assumption | apply Below.drew | apply below_drewN | (refine Below.alloc ?_ (by simp <;> omega) _) | (refine Below.setCell ?_ (by simp <;> omega) _)))⟩
  · have e_x : (x == 0) = false := by simp [h1]
    have HZ := Lib.hid (show fitsZ c.bits 5 a b x = false from by simp [fitsZ, *] <;> omega)
    go_enter Tryd.func56, Tryd.ntmps56
    go_wp2_with fail
    all_goals go_ret
    all_goals exact ⟨ret_bool (Eq.trans (by first | rfl | exact decide_eq_false (by omega) | exact decide_eq_true (by omega)) HZ.out.symm), by (repeat (first | exact Below.refl _ _ | assumption | apply Below.drew | apply below_drewN | (refine Below.alloc ?_ (by simp <;> omega) _) | (refine Below.setCell ?_ (by simp <;> omega) _)))⟩

set_option linter.unusedVariables false in
set_option maxRecDepth 100000 in
set_option maxHeartbeats 3200000 in
theorem rfits_6 (c : Cfg) (a b x : Int) (w : World) (ha : 0 ≤ a) (hb : 0 ≤ b) (hx : 0 ≤ x) (ha' : a ≤ 4294967295) (hb' : b ≤ 4294967295) (hx' : x ≤ 4294967295) : Calls Tryd.prog 56 #[.agg #[.int .u8 c.ob, .int .i64 c.inst, .int .i64 c.thr, .int .u8 c.kd, .int .i64 c.str, .int .i64 c.bits, .int .i64 c.cap, .int .i64 c.node, .int .i64 c.bat, .int .i64 c.chk, .int .u64 c.lim, .int .u64 c.most], .agg #[.int .u8 6, .int .u32 a, .int .u32 b, .int .u32 x]] w fun e w' => e = .returned (.bool (fitsZ c.bits 6 a b x)) ∧ Below w.heap.size w w' := by
  by_cases h1 : x = 0
  · subst h1
    by_cases h2 : b = 0
    · subst h2
      by_cases h3 : a ≤ 2147483647
      · have HZ := Lib.hid (show fitsZ c.bits 6 a 0 0 = true from by simp [fitsZ, *] <;> omega)
        go_enter Tryd.func56, Tryd.ntmps56
        go_wp2_with fail
        all_goals go_ret
        all_goals exact ⟨ret_bool (Eq.trans (by first | rfl | exact decide_eq_false (by omega) | exact decide_eq_true (by omega)) HZ.out.symm), by (repeat (first | exact Below.refl _ _ | assumption | apply Below.drew | apply below_drewN | (refine Below.alloc ?_ (by simp <;> omega) _) | (refine Below.setCell ?_ (by simp <;> omega) _)))⟩
      · have HZ := Lib.hid (show fitsZ c.bits 6 a 0 0 = false from by simp [fitsZ, *] <;> omega)
        go_enter Tryd.func56, Tryd.ntmps56
        go_wp2_with fail
        all_goals go_ret
        all_goals exact ⟨ret_bool (Eq.trans (by first | rfl | exact decide_eq_false (by omega) | exact decide_eq_true (by omega)) HZ.out.symm), by (repeat (first | exact Below.refl _ _ | assumption | apply Below.drew | apply below_drewN | (refine Below.alloc ?_ (by simp <;> omega) _) | (refine Below.setCell ?_ (by simp <;> omega) _)))⟩
    · have e_b : (b == 0) = false := by simp [h2]
      have HZ := Lib.hid (show fitsZ c.bits 6 a b 0 = false from by simp [fitsZ, *] <;> omega)
      go_enter Tryd.func56, Tryd.ntmps56
      go_wp2_with fail
      all_goals go_ret
      all_goals exact ⟨ret_bool (Eq.trans (by first | rfl | exact decide_eq_false (by omega) | exact decide_eq_true (by omega)) HZ.out.symm), by (repeat (first | exact Below.refl _ _ | assumption | apply Below.drew | apply below_drewN | (refine Below.alloc ?_ (by simp <;> omega) _) | (refine Below.setCell ?_ (by simp <;> omega) _)))⟩
  · have e_x : (x == 0) = false := by simp [h1]
    have HZ := Lib.hid (show fitsZ c.bits 6 a b x = false from by simp [fitsZ, *] <;> omega)
    go_enter Tryd.func56, Tryd.ntmps56
    go_wp2_with fail
    all_goals go_ret
    all_goals exact ⟨ret_bool (Eq.trans (by first | rfl | exact decide_eq_false (by omega) | exact decide_eq_true (by omega)) HZ.out.symm), by (repeat (first | exact Below.refl _ _ | assumption | apply Below.drew | apply below_drewN | (refine Below.alloc ?_ (by simp <;> omega) _) | (refine Below.setCell ?_ (by simp <;> omega) _)))⟩

set_option linter.unusedVariables false in
set_option maxRecDepth 100000 in
set_option maxHeartbeats 3200000 in
theorem rfits_7 (c : Cfg) (a b x : Int) (w : World) (ha : 0 ≤ a) (hb : 0 ≤ b) (hx : 0 ≤ x) (ha' : a ≤ 4294967295) (hb' : b ≤ 4294967295) (hx' : x ≤ 4294967295) : Calls Tryd.prog 56 #[.agg #[.int .u8 c.ob, .int .i64 c.inst, .int .i64 c.thr, .int .u8 c.kd, .int .i64 c.str, .int .i64 c.bits, .int .i64 c.cap, .int .i64 c.node, .int .i64 c.bat, .int .i64 c.chk, .int .u64 c.lim, .int .u64 c.most], .agg #[.int .u8 7, .int .u32 a, .int .u32 b, .int .u32 x]] w fun e w' => e = .returned (.bool (fitsZ c.bits 7 a b x)) ∧ Below w.heap.size w w' := by
  by_cases h1 : x = 0
  · subst h1
    by_cases h2 : b = 0
    · subst h2
      by_cases h3 : a ≤ 2147483647
      · have HZ := Lib.hid (show fitsZ c.bits 7 a 0 0 = true from by simp [fitsZ, *] <;> omega)
        go_enter Tryd.func56, Tryd.ntmps56
        go_wp2_with fail
        all_goals go_ret
        all_goals exact ⟨ret_bool (Eq.trans (by first | rfl | exact decide_eq_false (by omega) | exact decide_eq_true (by omega)) HZ.out.symm), by (repeat (first | exact Below.refl _ _ | assumption | apply Below.drew | apply below_drewN | (refine Below.alloc ?_ (by simp <;> omega) _) | (refine Below.setCell ?_ (by simp <;> omega) _)))⟩
      · have HZ := Lib.hid (show fitsZ c.bits 7 a 0 0 = false from by simp [fitsZ, *] <;> omega)
        go_enter Tryd.func56, Tryd.ntmps56
        go_wp2_with fail
        all_goals go_ret
        all_goals exact ⟨ret_bool (Eq.trans (by first | rfl | exact decide_eq_false (by omega) | exact decide_eq_true (by omega)) HZ.out.symm), by (repeat (first | exact Below.refl _ _ | assumption | apply Below.drew | apply below_drewN | (refine Below.alloc ?_ (by simp <;> omega) _) | (refine Below.setCell ?_ (by simp <;> omega) _)))⟩
    · have e_b : (b == 0) = false := by simp [h2]
      have HZ := Lib.hid (show fitsZ c.bits 7 a b 0 = false from by simp [fitsZ, *] <;> omega)
      go_enter Tryd.func56, Tryd.ntmps56
      go_wp2_with fail
      all_goals go_ret
      all_goals exact ⟨ret_bool (Eq.trans (by first | rfl | exact decide_eq_false (by omega) | exact decide_eq_true (by omega)) HZ.out.symm), by (repeat (first | exact Below.refl _ _ | assumption | apply Below.drew | apply below_drewN | (refine Below.alloc ?_ (by simp <;> omega) _) | (refine Below.setCell ?_ (by simp <;> omega) _)))⟩
  · have e_x : (x == 0) = false := by simp [h1]
    have HZ := Lib.hid (show fitsZ c.bits 7 a b x = false from by simp [fitsZ, *] <;> omega)
    go_enter Tryd.func56, Tryd.ntmps56
    go_wp2_with fail
    all_goals go_ret
    all_goals exact ⟨ret_bool (Eq.trans (by first | rfl | exact decide_eq_false (by omega) | exact decide_eq_true (by omega)) HZ.out.symm), by (repeat (first | exact Below.refl _ _ | assumption | apply Below.drew | apply below_drewN | (refine Below.alloc ?_ (by simp <;> omega) _) | (refine Below.setCell ?_ (by simp <;> omega) _)))⟩

set_option linter.unusedVariables false in
set_option maxRecDepth 100000 in
set_option maxHeartbeats 3200000 in
theorem rfits_8 (c : Cfg) (a b x : Int) (w : World) (ha : 0 ≤ a) (hb : 0 ≤ b) (hx : 0 ≤ x) (ha' : a ≤ 4294967295) (hb' : b ≤ 4294967295) (hx' : x ≤ 4294967295) : Calls Tryd.prog 56 #[.agg #[.int .u8 c.ob, .int .i64 c.inst, .int .i64 c.thr, .int .u8 c.kd, .int .i64 c.str, .int .i64 c.bits, .int .i64 c.cap, .int .i64 c.node, .int .i64 c.bat, .int .i64 c.chk, .int .u64 c.lim, .int .u64 c.most], .agg #[.int .u8 8, .int .u32 a, .int .u32 b, .int .u32 x]] w fun e w' => e = .returned (.bool (fitsZ c.bits 8 a b x)) ∧ Below w.heap.size w w' := by
  by_cases h1 : x = 0
  · subst h1
    by_cases h2 : a ≤ 2147483647
    · by_cases h3 : b ≤ 2147483647
      · have HZ := Lib.hid (show fitsZ c.bits 8 a b 0 = true from by simp [fitsZ, *] <;> omega)
        go_enter Tryd.func56, Tryd.ntmps56
        go_wp2_with fail
        all_goals go_ret
        all_goals exact ⟨ret_bool (Eq.trans (by first | rfl | exact decide_eq_false (by omega) | exact decide_eq_true (by omega)) HZ.out.symm), by (repeat (first | exact Below.refl _ _ | assumption | apply Below.drew | apply below_drewN | (refine Below.alloc ?_ (by simp <;> omega) _) | (refine Below.setCell ?_ (by simp <;> omega) _)))⟩
      · have HZ := Lib.hid (show fitsZ c.bits 8 a b 0 = false from by simp [fitsZ, *] <;> omega)
        go_enter Tryd.func56, Tryd.ntmps56
        go_wp2_with fail
        all_goals go_ret
        all_goals exact ⟨ret_bool (Eq.trans (by first | rfl | exact decide_eq_false (by omega) | exact decide_eq_true (by omega)) HZ.out.symm), by (repeat (first | exact Below.refl _ _ | assumption | apply Below.drew | apply below_drewN | (refine Below.alloc ?_ (by simp <;> omega) _) | (refine Below.setCell ?_ (by simp <;> omega) _)))⟩
    · have HZ := Lib.hid (show fitsZ c.bits 8 a b 0 = false from by simp [fitsZ, *] <;> omega)
      go_enter Tryd.func56, Tryd.ntmps56
      go_wp2_with fail
      all_goals go_ret
      all_goals exact ⟨ret_bool (Eq.trans (by first | rfl | exact decide_eq_false (by omega) | exact decide_eq_true (by omega)) HZ.out.symm), by (repeat (first | exact Below.refl _ _ | assumption | apply Below.drew | apply below_drewN | (refine Below.alloc ?_ (by simp <;> omega) _) | (refine Below.setCell ?_ (by simp <;> omega) _)))⟩
  · have e_x : (x == 0) = false := by simp [h1]
    have HZ := Lib.hid (show fitsZ c.bits 8 a b x = false from by simp [fitsZ, *] <;> omega)
    go_enter Tryd.func56, Tryd.ntmps56
    go_wp2_with fail
    all_goals go_ret
    all_goals exact ⟨ret_bool (Eq.trans (by first | rfl | exact decide_eq_false (by omega) | exact decide_eq_true (by omega)) HZ.out.symm), by (repeat (first | exact Below.refl _ _ | assumption | apply Below.drew | apply below_drewN | (refine Below.alloc ?_ (by simp <;> omega) _) | (refine Below.setCell ?_ (by simp <;> omega) _)))⟩

set_option linter.unusedVariables false in
set_option maxRecDepth 100000 in
set_option maxHeartbeats 3200000 in
theorem rfits_9 (c : Cfg) (a b x : Int) (w : World) (ha : 0 ≤ a) (hb : 0 ≤ b) (hx : 0 ≤ x) (ha' : a ≤ 4294967295) (hb' : b ≤ 4294967295) (hx' : x ≤ 4294967295) : Calls Tryd.prog 56 #[.agg #[.int .u8 c.ob, .int .i64 c.inst, .int .i64 c.thr, .int .u8 c.kd, .int .i64 c.str, .int .i64 c.bits, .int .i64 c.cap, .int .i64 c.node, .int .i64 c.bat, .int .i64 c.chk, .int .u64 c.lim, .int .u64 c.most], .agg #[.int .u8 9, .int .u32 a, .int .u32 b, .int .u32 x]] w fun e w' => e = .returned (.bool (fitsZ c.bits 9 a b x)) ∧ Below w.heap.size w w' := by
  by_cases h1 : x = 1
  · subst h1
    by_cases h2 : a ≤ 65535
    · by_cases h3 : b ≤ 65535
      · have HZ := Lib.hid (show fitsZ c.bits 9 a b 1 = true from by simp [fitsZ, *] <;> omega)
        go_enter Tryd.func56, Tryd.ntmps56
        go_wp2_with fail
        all_goals go_ret
        all_goals exact ⟨ret_bool (Eq.trans (by first | rfl | exact decide_eq_false (by omega) | exact decide_eq_true (by omega)) HZ.out.symm), by (repeat (first | exact Below.refl _ _ | assumption | apply Below.drew | apply below_drewN | (refine Below.alloc ?_ (by simp <;> omega) _) | (refine Below.setCell ?_ (by simp <;> omega) _)))⟩
      · have HZ := Lib.hid (show fitsZ c.bits 9 a b 1 = false from by simp [fitsZ, *] <;> omega)
        go_enter Tryd.func56, Tryd.ntmps56
        go_wp2_with fail
        all_goals go_ret
        all_goals exact ⟨ret_bool (Eq.trans (by first | rfl | exact decide_eq_false (by omega) | exact decide_eq_true (by omega)) HZ.out.symm), by (repeat (first | exact Below.refl _ _ | assumption | apply Below.drew | apply below_drewN | (refine Below.alloc ?_ (by simp <;> omega) _) | (refine Below.setCell ?_ (by simp <;> omega) _)))⟩
    · have HZ := Lib.hid (show fitsZ c.bits 9 a b 1 = false from by simp [fitsZ, *] <;> omega)
      go_enter Tryd.func56, Tryd.ntmps56
      go_wp2_with fail
      all_goals go_ret
      all_goals exact ⟨ret_bool (Eq.trans (by first | rfl | exact decide_eq_false (by omega) | exact decide_eq_true (by omega)) HZ.out.symm), by (repeat (first | exact Below.refl _ _ | assumption | apply Below.drew | apply below_drewN | (refine Below.alloc ?_ (by simp <;> omega) _) | (refine Below.setCell ?_ (by simp <;> omega) _)))⟩
  · by_cases h1' : x = 2
    · subst h1'
      by_cases h2 : a ≤ 65535
      · by_cases h3 : b ≤ 65535
        · have HZ := Lib.hid (show fitsZ c.bits 9 a b 2 = true from by simp [fitsZ, *] <;> omega)
          go_enter Tryd.func56, Tryd.ntmps56
          go_wp2_with fail
          all_goals go_ret
          all_goals exact ⟨ret_bool (Eq.trans (by first | rfl | exact decide_eq_false (by omega) | exact decide_eq_true (by omega)) HZ.out.symm), by (repeat (first | exact Below.refl _ _ | assumption | apply Below.drew | apply below_drewN | (refine Below.alloc ?_ (by simp <;> omega) _) | (refine Below.setCell ?_ (by simp <;> omega) _)))⟩
        · have HZ := Lib.hid (show fitsZ c.bits 9 a b 2 = false from by simp [fitsZ, *] <;> omega)
          go_enter Tryd.func56, Tryd.ntmps56
          go_wp2_with fail
          all_goals go_ret
          all_goals exact ⟨ret_bool (Eq.trans (by first | rfl | exact decide_eq_false (by omega) | exact decide_eq_true (by omega)) HZ.out.symm), by (repeat (first | exact Below.refl _ _ | assumption | apply Below.drew | apply below_drewN | (refine Below.alloc ?_ (by simp <;> omega) _) | (refine Below.setCell ?_ (by simp <;> omega) _)))⟩
      · have HZ := Lib.hid (show fitsZ c.bits 9 a b 2 = false from by simp [fitsZ, *] <;> omega)
        go_enter Tryd.func56, Tryd.ntmps56
        go_wp2_with fail
        all_goals go_ret
        all_goals exact ⟨ret_bool (Eq.trans (by first | rfl | exact decide_eq_false (by omega) | exact decide_eq_true (by omega)) HZ.out.symm), by (repeat (first | exact Below.refl _ _ | assumption | apply Below.drew | apply below_drewN | (refine Below.alloc ?_ (by simp <;> omega) _) | (refine Below.setCell ?_ (by simp <;> omega) _)))⟩
    · have e_1 : (x == 1) = false := by simp; omega
      have e_2 : (x == 2) = false := by simp; omega
      have HZ := Lib.hid (show fitsZ c.bits 9 a b x = false from by simp [fitsZ, *] <;> omega)
      go_enter Tryd.func56, Tryd.ntmps56
      go_wp2_with fail
      all_goals go_ret
      all_goals exact ⟨ret_bool (Eq.trans (by first | rfl | exact decide_eq_false (by omega) | exact decide_eq_true (by omega)) HZ.out.symm), by (repeat (first | exact Below.refl _ _ | assumption | apply Below.drew | apply below_drewN | (refine Below.alloc ?_ (by simp <;> omega) _) | (refine Below.setCell ?_ (by simp <;> omega) _)))⟩

set_option linter.unusedVariables false in
set_option maxRecDepth 100000 in
set_option maxHeartbeats 3200000 in
theorem rfits_10 (c : Cfg) (a b x : Int) (w : World) (ha : 0 ≤ a) (hb : 0 ≤ b) (hx : 0 ≤ x) (ha' : a ≤ 4294967295) (hb' : b ≤ 4294967295) (hx' : x ≤ 4294967295) : Calls Tryd.prog 56 #[.agg #[.int .u8 c.ob, .int .i64 c.inst, .int .i64 c.thr, .int .u8 c.kd, .int .i64 c.str, .int .i64 c.bits, .int .i64 c.cap, .int .i64 c.node, .int .i64 c.bat, .int .i64 c.chk, .int .u64 c.lim, .int .u64 c.most], .agg #[.int .u8 10, .int .u32 a, .int .u32 b, .int .u32 x]] w fun e w' => e = .returned (.bool (fitsZ c.bits 10 a b x)) ∧ Below w.heap.size w w' := by
  by_cases h1 : x = 0
  · subst h1
    by_cases h2 : a ≤ 65535
    · by_cases h3 : b ≤ 65535
      · have HZ := Lib.hid (show fitsZ c.bits 10 a b 0 = true from by simp [fitsZ, *] <;> omega)
        go_enter Tryd.func56, Tryd.ntmps56
        go_wp2_with fail
        all_goals go_ret
        all_goals exact ⟨ret_bool (Eq.trans (by first | rfl | exact decide_eq_false (by omega) | exact decide_eq_true (by omega)) HZ.out.symm), by (repeat (first | exact Below.refl _ _ | assumption | apply Below.drew | apply below_drewN | (refine Below.alloc ?_ (by simp <;> omega) _) | (refine Below.setCell ?_ (by simp <;> omega) _)))⟩
      · have HZ := Lib.hid (show fitsZ c.bits 10 a b 0 = false from by simp [fitsZ, *] <;> omega)
        go_enter Tryd.func56, Tryd.ntmps56
        go_wp2_with fail
        all_goals go_ret
        all_goals exact ⟨ret_bool (Eq.trans (by first | rfl | exact decide_eq_false (by omega) | exact decide_eq_true (by omega)) HZ.out.symm), by (repeat (first | exact Below.refl _ _ | assumption | apply Below.drew | apply below_drewN | (refine Below.alloc ?_ (by simp <;> omega) _) | (refine Below.setCell ?_ (by simp <;> omega) _)))⟩
    · have HZ := Lib.hid (show fitsZ c.bits 10 a b 0 = false from by simp [fitsZ, *] <;> omega)
      go_enter Tryd.func56, Tryd.ntmps56
      go_wp2_with fail
      all_goals go_ret
      all_goals exact ⟨ret_bool (Eq.trans (by first | rfl | exact decide_eq_false (by omega) | exact decide_eq_true (by omega)) HZ.out.symm), by (repeat (first | exact Below.refl _ _ | assumption | apply Below.drew | apply below_drewN | (refine Below.alloc ?_ (by simp <;> omega) _) | (refine Below.setCell ?_ (by simp <;> omega) _)))⟩
  · have e_x : (x == 0) = false := by simp [h1]
    have HZ := Lib.hid (show fitsZ c.bits 10 a b x = false from by simp [fitsZ, *] <;> omega)
    go_enter Tryd.func56, Tryd.ntmps56
    go_wp2_with fail
    all_goals go_ret
    all_goals exact ⟨ret_bool (Eq.trans (by first | rfl | exact decide_eq_false (by omega) | exact decide_eq_true (by omega)) HZ.out.symm), by (repeat (first | exact Below.refl _ _ | assumption | apply Below.drew | apply below_drewN | (refine Below.alloc ?_ (by simp <;> omega) _) | (refine Below.setCell ?_ (by simp <;> omega) _)))⟩

set_option linter.unusedVariables false in
set_option maxRecDepth 100000 in
set_option maxHeartbeats 3200000 in
theorem rfits_11 (c : Cfg) (a b x : Int) (w : World) (ha : 0 ≤ a) (hb : 0 ≤ b) (hx : 0 ≤ x) (ha' : a ≤ 4294967295) (hb' : b ≤ 4294967295) (hx' : x ≤ 4294967295) : Calls Tryd.prog 56 #[.agg #[.int .u8 c.ob, .int .i64 c.inst, .int .i64 c.thr, .int .u8 c.kd, .int .i64 c.str, .int .i64 c.bits, .int .i64 c.cap, .int .i64 c.node, .int .i64 c.bat, .int .i64 c.chk, .int .u64 c.lim, .int .u64 c.most], .agg #[.int .u8 11, .int .u32 a, .int .u32 b, .int .u32 x]] w fun e w' => e = .returned (.bool (fitsZ c.bits 11 a b x)) ∧ Below w.heap.size w w' := by
  by_cases h1 : x = 0
  · subst h1
    by_cases h2 : a = 0
    · subst h2
      have HZ := Lib.hid (show fitsZ c.bits 11 0 b 0 = false from by simp [fitsZ, *] <;> omega)
      go_enter Tryd.func56, Tryd.ntmps56
      go_wp2_with fail
      all_goals go_ret
      all_goals exact ⟨ret_bool (Eq.trans (by first | rfl | exact decide_eq_false (by omega) | exact decide_eq_true (by omega)) HZ.out.symm), by (repeat (first | exact Below.refl _ _ | assumption | apply Below.drew | apply below_drewN | (refine Below.alloc ?_ (by simp <;> omega) _) | (refine Below.setCell ?_ (by simp <;> omega) _)))⟩
    · have a1 : 1 ≤ a := by omega
      by_cases h2' : a ≤ 65535
      · by_cases h3 : b = 0
        · subst h3
          have HZ := Lib.hid (show fitsZ c.bits 11 a 0 0 = false from by simp [fitsZ, *] <;> omega)
          go_enter Tryd.func56, Tryd.ntmps56
          go_wp2_with fail
          all_goals go_ret
          all_goals exact ⟨ret_bool (Eq.trans (by first | rfl | exact decide_eq_false (by omega) | exact decide_eq_true (by omega)) HZ.out.symm), by (repeat (first | exact Below.refl _ _ | assumption | apply Below.drew | apply below_drewN | (refine Below.alloc ?_ (by simp <;> omega) _) | (refine Below.setCell ?_ (by simp <;> omega) _)))⟩
        · have b1 : 1 ≤ b := by omega
          by_cases h3' : b ≤ 65535
          · have HZ := Lib.hid (show fitsZ c.bits 11 a b 0 = true from by simp [fitsZ, *] <;> omega)
            go_enter Tryd.func56, Tryd.ntmps56
            go_wp2_with fail
            all_goals go_ret
            all_goals exact ⟨ret_bool (Eq.trans (by first | rfl | exact decide_eq_false (by omega) | exact decide_eq_true (by omega)) HZ.out.symm), by (repeat (first | exact Below.refl _ _ | assumption | apply Below.drew | apply below_drewN | (refine Below.alloc ?_ (by simp <;> omega) _) | (refine Below.setCell ?_ (by simp <;> omega) _)))⟩
          · have HZ := Lib.hid (show fitsZ c.bits 11 a b 0 = false from by simp [fitsZ, *] <;> omega)
            go_enter Tryd.func56, Tryd.ntmps56
            go_wp2_with fail
            all_goals go_ret
            all_goals exact ⟨ret_bool (Eq.trans (by first | rfl | exact decide_eq_false (by omega) | exact decide_eq_true (by omega)) HZ.out.symm), by (repeat (first | exact Below.refl _ _ | assumption | apply Below.drew | apply below_drewN | (refine Below.alloc ?_ (by simp <;> omega) _) | (refine Below.setCell ?_ (by simp <;> omega) _)))⟩
      · have HZ := Lib.hid (show fitsZ c.bits 11 a b 0 = false from by simp [fitsZ, *] <;> omega)
        go_enter Tryd.func56, Tryd.ntmps56
        go_wp2_with fail
        all_goals go_ret
        all_goals exact ⟨ret_bool (Eq.trans (by first | rfl | exact decide_eq_false (by omega) | exact decide_eq_true (by omega)) HZ.out.symm), by (repeat (first | exact Below.refl _ _ | assumption | apply Below.drew | apply below_drewN | (refine Below.alloc ?_ (by simp <;> omega) _) | (refine Below.setCell ?_ (by simp <;> omega) _)))⟩
  · have e_x : (x == 0) = false := by simp [h1]
    have HZ := Lib.hid (show fitsZ c.bits 11 a b x = false from by simp [fitsZ, *] <;> omega)
    go_enter Tryd.func56, Tryd.ntmps56
    go_wp2_with fail
    all_goals go_ret
    all_goals exact ⟨ret_bool (Eq.trans (by first | rfl | exact decide_eq_false (by omega) | exact decide_eq_true (by omega)) HZ.out.symm), by (repeat (first | exact Below.refl _ _ | assumption | apply Below.drew | apply below_drewN | (refine Below.alloc ?_ (by simp <;> omega) _) | (refine Below.setCell ?_ (by simp <;> omega) _)))⟩

set_option linter.unusedVariables false in
set_option maxRecDepth 100000 in
set_option maxHeartbeats 3200000 in
theorem rfits_12 (c : Cfg) (a b x : Int) (w : World) (ha : 0 ≤ a) (hb : 0 ≤ b) (hx : 0 ≤ x) (ha' : a ≤ 4294967295) (hb' : b ≤ 4294967295) (hx' : x ≤ 4294967295) : Calls Tryd.prog 56 #[.agg #[.int .u8 c.ob, .int .i64 c.inst, .int .i64 c.thr, .int .u8 c.kd, .int .i64 c.str, .int .i64 c.bits, .int .i64 c.cap, .int .i64 c.node, .int .i64 c.bat, .int .i64 c.chk, .int .u64 c.lim, .int .u64 c.most], .agg #[.int .u8 12, .int .u32 a, .int .u32 b, .int .u32 x]] w fun e w' => e = .returned (.bool (fitsZ c.bits 12 a b x)) ∧ Below w.heap.size w w' := by
  cases hp : pathZ a b with
  | true =>
    have HP := Lib.hid hp
    by_cases h1 : x ≤ 2147483647
    · have HZ := Lib.hid (show fitsZ c.bits 12 a b x = true from by simp [fitsZ, *])
      clear hp
      go_enter Tryd.func56, Tryd.ntmps56
      go_wp2_with fail
      have HO := Lib.hid (Box.new (w.alloc (.cells ⟨[.int .u8 c.ob, .int .i64 c.inst, .int .i64 c.thr, .int .u8 c.kd, .int .i64 c.str, .int .i64 c.bits, .int .i64 c.cap, .int .i64 c.node, .int .i64 c.bat, .int .i64 c.chk, .int .u64 c.lim, .int .u64 c.most]⟩ 24)) 27 [.int .u8 12, .int .u32 a, .int .u32 b, .int .u32 x])
      have HB := Lib.hid (moreB (newB w (.cells #[.int .u8 c.ob, .int .i64 c.inst, .int .i64 c.thr, .int .u8 c.kd, .int .i64 c.str, .int .i64 c.bits, .int .i64 c.cap, .int .i64 c.node, .int .i64 c.bat, .int .i64 c.chk, .int .u64 c.lim, .int .u64 c.most] 24)) (.cells #[.int .u8 12, .int .u32 a, .int .u32 b, .int .u32 x] 27))
      rw [World.size_alloc] at HO
      generalize (w.alloc _).alloc _ = V at *
      refine (rpath_any _ a b _ V ha ha').mono ?_
      rintro e w1 ⟨rfl, hb⟩
      rw [HP.out]
      have p3 := (HO.out.below hb).c 3 rfl
      have HB := Lib.hid (keepB hb HB.out)
      clear hb
      go_wp2_with fail
      all_goals go_ret
      all_goals exact ⟨ret_bool (Eq.trans (by first | rfl | exact decide_eq_false (by omega) | exact decide_eq_true (by omega)) HZ.out.symm), HB.out⟩
    · have HZ := Lib.hid (show fitsZ c.bits 12 a b x = false from by simp [fitsZ, *])
      clear hp
      go_enter Tryd.func56, Tryd.ntmps56
      go_wp2_with fail
      have HO := Lib.hid (Box.new (w.alloc (.cells ⟨[.int .u8 c.ob, .int .i64 c.inst, .int .i64 c.thr, .int .u8 c.kd, .int .i64 c.str, .int .i64 c.bits, .int .i64 c.cap, .int .i64 c.node, .int .i64 c.bat, .int .i64 c.chk, .int .u64 c.lim, .int .u64 c.most]⟩ 24)) 27 [.int .u8 12, .int .u32 a, .int .u32 b, .int .u32 x])
      have HB := Lib.hid (moreB (newB w (.cells #[.int .u8 c.ob, .int .i64 c.inst, .int .i64 c.thr, .int .u8 c.kd, .int .i64 c.str, .int .i64 c.bits, .int .i64 c.cap, .int .i64 c.node, .int .i64 c.bat, .int .i64 c.chk, .int .u64 c.lim, .int .u64 c.most] 24)) (.cells #[.int .u8 12, .int .u32 a, .int .u32 b, .int .u32 x] 27))
      rw [World.size_alloc] at HO
      generalize (w.alloc _).alloc _ = V at *
      refine (rpath_any _ a b _ V ha ha').mono ?_
      rintro e w1 ⟨rfl, hb⟩
      rw [HP.out]
      have p3 := (HO.out.below hb).c 3 rfl
      have HB := Lib.hid (keepB hb HB.out)
      clear hb
      go_wp2_with fail
      all_goals go_ret
      all_goals exact ⟨ret_bool (Eq.trans (by first | rfl | exact decide_eq_false (by omega) | exact decide_eq_true (by omega)) HZ.out.symm), HB.out⟩
  | false =>
    have HP := Lib.hid hp
    by_cases h1 : x ≤ 2147483647
    · have HZ := Lib.hid (show fitsZ c.bits 12 a b x = false from by simp [fitsZ, *])
      clear hp
      go_enter Tryd.func56, Tryd.ntmps56
      go_wp2_with fail
      have HO := Lib.hid (Box.new (w.alloc (.cells ⟨[.int .u8 c.ob, .int .i64 c.inst, .int .i64 c.thr, .int .u8 c.kd, .int .i64 c.str, .int .i64 c.bits, .int .i64 c.cap, .int .i64 c.node, .int .i64 c.bat, .int .i64 c.chk, .int .u64 c.lim, .int .u64 c.most]⟩ 24)) 27 [.int .u8 12, .int .u32 a, .int .u32 b, .int .u32 x])
      have HB := Lib.hid (moreB (newB w (.cells #[.int .u8 c.ob, .int .i64 c.inst, .int .i64 c.thr, .int .u8 c.kd, .int .i64 c.str, .int .i64 c.bits, .int .i64 c.cap, .int .i64 c.node, .int .i64 c.bat, .int .i64 c.chk, .int .u64 c.lim, .int .u64 c.most] 24)) (.cells #[.int .u8 12, .int .u32 a, .int .u32 b, .int .u32 x] 27))
      rw [World.size_alloc] at HO
      generalize (w.alloc _).alloc _ = V at *
      refine (rpath_any _ a b _ V ha ha').mono ?_
      rintro e w1 ⟨rfl, hb⟩
      rw [HP.out]
      have p3 := (HO.out.below hb).c 3 rfl
      have HB := Lib.hid (keepB hb HB.out)
      clear hb
      go_wp2_with fail
      all_goals go_ret
      all_goals exact ⟨ret_bool (Eq.trans (by first | rfl | exact decide_eq_false (by omega) | exact decide_eq_true (by omega)) HZ.out.symm), HB.out⟩
    · have HZ := Lib.hid (show fitsZ c.bits 12 a b x = false from by simp [fitsZ, *])
      clear hp
      go_enter Tryd.func56, Tryd.ntmps56
      go_wp2_with fail
      have HO := Lib.hid (Box.new (w.alloc (.cells ⟨[.int .u8 c.ob, .int .i64 c.inst, .int .i64 c.thr, .int .u8 c.kd, .int .i64 c.str, .int .i64 c.bits, .int .i64 c.cap, .int .i64 c.node, .int .i64 c.bat, .int .i64 c.chk, .int .u64 c.lim, .int .u64 c.most]⟩ 24)) 27 [.int .u8 12, .int .u32 a, .int .u32 b, .int .u32 x])
      have HB := Lib.hid (moreB (newB w (.cells #[.int .u8 c.ob, .int .i64 c.inst, .int .i64 c.thr, .int .u8 c.kd, .int .i64 c.str, .int .i64 c.bits, .int .i64 c.cap, .int .i64 c.node, .int .i64 c.bat, .int .i64 c.chk, .int .u64 c.lim, .int .u64 c.most] 24)) (.cells #[.int .u8 12, .int .u32 a, .int .u32 b, .int .u32 x] 27))
      rw [World.size_alloc] at HO
      generalize (w.alloc _).alloc _ = V at *
      refine (rpath_any _ a b _ V ha ha').mono ?_
      rintro e w1 ⟨rfl, hb⟩
      rw [HP.out]
      have p3 := (HO.out.below hb).c 3 rfl
      have HB := Lib.hid (keepB hb HB.out)
      clear hb
      go_wp2_with fail
      all_goals go_ret
      all_goals exact ⟨ret_bool (Eq.trans (by first | rfl | exact decide_eq_false (by omega) | exact decide_eq_true (by omega)) HZ.out.symm), HB.out⟩

set_option linter.unusedVariables false in
set_option maxRecDepth 100000 in
set_option maxHeartbeats 3200000 in
theorem rfits_13 (c : Cfg) (a b x : Int) (w : World) (ha : 0 ≤ a) (hb : 0 ≤ b) (hx : 0 ≤ x) (ha' : a ≤ 4294967295) (hb' : b ≤ 4294967295) (hx' : x ≤ 4294967295) : Calls Tryd.prog 56 #[.agg #[.int .u8 c.ob, .int .i64 c.inst, .int .i64 c.thr, .int .u8 c.kd, .int .i64 c.str, .int .i64 c.bits, .int .i64 c.cap, .int .i64 c.node, .int .i64 c.bat, .int .i64 c.chk, .int .u64 c.lim, .int .u64 c.most], .agg #[.int .u8 13, .int .u32 a, .int .u32 b, .int .u32 x]] w fun e w' => e = .returned (.bool (fitsZ c.bits 13 a b x)) ∧ Below w.heap.size w w' := by
  cases hp : pathZ a b with
  | true =>
    have HP := Lib.hid hp
    by_cases h1 : x = 0
    · subst h1
      have HZ := Lib.hid (show fitsZ c.bits 13 a b 0 = true from by simp [fitsZ, *])
      clear hp
      go_enter Tryd.func56, Tryd.ntmps56
      go_wp2_with fail
      have HO := Lib.hid (Box.new (w.alloc (.cells ⟨[.int .u8 c.ob, .int .i64 c.inst, .int .i64 c.thr, .int .u8 c.kd, .int .i64 c.str, .int .i64 c.bits, .int .i64 c.cap, .int .i64 c.node, .int .i64 c.bat, .int .i64 c.chk, .int .u64 c.lim, .int .u64 c.most]⟩ 24)) 27 [.int .u8 13, .int .u32 a, .int .u32 b, .int .u32 0])
      have HB := Lib.hid (moreB (newB w (.cells #[.int .u8 c.ob, .int .i64 c.inst, .int .i64 c.thr, .int .u8 c.kd, .int .i64 c.str, .int .i64 c.bits, .int .i64 c.cap, .int .i64 c.node, .int .i64 c.bat, .int .i64 c.chk, .int .u64 c.lim, .int .u64 c.most] 24)) (.cells #[.int .u8 13, .int .u32 a, .int .u32 b, .int .u32 0] 27))
      rw [World.size_alloc] at HO
      generalize (w.alloc _).alloc _ = V at *
      refine (rpath_any _ a b _ V ha ha').mono ?_
      rintro e w1 ⟨rfl, hb⟩
      rw [HP.out]
      have p3 := (HO.out.below hb).c 3 rfl
      have HB := Lib.hid (keepB hb HB.out)
      clear hb
      go_wp2_with fail
      all_goals go_ret
      all_goals exact ⟨ret_bool (Eq.trans (by first | rfl | exact decide_eq_false (by omega) | exact decide_eq_true (by omega)) HZ.out.symm), HB.out⟩
    · have e_x : (x == 0) = false := by simp [h1]
      have HZ := Lib.hid (show fitsZ c.bits 13 a b x = false from by simp [fitsZ, *])
      clear hp
      go_enter Tryd.func56, Tryd.ntmps56
      go_wp2_with fail
      have HO := Lib.hid (Box.new (w.alloc (.cells ⟨[.int .u8 c.ob, .int .i64 c.inst, .int .i64 c.thr, .int .u8 c.kd, .int .i64 c.str, .int .i64 c.bits, .int .i64 c.cap, .int .i64 c.node, .int .i64 c.bat, .int .i64 c.chk, .int .u64 c.lim, .int .u64 c.most]⟩ 24)) 27 [.int .u8 13, .int .u32 a, .int .u32 b, .int .u32 x])
      have HB := Lib.hid (moreB (newB w (.cells #[.int .u8 c.ob, .int .i64 c.inst, .int .i64 c.thr, .int .u8 c.kd, .int .i64 c.str, .int .i64 c.bits, .int .i64 c.cap, .int .i64 c.node, .int .i64 c.bat, .int .i64 c.chk, .int .u64 c.lim, .int .u64 c.most] 24)) (.cells #[.int .u8 13, .int .u32 a, .int .u32 b, .int .u32 x] 27))
      rw [World.size_alloc] at HO
      generalize (w.alloc _).alloc _ = V at *
      refine (rpath_any _ a b _ V ha ha').mono ?_
      rintro e w1 ⟨rfl, hb⟩
      rw [HP.out]
      have p3 := (HO.out.below hb).c 3 rfl
      have HB := Lib.hid (keepB hb HB.out)
      clear hb
      go_wp2_with fail
      all_goals go_ret
      all_goals exact ⟨ret_bool (Eq.trans (by first | rfl | exact decide_eq_false (by omega) | exact decide_eq_true (by omega)) HZ.out.symm), HB.out⟩
  | false =>
    have HP := Lib.hid hp
    by_cases h1 : x = 0
    · subst h1
      have HZ := Lib.hid (show fitsZ c.bits 13 a b 0 = false from by simp [fitsZ, *])
      clear hp
      go_enter Tryd.func56, Tryd.ntmps56
      go_wp2_with fail
      have HO := Lib.hid (Box.new (w.alloc (.cells ⟨[.int .u8 c.ob, .int .i64 c.inst, .int .i64 c.thr, .int .u8 c.kd, .int .i64 c.str, .int .i64 c.bits, .int .i64 c.cap, .int .i64 c.node, .int .i64 c.bat, .int .i64 c.chk, .int .u64 c.lim, .int .u64 c.most]⟩ 24)) 27 [.int .u8 13, .int .u32 a, .int .u32 b, .int .u32 0])
      have HB := Lib.hid (moreB (newB w (.cells #[.int .u8 c.ob, .int .i64 c.inst, .int .i64 c.thr, .int .u8 c.kd, .int .i64 c.str, .int .i64 c.bits, .int .i64 c.cap, .int .i64 c.node, .int .i64 c.bat, .int .i64 c.chk, .int .u64 c.lim, .int .u64 c.most] 24)) (.cells #[.int .u8 13, .int .u32 a, .int .u32 b, .int .u32 0] 27))
      rw [World.size_alloc] at HO
      generalize (w.alloc _).alloc _ = V at *
      refine (rpath_any _ a b _ V ha ha').mono ?_
      rintro e w1 ⟨rfl, hb⟩
      rw [HP.out]
      have p3 := (HO.out.below hb).c 3 rfl
      have HB := Lib.hid (keepB hb HB.out)
      clear hb
      go_wp2_with fail
      all_goals go_ret
      all_goals exact ⟨ret_bool (Eq.trans (by first | rfl | exact decide_eq_false (by omega) | exact decide_eq_true (by omega)) HZ.out.symm), HB.out⟩
    · have e_x : (x == 0) = false := by simp [h1]
      have HZ := Lib.hid (show fitsZ c.bits 13 a b x = false from by simp [fitsZ, *])
      clear hp
      go_enter Tryd.func56, Tryd.ntmps56
      go_wp2_with fail
      have HO := Lib.hid (Box.new (w.alloc (.cells ⟨[.int .u8 c.ob, .int .i64 c.inst, .int .i64 c.thr, .int .u8 c.kd, .int .i64 c.str, .int .i64 c.bits, .int .i64 c.cap, .int .i64 c.node, .int .i64 c.bat, .int .i64 c.chk, .int .u64 c.lim, .int .u64 c.most]⟩ 24)) 27 [.int .u8 13, .int .u32 a, .int .u32 b, .int .u32 x])
      have HB := Lib.hid (moreB (newB w (.cells #[.int .u8 c.ob, .int .i64 c.inst, .int .i64 c.thr, .int .u8 c.kd, .int .i64 c.str, .int .i64 c.bits, .int .i64 c.cap, .int .i64 c.node, .int .i64 c.bat, .int .i64 c.chk, .int .u64 c.lim, .int .u64 c.most] 24)) (.cells #[.int .u8 13, .int .u32 a, .int .u32 b, .int .u32 x] 27))
      rw [World.size_alloc] at HO
      generalize (w.alloc _).alloc _ = V at *
      refine (rpath_any _ a b _ V ha ha').mono ?_
      rintro e w1 ⟨rfl, hb⟩
      rw [HP.out]
      have p3 := (HO.out.below hb).c 3 rfl
      have HB := Lib.hid (keepB hb HB.out)
      clear hb
      go_wp2_with fail
      all_goals go_ret
      all_goals exact ⟨ret_bool (Eq.trans (by first | rfl | exact decide_eq_false (by omega) | exact decide_eq_true (by omega)) HZ.out.symm), HB.out⟩

set_option linter.unusedVariables false in
set_option maxRecDepth 100000 in
set_option maxHeartbeats 3200000 in
theorem rfits_14 (c : Cfg) (a b x : Int) (w : World) (ha : 0 ≤ a) (hb : 0 ≤ b) (hx : 0 ≤ x) (ha' : a ≤ 4294967295) (hb' : b ≤ 4294967295) (hx' : x ≤ 4294967295) : Calls Tryd.prog 56 #[.agg #[.int .u8 c.ob, .int .i64 c.inst, .int .i64 c.thr, .int .u8 c.kd, .int .i64 c.str, .int .i64 c.bits, .int .i64 c.cap, .int .i64 c.node, .int .i64 c.bat, .int .i64 c.chk, .int .u64 c.lim, .int .u64 c.most], .agg #[.int .u8 14, .int .u32 a, .int .u32 b, .int .u32 x]] w fun e w' => e = .returned (.bool (fitsZ c.bits 14 a b x)) ∧ Below w.heap.size w w' := by
  cases hp : pathZ a b with
  | true =>
    have HP := Lib.hid hp
    by_cases h1 : x = 0
    · subst h1
      have HZ := Lib.hid (show fitsZ c.bits 14 a b 0 = true from by simp [fitsZ, *])
      clear hp
      go_enter Tryd.func56, Tryd.ntmps56
      go_wp2_with fail
      have HO := Lib.hid (Box.new (w.alloc (.cells ⟨[.int .u8 c.ob, .int .i64 c.inst, .int .i64 c.thr, .int .u8 c.kd, .int .i64 c.str, .int .i64 c.bits, .int .i64 c.cap, .int .i64 c.node, .int .i64 c.bat, .int .i64 c.chk, .int .u64 c.lim, .int .u64 c.most]⟩ 24)) 27 [.int .u8 14, .int .u32 a, .int .u32 b, .int .u32 0])
      have HB := Lib.hid (moreB (newB w (.cells #[.int .u8 c.ob, .int .i64 c.inst, .int .i64 c.thr, .int .u8 c.kd, .int .i64 c.str, .int .i64 c.bits, .int .i64 c.cap, .int .i64 c.node, .int .i64 c.bat, .int .i64 c.chk, .int .u64 c.lim, .int .u64 c.most] 24)) (.cells #[.int .u8 14, .int .u32 a, .int .u32 b, .int .u32 0] 27))
      rw [World.size_alloc] at HO
      generalize (w.alloc _).alloc _ = V at *
      refine (rpath_any _ a b _ V ha ha').mono ?_
      rintro e w1 ⟨rfl, hb⟩
      rw [HP.out]
      have p3 := (HO.out.below hb).c 3 rfl
      have HB := Lib.hid (keepB hb HB.out)
      clear hb
      go_wp2_with fail
      all_goals go_ret
      all_goals exact ⟨ret_bool (Eq.trans (by first | rfl | exact decide_eq_false (by omega) | exact decide_eq_true (by omega)) HZ.out.symm), HB.out⟩
    · have e_x : (x == 0) = false := by simp [h1]
      have HZ := Lib.hid (show fitsZ c.bits 14 a b x = false from by simp [fitsZ, *])
      clear hp
      go_enter Tryd.func56, Tryd.ntmps56
      go_wp2_with fail
      have HO := Lib.hid (Box.new (w.alloc (.cells ⟨[.int .u8 c.ob, .int .i64 c.inst, .int .i64 c.thr, .int .u8 c.kd, .int .i64 c.str, .int .i64 c.bits, .int .i64 c.cap, .int .i64 c.node, .int .i64 c.bat, .int .i64 c.chk, .int .u64 c.lim, .int .u64 c.most]⟩ 24)) 27 [.int .u8 14, .int .u32 a, .int .u32 b, .int .u32 x])
      have HB := Lib.hid (moreB (newB w (.cells #[.int .u8 c.ob, .int .i64 c.inst, .int .i64 c.thr, .int .u8 c.kd, .int .i64 c.str, .int .i64 c.bits, .int .i64 c.cap, .int .i64 c.node, .int .i64 c.bat, .int .i64 c.chk, .int .u64 c.lim, .int .u64 c.most] 24)) (.cells #[.int .u8 14, .int .u32 a, .int .u32 b, .int .u32 x] 27))
      rw [World.size_alloc] at HO
      generalize (w.alloc _).alloc _ = V at *
      refine (rpath_any _ a b _ V ha ha').mono ?_
      rintro e w1 ⟨rfl, hb⟩
      rw [HP.out]
      have p3 := (HO.out.below hb).c 3 rfl
      have HB := Lib.hid (keepB hb HB.out)
      clear hb
      go_wp2_with fail
      all_goals go_ret
      all_goals exact ⟨ret_bool (Eq.trans (by first | rfl | exact decide_eq_false (by omega) | exact decide_eq_true (by omega)) HZ.out.symm), HB.out⟩
  | false =>
    have HP := Lib.hid hp
    by_cases h1 : x = 0
    · subst h1
      have HZ := Lib.hid (show fitsZ c.bits 14 a b 0 = false from by simp [fitsZ, *])
      clear hp
      go_enter Tryd.func56, Tryd.ntmps56
      go_wp2_with fail
      have HO := Lib.hid (Box.new (w.alloc (.cells ⟨[.int .u8 c.ob, .int .i64 c.inst, .int .i64 c.thr, .int .u8 c.kd, .int .i64 c.str, .int .i64 c.bits, .int .i64 c.cap, .int .i64 c.node, .int .i64 c.bat, .int .i64 c.chk, .int .u64 c.lim, .int .u64 c.most]⟩ 24)) 27 [.int .u8 14, .int .u32 a, .int .u32 b, .int .u32 0])
      have HB := Lib.hid (moreB (newB w (.cells #[.int .u8 c.ob, .int .i64 c.inst, .int .i64 c.thr, .int .u8 c.kd, .int .i64 c.str, .int .i64 c.bits, .int .i64 c.cap, .int .i64 c.node, .int .i64 c.bat, .int .i64 c.chk, .int .u64 c.lim, .int .u64 c.most] 24)) (.cells #[.int .u8 14, .int .u32 a, .int .u32 b, .int .u32 0] 27))
      rw [World.size_alloc] at HO
      generalize (w.alloc _).alloc _ = V at *
      refine (rpath_any _ a b _ V ha ha').mono ?_
      rintro e w1 ⟨rfl, hb⟩
      rw [HP.out]
      have p3 := (HO.out.below hb).c 3 rfl
      have HB := Lib.hid (keepB hb HB.out)
      clear hb
      go_wp2_with fail
      all_goals go_ret
      all_goals exact ⟨ret_bool (Eq.trans (by first | rfl | exact decide_eq_false (by omega) | exact decide_eq_true (by omega)) HZ.out.symm), HB.out⟩
    · have e_x : (x == 0) = false := by simp [h1]
      have HZ := Lib.hid (show fitsZ c.bits 14 a b x = false from by simp [fitsZ, *])
      clear hp
      go_enter Tryd.func56, Tryd.ntmps56
      go_wp2_with fail
      have HO := Lib.hid (Box.new (w.alloc (.cells ⟨[.int .u8 c.ob, .int .i64 c.inst, .int .i64 c.thr, .int .u8 c.kd, .int .i64 c.str, .int .i64 c.bits, .int .i64 c.cap, .int .i64 c.node, .int .i64 c.bat, .int .i64 c.chk, .int .u64 c.lim, .int .u64 c.most]⟩ 24)) 27 [.int .u8 14, .int .u32 a, .int .u32 b, .int .u32 x])
      have HB := Lib.hid (moreB (newB w (.cells #[.int .u8 c.ob, .int .i64 c.inst, .int .i64 c.thr, .int .u8 c.kd, .int .i64 c.str, .int .i64 c.bits, .int .i64 c.cap, .int .i64 c.node, .int .i64 c.bat, .int .i64 c.chk, .int .u64 c.lim, .int .u64 c.most] 24)) (.cells #[.int .u8 14, .int .u32 a, .int .u32 b, .int .u32 x] 27))
      rw [World.size_alloc] at HO
      generalize (w.alloc _).alloc _ = V at *
      refine (rpath_any _ a b _ V ha ha').mono ?_
      rintro e w1 ⟨rfl, hb⟩
      rw [HP.out]
      have p3 := (HO.out.below hb).c 3 rfl
      have HB := Lib.hid (keepB hb HB.out)
      clear hb
      go_wp2_with fail
      all_goals go_ret
      all_goals exact ⟨ret_bool (Eq.trans (by first | rfl | exact decide_eq_false (by omega) | exact decide_eq_true (by omega)) HZ.out.symm), HB.out⟩

end Go.Proofs.YtecjbgddjejjdaaDoor
