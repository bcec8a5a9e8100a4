/- Contracts of the reference of layer 1, without lists. -/
import Derived.Test.YtmjgmfoaagomgaaPack
namespace Go.Proofs.Ytmjgmfoaagomgaa
open Go.RowKit

set_option maxHeartbeats 400000 in
theorem rBit_any (x i : Nat) (w : World) (hi : i < 64) :
    Calls Try.prog 30 #[.int .u64 x, .int .i64 i] w fun e w' => e = .returned (.int .u64 (bitN x i)) ∧ w = w' := by
  go_enter Try.func30, Try.ntmps30
  go_wp2
  go_ret
  exact ⟨ret_u64 (bitN_int x i), rfl⟩

set_option maxHeartbeats 400000 in
theorem rTwo_any (b : Nat) (w : World) (hb : b ≤ 63) :
    Calls Try.prog 31 #[.int .i64 b] w fun e w' => e = .returned (.int .u64 (twoN b)) ∧ w = w' := by
  go_enter Try.func31, Try.ntmps31
  go_wp2
  go_loop [3, 4] (fun v i => ∃ k : Nat, k ≤ b ∧ i = .int .i64 k ∧ v = .int .u64 (twoN k)) (fun _ i => b - (intOf i).toNat)
  case atStart => exact ⟨0, Nat.zero_le _, rfl, rfl⟩
  case round =>
    obtain ⟨k, hk, rfl, rfl⟩ := hrel
    by_cases hlt : k < b
    · have h1 := twoN_le k (by omega)
      have h2 := twoN_succ k
      have h3 := twoN_le (k + 1) (by omega)
      have h4 : 2 * twoN k ≤ 9223372036854775808 := by omega
      have H2 := Lib.hid h2; clear h2 h3
      go_wp2
      go_round
      case rel => exact ⟨k + 1, by omega, by go_num, by rw [H2.out]; go_num⟩
      case measure => simp [intOf]; omega
    · obtain rfl : k = b := by omega
      go_wp2
      go_ret
      exact ⟨rfl, rfl⟩

set_option maxHeartbeats 400000 in
theorem rIs_any (a b : Int) (w : World) (hb : -9223372036854775808 ≤ b) (hb' : b ≤ 9223372036854775807) :
    Calls Try.prog 20 #[.int .i64 a, .int .i64 b] w fun e w' => e = .returned (.bool (mayB a b)) ∧ w = w' := by
  by_cases h1 : 1 ≤ b
  · by_cases h2 : b ≤ 64
    · by_cases h3 : 0 ≤ a
      · by_cases h4 : a ≤ 64 - b
        · go_enter Try.func20, Try.ntmps20
          go_wp2
          go_ret
          exact ⟨by simp [mayB, *], rfl⟩
        · go_enter Try.func20, Try.ntmps20
          go_wp2
          go_ret
          exact ⟨by simp [mayB, *], rfl⟩
      · go_enter Try.func20, Try.ntmps20
        go_wp2
        go_ret
        exact ⟨by have : ¬ 0 ≤ a := by omega
                  simp [mayB, this], rfl⟩
    · go_enter Try.func20, Try.ntmps20
      go_wp2
      go_ret
      exact ⟨by have : ¬ b ≤ 64 := by omega
                simp [mayB, this], rfl⟩
  · go_enter Try.func20, Try.ntmps20
    go_wp2
    go_ret
    exact ⟨by have : ¬ 1 ≤ b := by omega
              simp [mayB, this], rfl⟩

theorem fitB_int (v b : Nat) : fitB v b = decide (v ≤ maskN b) := by simp [fitB]

set_option maxHeartbeats 400000 in
theorem rFits_any (v b : Nat) (w : World) (hv : v < 18446744073709551616) (hb : b ≤ 64) :
    Calls Try.prog 24 #[.int .u64 v, .int .i64 b] w fun e w' => e = .returned (.bool (fitB v b)) ∧ w = w' := by
  have hf : fitB v b = decide (v < 2 ^ b) := by rw [fitB_int]; simp only [fits_iff]
  by_cases h1 : b = 64
  · subst h1
    rw [decide_eq_true (by rw [pow64]; exact hv)] at hf
    have HF := Lib.hid hf; clear hf
    go_enter Try.func24, Try.ntmps24
    go_wp2
    go_ret
    exact ⟨ret_bool HF.out.symm, rfl⟩
  · have hlt : b < 64 := by omega
    by_cases h2 : v < twoN b
    · have h2' : (v : Int) < (twoN b : Int) := by omega
      rw [decide_eq_true (by exact h2)] at hf
      have HF := Lib.hid hf; clear hf
      go_enter Try.func24, Try.ntmps24
      go_wp2_with (go_at_call 31; refine (rTwo_any b _ (by omega)).mono ?_; rintro e w' ⟨rfl, rfl⟩)
      go_ret
      exact ⟨ret_bool HF.out.symm, rfl⟩
    · have h2' : ¬ (v : Int) < (twoN b : Int) := by omega
      rw [decide_eq_false (by exact h2)] at hf
      have HF := Lib.hid hf; clear hf
      have hd : decide ((64 : Int) ≤ (b : Int)) = false := by simp; omega
      go_enter Try.func24, Try.ntmps24
      go_wp2_with (go_at_call 31; refine (rTwo_any b _ (by omega)).mono ?_; rintro e w' ⟨rfl, rfl⟩)
      go_ret
      exact ⟨ret_bool (by rw [HF.out]), rfl⟩

set_option maxHeartbeats 400000 in
theorem rField_any (x a b : Nat) (w : World) (hb : 1 ≤ b) (hab : a + b ≤ 64) :
    Calls Try.prog 21 #[.int .u64 x, .int .i64 a, .int .i64 b] w fun e w' => e = .returned (.int .u64 (fieldN x a b)) ∧ w = w' := by
  go_enter Try.func21, Try.ntmps21
  go_wp2
  go_loop [7, 8] (fun v i => ∃ k : Nat, k ≤ b ∧ i = .int .i64 ((k : Int) - 1) ∧ v = .int .u64 (fieldN x (a + k) (b - k))) (fun _ i => (intOf i + 1).toNat)
  case atStart => exact ⟨b, Nat.le_refl _, rfl, by rw [Nat.sub_self, fieldN_zero]; rfl⟩
  case round =>
    obtain ⟨k, hk, rfl, rfl⟩ := hrel
    cases k with
    | zero =>
      go_wp2
      go_ret
      exact ⟨by simp, rfl⟩
    | succ k =>
      have h1 := fieldN_lt63 x (a + (k + 1)) (b - (k + 1)) (by omega)
      have h2 := fieldN_step' x (a + k) (b - (k + 1))
      rw [show b - (k + 1) + 1 = b - k by omega, show a + k + 1 = a + (k + 1) by omega] at h2
      have h3 := bitN_lt x (a + k)
      generalize hF : fieldN x (a + (k + 1)) (b - (k + 1)) = F at *
      have H2 := Lib.hid h2; clear h2 hF
      rw [show (((k + 1 : Nat) : Int) - 1) = (k : Int) by omega]
      go_wp2_with (go_at_call 30; refine (rBit_any x (a + k) _ (by omega)).mono ?_; rintro e w' ⟨rfl, rfl⟩)
      go_round
      case rel => exact ⟨k, by omega, by go_num, by rw [H2.out]; go_num⟩
      case measure => simp [intOf] <;> omega

set_option maxHeartbeats 1000000 in
theorem rWith_any (x a b v : Nat) (w : World) (hx : x < 18446744073709551616) (hb : 1 ≤ b) (hab : a + b ≤ 64) :
    Calls Try.prog 25 #[.int .u64 x, .int .i64 a, .int .i64 b, .int .u64 v] w fun e w' => e = .returned (.int .u64 (withN x a b v)) ∧ w = w' := by
  go_enter Try.func25, Try.ntmps25
  go_wp2
  go_loop [9, 10] (fun o i => ∃ k : Nat, k ≤ 64 ∧ i = .int .i64 ((k : Int) - 1) ∧ o = .int .u64 (upN x a b v k)) (fun _ i => (intOf i + 1).toNat)
  case atStart => exact ⟨64, Nat.le_refl _, rfl, by rw [upN_64 x a b v hx hab]; rfl⟩
  case round =>
    obtain ⟨k, hk, rfl, rfl⟩ := hrel
    cases k with
    | zero =>
      have h0 := Lib.hid (upN_zero x a b v)
      go_wp2
      go_ret
      exact ⟨ret_u64 (by rw [h0.out]), rfl⟩
    | succ k =>
      have h1 := upN_lt x a b v (k + 1) hx hab (by omega)
      have h2 := upN_step x a b v k
      generalize hF : upN x a b v (k + 1) = F at *
      clear hF
      rw [show (((k + 1 : Nat) : Int) - 1) = (k : Int) by omega]
      by_cases g1 : a ≤ k
      · by_cases g2 : k < a + b
        · have h3 := bitN_lt v (k - a)
          rw [wbitN, if_pos ⟨g1, g2⟩] at h2
          have H2 := Lib.hid h2; clear h2
          have e3 : ((k : Int) - a) = ((k - a : Nat) : Int) := by omega
          have E3 := Lib.hid e3; clear e3
          go_wp2_with (first | (go_at_call 30; refine (rBit_any x k _ (by omega)).mono ?_; rintro e w' ⟨rfl, rfl⟩) | (go_at_call 30; rw [E3.out]; refine (rBit_any v (k - a) _ (by omega)).mono ?_; rintro e w' ⟨rfl, rfl⟩))
          go_round
          case rel => exact ⟨k, by omega, by go_num, by rw [H2.out]; go_num⟩
          case measure => simp [intOf] <;> omega
        · have h3 := bitN_lt x k
          rw [wbitN, if_neg (by omega)] at h2
          have H2 := Lib.hid h2; clear h2
          go_wp2_with (go_at_call 30; refine (rBit_any x k _ (by omega)).mono ?_; rintro e w' ⟨rfl, rfl⟩)
          go_round
          case rel => exact ⟨k, by omega, by go_num, by rw [H2.out]; go_num⟩
          case measure => simp [intOf] <;> omega
      · have h3 := bitN_lt x k
        rw [wbitN, if_neg (by omega)] at h2
        have H2 := Lib.hid h2; clear h2
        go_wp2_with (go_at_call 30; refine (rBit_any x k _ (by omega)).mono ?_; rintro e w' ⟨rfl, rfl⟩)
        go_round
        case rel => exact ⟨k, by omega, by go_num, by rw [H2.out]; go_num⟩
        case measure => simp [intOf] <;> omega

set_option maxHeartbeats 400000 in
theorem rGet_any (x : Nat) (a b : Int) (w : World) (hb : -9223372036854775808 ≤ b) (hb' : b ≤ 9223372036854775807) :
    Calls Try.prog 9 #[.int .u64 x, .int .i64 a, .int .i64 b] w fun e w' => e = .returned (.tuple #[.int .u64 (getV x a b), .int .i64 (getE a b)]) ∧ w = w' := by
  cases hm : mayB a b with
  | false =>
    have E1 := Lib.hid (show getV x a b = 0 by simp [getV, hm])
    have E2 := Lib.hid (show getE a b = 2 by simp [getE, hm])
    go_enter Try.func9, Try.ntmps9
    go_wp2_with (go_at_call 20; refine (rIs_any _ _ _ hb hb').mono ?_; rintro e w' ⟨rfl, rfl⟩)
    go_ret2
    exact ⟨by rw [E1.out, E2.out]; rfl, rfl⟩
  | true =>
    obtain ⟨h1, h2, h3, h4⟩ := (mayB_iff a b).1 hm
    have E1 := Lib.hid (show getV x a b = fieldN x a.toNat b.toNat by simp [getV, hm])
    have E2 := Lib.hid (show getE a b = 0 by simp [getE, hm])
    obtain ⟨a, rfl⟩ := Int.eq_ofNat_of_zero_le h3
    obtain ⟨b, rfl⟩ := Int.eq_ofNat_of_zero_le (show 0 ≤ b by omega)
    go_enter Try.func9, Try.ntmps9
    go_wp2_with (first | (go_at_call 20; refine (rIs_any _ _ _ hb hb').mono ?_; rintro e w' ⟨rfl, rfl⟩) | (go_at_call 21; refine (rField_any x a b _ (by omega) (by omega)).mono ?_; rintro e w' ⟨rfl, rfl⟩))
    go_ret2
    exact ⟨by rw [E1.out, E2.out]; rfl, rfl⟩

set_option maxHeartbeats 400000 in
theorem rPut_any (x v : Nat) (a b : Int) (w : World) (hx : x < 18446744073709551616) (hv : v < 18446744073709551616) (hb : -9223372036854775808 ≤ b) (hb' : b ≤ 9223372036854775807) :
    Calls Try.prog 11 #[.int .u64 x, .int .i64 a, .int .i64 b, .int .u64 v] w fun e w' => e = .returned (.tuple #[.int .u64 (putV x a b v), .int .i64 (putE a b v)]) ∧ w = w' := by
  cases hm : mayB a b with
  | false =>
    have E1 := Lib.hid (show putV x a b v = 0 by simp [putV, hm])
    have E2 := Lib.hid (show putE a b v = 2 by simp [putE, hm])
    go_enter Try.func11, Try.ntmps11
    go_wp2_with (go_at_call 20; refine (rIs_any _ _ _ hb hb').mono ?_; rintro e w' ⟨rfl, rfl⟩)
    go_ret2
    exact ⟨by rw [E1.out, E2.out]; rfl, rfl⟩
  | true =>
    obtain ⟨h1, h2, h3, h4⟩ := (mayB_iff a b).1 hm
    obtain ⟨a, rfl⟩ := Int.eq_ofNat_of_zero_le h3
    obtain ⟨b, rfl⟩ := Int.eq_ofNat_of_zero_le (show 0 ≤ b by omega)
    cases hf : fitB v b with
    | false =>
      have E1 := Lib.hid (show putV x a b v = 0 by simp [putV, hm, hf])
      have E2 := Lib.hid (show putE a b v = 10 by simp [putE, hm, hf])
      go_enter Try.func11, Try.ntmps11
      go_wp2_with (first | (go_at_call 20; refine (rIs_any _ _ _ hb hb').mono ?_; rintro e w' ⟨rfl, rfl⟩) | (go_at_call 24; refine (rFits_any v b _ hv (by omega)).mono ?_; rintro e w' ⟨rfl, rfl⟩))
      go_ret2
      exact ⟨by rw [E1.out, E2.out]; rfl, rfl⟩
    | true =>
      have E1 := Lib.hid (show putV x a b v = withN x a b v by simp [putV, hm, hf])
      have E2 := Lib.hid (show putE a b v = 0 by simp [putE, hm, hf])
      go_enter Try.func11, Try.ntmps11
      go_wp2_with (first | (go_at_call 20; refine (rIs_any _ _ _ hb hb').mono ?_; rintro e w' ⟨rfl, rfl⟩) | (go_at_call 24; refine (rFits_any v b _ hv (by omega)).mono ?_; rintro e w' ⟨rfl, rfl⟩) | (go_at_call 25; refine (rWith_any x a b v _ hx (by omega) (by omega)).mono ?_; rintro e w' ⟨rfl, rfl⟩))
      go_ret2
      exact ⟨by rw [E1.out, E2.out]; rfl, rfl⟩

end Go.Proofs.Ytmjgmfoaagomgaa
