/- Contracts of package pack's small functions. -/
import Derived.Test.YtmjgmfoaagomgaaChecked
import Derived.Test.YtmjgmfoaagomgaaPlainPlaces
import Derived.WalkKit
import Derived.WalkSpells
import Derived.RowKit3
import Derived.Below
import Derived.Lib.Hide
import Derived.WalkSmall
import Derived.Deep.QuietTactic
import Derived.BigQuiet
import Derived.Deep.RegionHeld3
import Derived.Deep.RegionLaw
namespace Go.Proofs.Ytmjgmfoaagomgaa
open Go.RowKit

set_option maxHeartbeats 400000 in
theorem may_any (a b : Int) (w : World) (hb : -9223372036854775808 ≤ b) (hb' : b ≤ 9223372036854775807) :
    Calls Try.prog 18 #[.int .i64 a, .int .i64 b] w fun e w' => e = .returned (.bool (mayB a b)) ∧ w = w' := by
  by_cases h1 : 1 ≤ b
  · by_cases h2 : b ≤ 64
    · by_cases h3 : 0 ≤ a
      · by_cases h4 : a ≤ 64 - b
        · go_enter Try.func18, Try.ntmps18
          go_wp2
          go_ret
          exact ⟨by simp [mayB, *], rfl⟩
        · go_enter Try.func18, Try.ntmps18
          go_wp2
          go_ret
          exact ⟨by simp [mayB, *], rfl⟩
      · go_enter Try.func18, Try.ntmps18
        go_wp2
        go_ret
        exact ⟨by have : ¬ 0 ≤ a := by omega
                  simp [mayB, this], rfl⟩
    · go_enter Try.func18, Try.ntmps18
      go_wp2
      go_ret
      exact ⟨by have : ¬ b ≤ 64 := by omega
                simp [mayB, this], rfl⟩
  · go_enter Try.func18, Try.ntmps18
    go_wp2
    go_ret
    exact ⟨by have : ¬ 1 ≤ b := by omega
              simp [mayB, this], rfl⟩

theorem ret_bool {a b : Bool} (h : a = b) : Ending.returned (.bool a) = .returned (.bool b) := by rw [h]
theorem ret_u64 {a b : Int} (h : a = b) : Ending.returned (.int .u64 a) = .returned (.int .u64 b) := by rw [h]

set_option maxHeartbeats 400000 in
theorem mask_any (b : Nat) (w : World) (hb : b ≤ 64) :
    Calls Try.prog 22 #[.int .i64 b] w fun e w' => e = .returned (.int .u64 (maskN b)) ∧ w = w' := by
  by_cases h : b = 64
  · subst h
    go_enter Try.func22, Try.ntmps22
    go_wp2
    go_ret
    exact ⟨ret_u64 maskN_64.symm, rfl⟩
  · have hlt : b < 64 := by omega
    go_enter Try.func22, Try.ntmps22
    go_wp2
    go_ret
    exact ⟨ret_u64 (by simpa using maskN_int b hlt), rfl⟩

theorem mask_quiet (b : Nat) (w : World) (hb : b ≤ 64) :
    Calls Try.prog 22 #[.int .i64 b] w fun e w' => e = .returned (.int .u64 (maskN b)) ∧ w' = w :=
  (mask_any b w hb).mono fun _ _ h => ⟨h.1, h.2.symm⟩

set_option maxHeartbeats 400000 in
theorem get_any (x a b : Nat) (bl : Nat) (w : World) (hc : w.cell? ⟨bl, 0, none⟩ = some (.int .u64 x)) (hx : x < 18446744073709551616) (ha : a < 64) (hb : b ≤ 64) :
    Calls Try.prog 19 #[.pointer (some ⟨bl, 0, none⟩), .int .i64 a, .int .i64 b] w fun e w' => e = .returned (.int .u64 (fieldN x a b)) ∧ ∃ n, w' = w.drewN n := by
  go_enter Try.func19, Try.ntmps19
  go_wp2
  go_quiet ((go_at_call 22; exact Calls.quiet_of_same (mask_quiet _ _ hb)))
  go_wp2
  go_ret
  exact ⟨ret_u64 (field_int x a b hx hb), _, rfl⟩

set_option maxHeartbeats 400000 in
theorem put_any (x a b v : Nat) (bl : Nat) (w : World) (hc : w.cell? ⟨bl, 0, none⟩ = some (.int .u64 x)) (hf : w.frozen? ⟨bl, 0, none⟩ = false) (hx : x < 18446744073709551616) (ha : a < 64) (hb : b ≤ 64) (hab : a + b ≤ 64) (hv : v ≤ maskN b) :
    Calls Try.prog 23 #[.pointer (some ⟨bl, 0, none⟩), .int .i64 a, .int .i64 b, .int .u64 v] w fun e w' => e = .returned (.tuple #[]) ∧ w' = (w.setCell ⟨bl, 0, none⟩ (.int .u64 (withN x a b v))).drew := by
  have hp := put_int x a b v hx hab hv
  have HP := Lib.hid hp
  clear hp
  go_enter Try.func23, Try.ntmps23
  go_wp2
  go_region_law (go_simp; go_at_call 22; refine (mask_any _ _ hb).mono ?_; rintro e w' ⟨rfl, rfl⟩)
  all_goals (go_wp2; go_end0)
  all_goals exact ⟨rfl, by rw [HP.out]⟩

/-! ### Get and Put, by what they answer -/

/-- Get's answer: the number, and the error. -/
def getV (w : Nat) (a b : Int) : Nat := if mayB a b then fieldN w a.toNat b.toNat else 0
def getE (a b : Int) : Int := if mayB a b then 0 else 2
/-- Put's. -/
def putV (w : Nat) (a b : Int) (v : Nat) : Nat := if mayB a b then (if fitB v b then withN w a.toNat b.toNat v else 0) else 0
def putE (a b : Int) (v : Nat) : Int := if mayB a b then (if fitB v b then 0 else 10) else 2

set_option maxHeartbeats 400000 in
theorem Get_any (x : Nat) (a b : Int) (w : World) (hx : x < 18446744073709551616) (hb : -9223372036854775808 ≤ b) (hb' : b ≤ 9223372036854775807) :
    Calls Try.prog 8 #[.int .u64 x, .int .i64 a, .int .i64 b] w fun e w' => e = .returned (.tuple #[.int .u64 (getV x a b), .int .i64 (getE a b)]) ∧ Below w.heap.size w w' := by
  cases hm : mayB a b with
  | false =>
    have e1 : getV x a b = 0 := by simp [getV, hm]
    have e2 : getE a b = 2 := by simp [getE, hm]
    have E1 := Lib.hid e1; clear e1
    have E2 := Lib.hid e2; clear e2
    go_enter Try.func8, Try.ntmps8
    go_wp2_with (go_at_call 18; refine (may_any _ _ _ hb hb').mono ?_; rintro e w' ⟨rfl, rfl⟩)
    go_ret2
    exact ⟨by rw [E1.out, E2.out]; rfl, Below.refl _ _⟩
  | true =>
    obtain ⟨h1, h2, h3, h4⟩ := (mayB_iff a b).1 hm
    have e1 : getV x a b = fieldN x a.toNat b.toNat := by simp [getV, hm]
    have e2 : getE a b = 0 := by simp [getE, hm]
    have E1 := Lib.hid e1; clear e1
    have E2 := Lib.hid e2; clear e2
    obtain ⟨a, rfl⟩ := Int.eq_ofNat_of_zero_le h3
    obtain ⟨b, rfl⟩ := Int.eq_ofNat_of_zero_le (show 0 ≤ b by omega)
    go_enter Try.func8, Try.ntmps8
    go_wp2_with (first | (go_at_call 18; refine (may_any _ _ _ hb hb').mono ?_; rintro e w' ⟨rfl, rfl⟩) | (go_at_call 19; refine (get_any x a b _ _ (by simp [go_sem]) hx (by omega) (by omega)).mono ?_; rintro e w' ⟨rfl, n, rfl⟩))
    go_ret2
    exact ⟨by rw [E1.out, E2.out]; rfl, by (repeat (first | exact Below.refl _ _ | assumption | apply Below.drew | apply below_drewN | (refine Below.alloc ?_ (by simp <;> omega) _) | (refine Below.setCell ?_ (by simp <;> omega) _)))⟩

set_option maxHeartbeats 400000 in
theorem Put_any (x v : Nat) (a b : Int) (w : World) (hx : x < 18446744073709551616) (hb : -9223372036854775808 ≤ b) (hb' : b ≤ 9223372036854775807) :
    Calls Try.prog 10 #[.int .u64 x, .int .i64 a, .int .i64 b, .int .u64 v] w fun e w' => e = .returned (.tuple #[.int .u64 (putV x a b v), .int .i64 (putE a b v)]) ∧ Below w.heap.size w w' := by
  cases hm : mayB a b with
  | false =>
    have e1 : putV x a b v = 0 := by simp [putV, hm]
    have e2 : putE a b v = 2 := by simp [putE, hm]
    have E1 := Lib.hid e1; clear e1
    have E2 := Lib.hid e2; clear e2
    go_enter Try.func10, Try.ntmps10
    go_wp2_with (go_at_call 18; refine (may_any _ _ _ hb hb').mono ?_; rintro e w' ⟨rfl, rfl⟩)
    go_ret2
    exact ⟨by rw [E1.out, E2.out]; rfl, Below.refl _ _⟩
  | true =>
    obtain ⟨h1, h2, h3, h4⟩ := (mayB_iff a b).1 hm
    obtain ⟨a, rfl⟩ := Int.eq_ofNat_of_zero_le h3
    obtain ⟨b, rfl⟩ := Int.eq_ofNat_of_zero_le (show 0 ≤ b by omega)
    cases hv : fitB v b with
    | false =>
      have e1 : putV x a b v = 0 := by simp [putV, hm, hv]
      have e2 : putE a b v = 10 := by simp [putE, hm, hv]
      have E1 := Lib.hid e1; clear e1
      have E2 := Lib.hid e2; clear e2
      have hv' : maskN b < v := by simpa [fitB] using hv
      clear hv
      go_enter Try.func10, Try.ntmps10
      go_wp2_with (first | (go_at_call 18; refine (may_any _ _ _ hb hb').mono ?_; rintro e w' ⟨rfl, rfl⟩) | (go_at_call 22; refine (mask_any b _ (by omega)).mono ?_; rintro e w' ⟨rfl, rfl⟩))
      go_ret2
      exact ⟨by rw [E1.out, E2.out]; rfl, Below.refl _ _⟩
    | true =>
      have e1 : putV x a b v = withN x a b v := by simp [putV, hm, hv]
      have e2 : putE a b v = 0 := by simp [putE, hm, hv]
      have E1 := Lib.hid e1; clear e1
      have E2 := Lib.hid e2; clear e2
      have hv' : v ≤ maskN b := by simpa [fitB] using hv
      clear hv
      go_enter Try.func10, Try.ntmps10
      go_wp2_with (first | (go_at_call 18; refine (may_any _ _ _ hb hb').mono ?_; rintro e w' ⟨rfl, rfl⟩) | (go_at_call 22; refine (mask_any b _ (by omega)).mono ?_; rintro e w' ⟨rfl, rfl⟩) | (go_at_call 23; refine (put_any x a b v _ _ (by simp [go_sem]) (by simp [go_sem]) hx (by omega) (by omega) (by omega) hv').mono ?_; rintro e w' ⟨rfl, rfl⟩))
      go_ret2
      exact ⟨by rw [E1.out, E2.out]; rfl, by (repeat (first | exact Below.refl _ _ | assumption | apply Below.drew | apply below_drewN | (refine Below.alloc ?_ (by simp <;> omega) _) | (refine Below.setCell ?_ (by simp <;> omega) _)))⟩

end Go.Proofs.Ytmjgmfoaagomgaa
