/- Contracts of package pack's small functions. -/
import Derived.Test.YtecjbgddjejjdaaDoorKeep
import Derived.Test.YtecjbgddjejjdaaDoorChecked
import Derived.Test.YtecjbgddjejjdaaDoorPlainPlaces
import Derived.WalkKit
import Derived.WalkSpells
import Derived.RowKit3
import Derived.Below
import Derived.Lib.Hide
import Derived.WalkSmall
import Derived.Deep.QuietTactic
import Derived.BigQuiet
import Derived.Deep.RegionHeld3
import Derived.Deep.RegionLaw
namespace Go.Proofs.YtecjbgddjejjdaaDoor
open Go.RowKit

set_option maxHeartbeats 400000 in
theorem may_any (a b : Int) (w : World) (hb : -9223372036854775808 ≤ b) (hb' : b ≤ 9223372036854775807) :
    Calls Tryd.prog 80 #[.int .i64 a, .int .i64 b] w fun e w' => e = .returned (.bool (mayB a b)) ∧ w = w' := by
  by_cases h1 : 1 ≤ b
  · by_cases h2 : b ≤ 64
    · by_cases h3 : 0 ≤ a
      · by_cases h4 : a ≤ 64 - b
        · go_enter Tryd.func80, Tryd.ntmps80
          go_wp2
          go_ret
          exact ⟨by simp [mayB, *], rfl⟩
        · go_enter Tryd.func80, Tryd.ntmps80
          go_wp2
          go_ret
          exact ⟨by simp [mayB, *], rfl⟩
      · go_enter Tryd.func80, Tryd.ntmps80
        go_wp2
        go_ret
        exact ⟨by have : ¬ 0 ≤ a := by omega
                  simp [mayB, this], rfl⟩
    · go_enter Tryd.func80, Tryd.ntmps80
      go_wp2
      go_ret
      exact ⟨by have : ¬ b ≤ 64 := by omega
                simp [mayB, this], rfl⟩
  · go_enter Tryd.func80, Tryd.ntmps80
    go_wp2
    go_ret
    exact ⟨by have : ¬ 1 ≤ b := by omega
              simp [mayB, this], rfl⟩

theorem ret_u64 {a b : Int} (h : a = b) : Ending.returned (.int .u64 a) = .returned (.int .u64 b) := by rw [h]

set_option maxHeartbeats 400000 in
theorem mask_any (b : Nat) (w : World) (hb : b ≤ 64) :
    Calls Tryd.prog 72 #[.int .i64 b] w fun e w' => e = .returned (.int .u64 (maskN b)) ∧ w = w' := by
  by_cases h : b = 64
  · subst h
    go_enter Tryd.func72, Tryd.ntmps72
    go_wp2
    go_ret
    exact ⟨ret_u64 maskN_64.symm, rfl⟩
  · have hlt : b < 64 := by omega
    go_enter Tryd.func72, Tryd.ntmps72
    go_wp2
    go_ret
    exact ⟨ret_u64 (by simpa using maskN_int b hlt), rfl⟩

theorem mask_quiet (b : Nat) (w : World) (hb : b ≤ 64) :
    Calls Tryd.prog 72 #[.int .i64 b] w fun e w' => e = .returned (.int .u64 (maskN b)) ∧ w' = w :=
  (mask_any b w hb).mono fun _ _ h => ⟨h.1, h.2.symm⟩

set_option maxHeartbeats 400000 in
theorem get_any (x a b : Nat) (bl : Nat) (w : World) (hc : w.cell? ⟨bl, 0, none⟩ = some (.int .u64 x)) (hx : x < 18446744073709551616) (ha : a < 64) (hb : b ≤ 64) :
    Calls Tryd.prog 69 #[.pointer (some ⟨bl, 0, none⟩), .int .i64 a, .int .i64 b] w fun e w' => e = .returned (.int .u64 (fieldN x a b)) ∧ ∃ n, w' = w.drewN n := by
  go_enter Tryd.func69, Tryd.ntmps69
  go_wp2
  go_quiet ((go_at_call 72; exact Calls.quiet_of_same (mask_quiet _ _ hb)))
  go_wp2
  go_ret
  exact ⟨ret_u64 (field_int x a b hx hb), _, rfl⟩

set_option maxHeartbeats 400000 in
theorem put_any (x a b v : Nat) (bl : Nat) (w : World) (hc : w.cell? ⟨bl, 0, none⟩ = some (.int .u64 x)) (hf : w.frozen? ⟨bl, 0, none⟩ = false) (hx : x < 18446744073709551616) (ha : a < 64) (hb : b ≤ 64) (hab : a + b ≤ 64) (hv : v ≤ maskN b) :
    Calls Tryd.prog 73 #[.pointer (some ⟨bl, 0, none⟩), .int .i64 a, .int .i64 b, .int .u64 v] w fun e w' => e = .returned (.tuple #[]) ∧ w' = (w.setCell ⟨bl, 0, none⟩ (.int .u64 (withN x a b v))).drew := by
  have hp := put_int x a b v hx hab hv
  have HP := Lib.hid hp
  clear hp
  go_enter Tryd.func73, Tryd.ntmps73
  go_wp2
  go_region_law (go_simp; go_at_call 72; refine (mask_any _ _ hb).mono ?_; rintro e w' ⟨rfl, rfl⟩)
  all_goals (go_wp2; go_end0)
  all_goals exact ⟨rfl, by rw [HP.out]⟩

end Go.Proofs.YtecjbgddjejjdaaDoor
