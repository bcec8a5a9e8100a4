/- Contracts of package post's small functions. -/
import Derived.Test.YtecjbgddjejjdaaDoorChecked
import Derived.WalkKit
import Derived.WalkSpells
import Derived.RowKit3
import Derived.Below
import Derived.Laws.BitsLemmas
import Derived.Lib.Hide
import Derived.WalkSmall
import Derived.Deep.QuietTactic
import Derived.BigQuiet
import Derived.Deep.RegionHeld3
import Derived.Deep.RegionLaw
namespace Go.Proofs.YtecjbgddjejjdaaDoor
open Go.RowKit

/-- A cell, as a value. -/
def cellV (t a b c : Nat) : Value := .agg #[.int .u64 t, .int .u64 a, .int .u64 b, .int .u64 c]
def toldV (s t a b c : Nat) : Value :=
  if s = t then .tuple #[.agg #[.int .i64 ((a % 65536 : Nat) : Int), .int .u32 ((b % 4294967296 : Nat) : Int), .slice none 0 0], .int .u64 (c : Int), .bool true]
  else .tuple #[.agg #[.int .i64 0, .int .u32 0, .slice none 0 0], .int .u64 0, .bool false]

theorem ret_boolp {a b : Bool} (h : a = b) : Ending.returned (.bool a) = .returned (.bool b) := by rw [h]
theorem u16_int (a : Nat) : IntKind.i64.wrap ((a : Int).tmod 65536) = (a : Int) % 65536 := by rw [Int.tmod_eq_emod_of_nonneg (by omega), IntKind.wrap_i64]; omega
theorem u32_int (b : Nat) : IntKind.u32.wrap (b : Int) = ((b % 4294967296 : Nat) : Int) := by simp [IntKind.wrap, IntKind.bits, IntKind.signed]
theorem u32_int' (b : Nat) : IntKind.u32.wrap ((b : Int).tmod 4294967296) = (b : Int) % 4294967296 := by rw [Int.tmod_eq_emod_of_nonneg (by omega)]; simp [IntKind.wrap, IntKind.bits, IntKind.signed]

set_option maxHeartbeats 1600000 in
theorem Told_any (s t a b c : Nat) (w : World) :
    Calls Tryd.prog 12 #[.int .u64 s, .agg #[.int .u64 t, .int .u64 a, .int .u64 b, .int .u64 c]] w fun e w' => e = .returned (toldV s t a b c) ∧ Below w.heap.size w w' := by
  by_cases h : s = t
  · subst h
    go_enter Tryd.func12, Tryd.ntmps12
    go_wp2_with fail
    go_region_law (fail)
    all_goals go_wp2
    all_goals (try simp only [Exit.inBlock, Exit.then])
    all_goals refine bodyPost_ret (v := toldV s s a b c) (by simp [results, Tryd.f12, go_sem, toldV, u16_int, u32_int]) rfl ⟨rfl, by (repeat (first | exact Below.refl _ _ | assumption | apply Below.drew | apply below_drewN | (refine Below.alloc ?_ (by simp <;> omega) _) | (refine Below.setCell ?_ (by simp <;> omega) _)))⟩
  · have hb : ((s : Int) == (t : Int)) = false := by simp; omega
    go_enter Tryd.func12, Tryd.ntmps12
    go_wp2_with fail
    (try simp only [Exit.inBlock, Exit.then])
    refine bodyPost_ret (v := toldV s t a b c) (by simp [results, Tryd.f12, go_sem, toldV, h]) rfl ⟨rfl, by (repeat (first | exact Below.refl _ _ | assumption | apply Below.drew | apply below_drewN | (refine Below.alloc ?_ (by simp <;> omega) _) | (refine Below.setCell ?_ (by simp <;> omega) _)))⟩

theorem Pending_any (t a b c t' a' b' c' : Nat) (w : World) :
    Calls Tryd.prog 20 #[.agg #[.int .u64 t, .int .u64 a, .int .u64 b, .int .u64 c], .agg #[.int .u64 t', .int .u64 a', .int .u64 b', .int .u64 c']] w fun e w' => e = .returned (.bool (decide (t' < t))) ∧ Below w.heap.size w w' := by
  go_enter Tryd.func20, Tryd.ntmps20
  go_wp2_with fail
  go_ret
  exact ⟨ret_boolp (by simp), by (repeat (first | exact Below.refl _ _ | assumption | apply Below.drew | apply below_drewN | (refine Below.alloc ?_ (by simp <;> omega) _) | (refine Below.setCell ?_ (by simp <;> omega) _)))⟩

def tellV (s n x y : Int) : Value := .agg #[.int .u64 s, .int .u64 (IntKind.u64.wrap x), .int .u64 y, .int .u64 n]

theorem Tell_any (s n x y : Int) (v : Value) (w : World) (_h2 : 0 ≤ y ∧ y < 4294967296) :
    Calls Tryd.prog 14 #[.int .u64 s, .int .u64 n, .agg #[.int .i64 x, .int .u32 y, v]] w fun e w' => e = .returned (tellV s n x y) ∧ Below w.heap.size w w' := by
  go_enter Tryd.func14, Tryd.ntmps14
  go_wp2_with fail
  (try simp only [Exit.inBlock, Exit.then])
  refine bodyPost_ret (v := tellV s n x y) (by simp [results, Tryd.f14, go_sem, tellV]) rfl ⟨rfl, by (repeat (first | exact Below.refl _ _ | assumption | apply Below.drew | apply below_drewN | (refine Below.alloc ?_ (by simp <;> omega) _) | (refine Below.setCell ?_ (by simp <;> omega) _)))⟩

theorem SameRows_nil (w : World) :
    Calls Tryd.prog 36 #[.slice none 0 0, .slice none 0 0] w fun e w' => e = .returned (.bool true) ∧ w = w' := by
  go_enter Tryd.func36, Tryd.ntmps36
  go_wp2_with fail
  go_loop [5] (fun i => i = .int .i64 0) (fun _ => 0)
  case atStart => rfl
  case round =>
    obtain rfl := hrel
    go_wp2_with fail
    go_ret
    exact ⟨rfl, rfl⟩

theorem SameRes_any (x y : Int) (w : World) :
    Calls Tryd.prog 15 #[.agg #[.int .i64 x, .int .u32 y, .slice none 0 0], .agg #[.int .i64 x, .int .u32 y, .slice none 0 0]] w fun e w' => e = .returned (.bool true) ∧ Below w.heap.size w w' := by
  go_enter Tryd.func15, Tryd.ntmps15
  go_wp2_with (go_at_call 36; refine (SameRows_nil _).mono ?_; rintro e w' ⟨rfl, rfl⟩)
  go_ret
  exact ⟨rfl, by (repeat (first | exact Below.refl _ _ | assumption | apply Below.drew | apply below_drewN | (refine Below.alloc ?_ (by simp <;> omega) _) | (refine Below.setCell ?_ (by simp <;> omega) _)))⟩

end Go.Proofs.YtecjbgddjejjdaaDoor
