/- Chapter 4: part.within, part.Check. -/
import Derived.Test.YtecjbgddjejjdaaPlainPart
import Derived.Test.YtecjbgddjejjdaaBox
import Derived.WalkKit
import Derived.Deep.RegionHeld3
import Derived.Deep.QuietTactic
import Derived.BigQuiet
import Derived.BigRegion
namespace Go.Proofs.Ytecjbgddjejjdaa
open Go.RowKit

def withinB (on : Bool) (x lo hi : Int) : Bool := if on then decide (lo ≤ x) && decide (x ≤ hi) else x == 0

theorem withinB_t (on : Bool) (x lo hi : Int) : withinB on x lo hi = true ↔ (on = true ∧ lo ≤ x ∧ x ≤ hi) ∨ (on = false ∧ x = 0) := by
  cases on <;> simp [withinB]
theorem withinB_f (on : Bool) (x lo hi : Int) : withinB on x lo hi = false ↔ ¬ ((on = true ∧ lo ≤ x ∧ x ≤ hi) ∨ (on = false ∧ x = 0)) := by
  rw [← withinB_t]; simp

theorem within_any (on : Bool) (x lo hi : Int) (w : World) : Calls Try.prog 48 #[.bool on, .int .i64 x, .int .i64 lo, .int .i64 hi] w fun e w' => e = .returned (.bool (withinB on x lo hi)) ∧ w = w' := by
  cases on with
  | false =>
    go_enter Try.func48, Try.ntmps48
    go_wp2_with fail
    go_ret
    exact ⟨rfl, rfl⟩
  | true =>
    by_cases h1 : lo ≤ x
    · by_cases h2 : x ≤ hi
      · go_enter Try.func48, Try.ntmps48
        go_wp2_with fail
        go_ret
        exact ⟨by simp [withinB, h1, h2], rfl⟩
      · go_enter Try.func48, Try.ntmps48
        go_wp2_with fail
        go_ret
        exact ⟨by simp [withinB, h1, h2], rfl⟩
    · go_enter Try.func48, Try.ntmps48
      go_wp2_with fail
      go_ret
      exact ⟨by simp [withinB]; omega, rfl⟩

def checkE (c : Cfg) : Int := if c.May then 0 else 40

set_option maxHeartbeats 6400000 in
theorem Check_any (c : Cfg) (w : World) : Calls Try.prog 41 #[.agg #[.int .u8 c.ob, .int .i64 c.inst, .int .i64 c.thr, .int .u8 c.kd, .int .i64 c.str, .int .i64 c.bits, .int .i64 c.cap, .int .i64 c.node, .int .i64 c.bat, .int .i64 c.chk, .int .u64 c.lim, .int .u64 c.most]] w fun e w' => e = .returned (.int .i64 (checkE c)) ∧ Below w.heap.size w w' := by
  go_enter Try.func41, Try.ntmps41
  go_wp2_with fail
  have hx := Box.new w 37 [.int .u8 c.ob, .int .i64 c.inst, .int .i64 c.thr, .int .u8 c.kd, .int .i64 c.str, .int .i64 c.bits, .int .i64 c.cap, .int .i64 c.node, .int .i64 c.bat, .int .i64 c.chk, .int .u64 c.lim, .int .u64 c.most]
  have HB := Lib.hid ((Below.refl _ w).alloc (Nat.le_refl _) (.cells #[.int .u8 c.ob, .int .i64 c.inst, .int .i64 c.thr, .int .u8 c.kd, .int .i64 c.str, .int .i64 c.bits, .int .i64 c.cap, .int .i64 c.node, .int .i64 c.bat, .int .i64 c.chk, .int .u64 c.lim, .int .u64 c.most] 37))
  generalize w.alloc _ = V at *
  have x0 := hx.c 0 rfl
  have x1 := hx.c 1 rfl
  have x2 := hx.c 2 rfl
  have x3 := hx.c 3 rfl
  have x4 := hx.c 4 rfl
  have x5 := hx.c 5 rfl
  have x6 := hx.c 6 rfl
  have x7 := hx.c 7 rfl
  have x8 := hx.c 8 rfl
  have x9 := hx.c 9 rfl
  have x10 := hx.c 10 rfl
  have x11 := hx.c 11 rfl
  have HX := Lib.hid hx
  clear hx
  go_quiet (fail)
  have hx := HX.out.drewN nq
  have HB2 := Lib.hid (show Below w.heap.size w (V.drewN nq) from ⟨HB.out.os, HB.out.tape, HB.out.output, HB.out.size, HB.out.block⟩)
  clear x0 x1 x2 x3 x4 x5 x6 x7 x8 x9 x10 x11 HX HB
  generalize V.drewN nq = U at *
  have x0 := hx.c 0 rfl
  have x1 := hx.c 1 rfl
  have x2 := hx.c 2 rfl
  have x3 := hx.c 3 rfl
  have x4 := hx.c 4 rfl
  have x5 := hx.c 5 rfl
  have x6 := hx.c 6 rfl
  have x7 := hx.c 7 rfl
  have x8 := hx.c 8 rfl
  have x9 := hx.c 9 rfl
  have x10 := hx.c 10 rfl
  have x11 := hx.c 11 rfl
  clear hx
  go_wp2_with (go_at_call 48; refine (within_any _ _ _ _ _).mono ?_; rintro e w1 ⟨rfl, rfl⟩)
  all_goals go_ret
  all_goals refine ⟨?_, HB2.out⟩
  all_goals clear x0 x1 x2 x3 x4 x5 x6 x7 x8 x9 x10 x11 HB2
  all_goals first
    | (refine congrArg (fun z => Ending.returned (.int .i64 z)) (show (40 : Int) = checkE c from ?_)
       unfold checkE
       rw [if_neg]
       intro h
       unfold Cfg.May at h
       simp [withinB_t, withinB_f] at *
       omega)
    | (refine congrArg (fun z => Ending.returned (.int .i64 z)) (show (0 : Int) = checkE c from ?_)
       unfold checkE
       rw [if_pos]
       unfold Cfg.May
       simp [withinB_t, withinB_f] at *
       omega)

end Go.Proofs.Ytecjbgddjejjdaa
