/- Chapter 4: the reference's MayBe. -/
import Derived.Test.YtecjbgddjejjdaaDoorPart
import Derived.Test.YtecjbgddjejjdaaDoorLev
namespace Go.Proofs.YtecjbgddjejjdaaDoor
open Go.RowKit

set_option maxHeartbeats 6400000 in
theorem MayBe_any (c : Cfg) (w : World) (hk : 0 ≤ c.most) : Calls Tryd.prog 30 #[.agg #[.int .u8 c.ob, .int .i64 c.inst, .int .i64 c.thr, .int .u8 c.kd, .int .i64 c.str, .int .i64 c.bits, .int .i64 c.cap, .int .i64 c.node, .int .i64 c.bat, .int .i64 c.chk, .int .u64 c.lim, .int .u64 c.most]] w fun e w' => e = .returned (.bool (mayC c)) ∧ Below w.heap.size w w' := by
  have HB2 := Lib.hid ((Below.refl _ w).alloc (Nat.le_refl _) (.cells #[.int .u8 c.ob, .int .i64 c.inst, .int .i64 c.thr, .int .u8 c.kd, .int .i64 c.str, .int .i64 c.bits, .int .i64 c.cap, .int .i64 c.node, .int .i64 c.bat, .int .i64 c.chk, .int .u64 c.lim, .int .u64 c.most] 24))
  have hob : (c.ob == 1) = true ∧ (c.ob != 1) = false ∧ (c.ob == 2) = false ∧ (c.ob != 2) = true ∨ (c.ob == 1) = false ∧ (c.ob != 1) = true ∧ (c.ob == 2) = true ∧ (c.ob != 2) = false ∨ (c.ob == 1) = false ∧ (c.ob != 1) = true ∧ (c.ob == 2) = false ∧ (c.ob != 2) = true := by
    by_cases h1 : c.ob = 1
    · simp [h1]
    · by_cases h2 : c.ob = 2 <;> simp [h1, h2]
  rcases hob with ⟨q1, q2, q3, q4⟩ | ⟨q1, q2, q3, q4⟩ | ⟨q1, q2, q3, q4⟩
  all_goals go_enter Tryd.func30, Tryd.ntmps30
  all_goals go_wp2_with (go_at_call 55; refine (rWide_any _ _).mono ?_; rintro e w' ⟨rfl, rfl⟩)
  all_goals go_ret
  all_goals (refine ⟨?_, (Below.refl _ w).alloc (Nat.le_refl _) _⟩; clear HB2)
  all_goals first
    | (refine congrArg (fun z => Ending.returned (.bool z)) (show (c.chk == 0) = mayC c from ?_)
       refine Bool.eq_iff_iff.2 ?_
       rw [mayC_iff]
       unfold Cfg.May
       simp at *
       omega)
    | (refine congrArg (fun z => Ending.returned (.bool z)) (show decide (c.chk ≤ 8) = mayC c from ?_)
       refine Bool.eq_iff_iff.2 ?_
       rw [mayC_iff]
       unfold Cfg.May
       simp at *
       omega)
    | (refine congrArg (fun z => Ending.returned (.bool z)) (show false = mayC c from ?_)
       refine Eq.symm (decide_eq_false ?_)
       intro h
       unfold Cfg.May at h
       simp at *
       omega)
    | (refine congrArg (fun z => Ending.returned (.bool z)) (show true = mayC c from ?_)
       refine Eq.symm (decide_eq_true ?_)
       unfold Cfg.May
       simp at *
       omega)

end Go.Proofs.YtecjbgddjejjdaaDoor
