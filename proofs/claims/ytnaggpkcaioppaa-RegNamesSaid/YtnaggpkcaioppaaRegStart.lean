/- Contracts of Start, the code's and the reference's. -/
import Derived.Test.YtnaggpkcaioppaaWords
namespace Go.Proofs.Ytnaggpkcaioppaa
open Go.RowKit

def startV (k a b c : Int) : Value := .agg #[.int .u8 k, .int .u32 a, .int .u32 b, .int .u8 0, .int .u8 0, .int .u8 0, .int .u8 0, .int .u8 0, .int .u8 0, .int .u32 0, .int .u32 c]

theorem Start_any (k a b c : Int) (w : World) : Calls Try.prog 8 #[.agg #[.int .u8 k, .int .u32 a, .int .u32 b, .int .u32 c]] w fun e w' => e = .returned (startV k a b c) ∧ Below w.heap.size w w' := by
  go_enter Try.func8, Try.ntmps8
  go_wp2_with fail
  (try simp only [Exit.inBlock, Exit.then])
  refine bodyPost_ret (v := startV k a b c) (by simp [results, Try.f8, go_sem, startV]) rfl ⟨rfl, by (repeat (first | exact Below.refl _ _ | assumption | apply Below.drew | apply below_drewN | (refine Below.alloc ?_ (by simp <;> omega) _) | (refine Below.setCell ?_ (by simp <;> omega) _)))⟩

theorem rStart_any (k a b c : Int) (w : World) : Calls Try.prog 14 #[.agg #[.int .u8 k, .int .u32 a, .int .u32 b, .int .u32 c]] w fun e w' => e = .returned (startV k a b c) ∧ Below w.heap.size w w' := by
  go_enter Try.func14, Try.ntmps14
  go_wp2_with fail
  (try simp only [Exit.inBlock, Exit.then])
  refine bodyPost_ret (v := startV k a b c) (by simp [results, Try.f14, go_sem, startV]) rfl ⟨rfl, by (repeat (first | exact Below.refl _ _ | assumption | apply Below.drew | apply below_drewN | (refine Below.alloc ?_ (by simp <;> omega) _) | (refine Below.setCell ?_ (by simp <;> omega) _)))⟩

end Go.Proofs.Ytnaggpkcaioppaa
