/- The walk of RankNodes. -/
import Derived.Test.YtfjhfnpgigclbaaRank
namespace Go.Proofs.Ytfjhfnpgigclbaa
open Go.RowKit

theorem walk_RankNodes (n0 n1 n2 n3 : Int) (w : World) (_b0 : IntKind.i64.min ≤ n0 ∧ n0 ≤ IntKind.i64.max) (_b1 : IntKind.i64.min ≤ n1 ∧ n1 ≤ IntKind.i64.max) (_b2 : IntKind.i64.min ≤ n2 ∧ n2 ≤ IntKind.i64.max) (_b3 : IntKind.i64.min ≤ n3 ∧ n3 ≤ IntKind.i64.max) :
    Calls Try.prog 3 #[.int .i64 n0, .int .i64 n1, .int .i64 n2, .int .i64 n3] w fun e w' => e = .returned (.bool true) ∧ Below w.heap.size w w' := by
  go_enter Try.func3, Try.ntmps3
  go_wp2_with (first | (go_at_call 4; refine (Node_any n0 n1 _).mono ?_; rintro e w' ⟨rfl, rfl⟩) | (go_at_call 5; refine (rNode_any n0 n1 _).mono ?_; rintro e w' ⟨rfl, rfl⟩) | (go_at_call 6; refine (Depth_any n2 _).mono ?_; rintro e w' ⟨rfl, rfl⟩) | (go_at_call 7; refine (rDepth_any n2 _).mono ?_; rintro e w' ⟨rfl, rfl⟩) | (go_at_call 8; refine (Over_any n2 n3 _).mono ?_; rintro e w' ⟨rfl, rfl⟩) | (go_at_call 9; refine (rOver_any n2 n3 _).mono ?_; rintro e w' ⟨rfl, rfl⟩))
  go_ret
  exact ⟨rfl, Below.refl _ _⟩

end Go.Proofs.Ytfjhfnpgigclbaa
