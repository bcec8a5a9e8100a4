/- The reference of op.Laid. -/
import Derived.Test.YtecjbgddjejjdaaDoorOp
namespace Go.Proofs.YtecjbgddjejjdaaDoor
open Go.RowKit

set_option maxHeartbeats 400000 in
theorem rLaid_any (s k a b c : Nat) (w : World) (hk : k < 256) (ha : a < 4294967296) (hb : b < 4294967296) (hc : c < 4294967296) :
    Calls Tryd.prog 35 #[.int .u64 s, .agg #[.int .u8 k, .int .u32 a, .int .u32 b, .int .u32 c]] w fun e w' => e = .returned (laidV s k a b c) ∧ Below w.heap.size w w' := by
  go_enter Tryd.func35, Tryd.ntmps35
  go_wp2_with fail
  (try simp only [Exit.inBlock, Exit.then])
  refine bodyPost_ret (v := laidV s k a b c) (by simp [results, Tryd.f35, go_sem, laidV]) rfl ⟨rfl, by (repeat (first | exact Below.refl _ _ | assumption | apply Below.drew | apply below_drewN | (refine Below.alloc ?_ (by simp <;> omega) _) | (refine Below.setCell ?_ (by simp <;> omega) _)))⟩

end Go.Proofs.YtecjbgddjejjdaaDoor
