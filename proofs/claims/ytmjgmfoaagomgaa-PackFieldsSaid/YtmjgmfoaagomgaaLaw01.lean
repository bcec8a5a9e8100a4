/- The walks of the laws of layer 1 that take no lists. -/
import Derived.Test.YtmjgmfoaagomgaaPackRef
namespace Go.Proofs.Ytmjgmfoaagomgaa
open Go.RowKit

set_option maxHeartbeats 400000 in
theorem walk_PackFields (n0 n1 n2 n3 : Int) (w : World) (b0 : IntKind.u64.min ≤ n0 ∧ n0 ≤ IntKind.u64.max) (_b1 : IntKind.i64.min ≤ n1 ∧ n1 ≤ IntKind.i64.max) (b2 : IntKind.i64.min ≤ n2 ∧ n2 ≤ IntKind.i64.max) (b3 : IntKind.u64.min ≤ n3 ∧ n3 ≤ IntKind.u64.max) :
    Calls Try.prog 3 #[.int .u64 n0, .int .i64 n1, .int .i64 n2, .int .u64 n3] w fun e w' => e = .returned (.bool true) ∧ Below w.heap.size w w' := by
  obtain ⟨h0, h0'⟩ := b0; obtain ⟨h2, h2'⟩ := b2; obtain ⟨h3, h3'⟩ := b3
  simp [IntKind.min, IntKind.max, IntKind.signed, IntKind.bits] at h0 h0' h2 h2' h3 h3'
  obtain ⟨x, rfl⟩ := Int.eq_ofNat_of_zero_le h0
  obtain ⟨v, rfl⟩ := Int.eq_ofNat_of_zero_le h3
  have hx : x < 18446744073709551616 := by omega
  have hv : v < 18446744073709551616 := by omega
  clear h0 h0' h3 h3'
  go_enter Try.func3, Try.ntmps3
  go_wp2_with fail
  refine (Get_any x _ _ _ hx h2 h2').mono ?_
  rintro e w1 ⟨rfl, hb1⟩
  go_wp2_with fail
  refine (rGet_any x _ _ _ h2 h2').mono ?_
  rintro e w' ⟨rfl, rfl⟩
  go_wp2_with fail
  refine (Put_any x v _ _ _ hx h2 h2').mono ?_
  rintro e w2 ⟨rfl, hb2⟩
  go_wp2_with fail
  refine (rPut_any x v _ _ _ hx hv h2 h2').mono ?_
  rintro e w' ⟨rfl, rfl⟩
  go_wp2_with fail
  go_ret
  exact ⟨rfl, hb1.trans (hb2.mono hb1.size)⟩

end Go.Proofs.Ytmjgmfoaagomgaa
