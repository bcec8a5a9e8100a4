/- Contracts of package cell: what is done with one cell. -/
import Derived.Test.YtecjbgddjejjdaaCels
import Derived.WalkKit
import Derived.Deep.RegionHeld3
import Derived.Deep.QuietTactic
import Derived.BigQuiet
import Derived.BigRegion
import Derived.StillTailTactics
import Derived.Maps.AppendAt
import Derived.Deep.AppendLies
import Derived.Laws.AppendOwn
import Derived.Laws.OwnMore
import Derived.Laws.AppendOwnNone
namespace Go.Proofs.Ytecjbgddjejjdaa
open Go.RowKit


theorem celsV_set1 : ∀ (l : List Cel) (k a : Nat), k < l.length → celsV (l.set k ⟨(l.getD k .zero).t, a, (l.getD k .zero).b, (l.getD k .zero).c⟩) = (celsV l).set (k * 4 + 1) (.int .u64 a)
  | [], k, a, h => by simp at h
  | y :: l, 0, a, _ => rfl
  | y :: l, k + 1, a, h => by
    have ih := celsV_set1 l k a (by simpa using h)
    rw [show (k + 1) * 4 = k * 4 + 4 from by omega, celsV_cons]
    show celsV (y :: l.set k ⟨(l.getD k .zero).t, a, (l.getD k .zero).b, (l.getD k .zero).c⟩) = _
    rw [celsV_cons, ih]
    rfl
theorem own_stored1 {W : World} {B g cap : Nat} {l : List Cel} (h : Own W B (.slice (some ⟨g, 0, none⟩) l.length cap) l) {k : Nat} (hk : k < l.length) (a : Nat) :
    Own (W.setCell ⟨g, k * 4 + 1, none⟩ (.int .u64 a)) B (.slice (some ⟨g, 0, none⟩) l.length cap) (l.set k ⟨(l.getD k .zero).t, a, (l.getD k .zero).b, (l.getD k .zero).c⟩) ∧ W.grownBy (W.setCell ⟨g, k * 4 + 1, none⟩ (.int .u64 a)) (some g) := by
  have h0 := World.ownsRow.stored h (k * 4 + 1) (.int .u64 a)
  refine ⟨?_, h0.2⟩
  unfold Own
  rw [celsV_set1 l k a hk, List.length_set]
  exact h0.1
theorem u64_add (a b : Nat) : IntKind.u64.wrap ((a : Int) + (b : Int)) = (((a + b) % 18446744073709551616 : Nat) : Int) := by
  rw [IntKind.wrap_u64]; omega
def plusN (a b : Nat) : Nat := (a + b) % 18446744073709551616

end Go.Proofs.Ytecjbgddjejjdaa
