/- Plain: a fresh memory is noughts but for its control. -/
import Derived.Test.YtecjbgddjejjdaaPlainDrain
import Derived.Test.YtecjbgddjejjdaaPartN
namespace Go.Proofs.Ytecjbgddjejjdaa
open Go.RowKit

theorem fresh_at (c : Cfg) {n : Nat} (h : n ≠ 2) : (freshL c).getD n .zero = .zero := by
  unfold freshL
  by_cases h2 : 2 < allN c.shp
  · rw [getD_set _ _ _ _ _ (by rw [zeros_len]; exact h2), if_neg (fun e => h e.symm)]
    exact zeros_at _ _
  · rw [List.set_eq_of_length_le (by rw [zeros_len]; omega)]
    exact zeros_at _ _

end Go.Proofs.Ytecjbgddjejjdaa
