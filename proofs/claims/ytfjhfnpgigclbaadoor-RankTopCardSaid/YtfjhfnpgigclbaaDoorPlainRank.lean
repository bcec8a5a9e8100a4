/- Plain: numbers of nodes. -/
import Derived.Laws.BitsLemmas
namespace Go.Proofs.YtfjhfnpgigclbaaDoor

/-- The depth of a node's number. -/
def deepN : Nat → Nat → Nat
  | 0, _ => 0
  | f + 1, n => if n ≤ 1 then 0 else 1 + deepN f (n / 2)
def deep (n : Nat) : Nat := deepN 7 n

theorem deep_at : ∀ n, n < 128 → ∀ d, d < 8 → n / 2 ^ d ≤ 1 → 1 ≤ n / 2 ^ d → deep n = d := by decide +kernel
theorem deep_le : ∀ n, n < 128 → deep n ≤ 6 := by decide +kernel
theorem deep_pos : ∀ n, n < 128 → 1 ≤ n → 1 ≤ n / 2 ^ deep n ∧ n / 2 ^ deep n ≤ 1 := by decide +kernel
theorem two_div (n d : Nat) : n / 2 ^ d / 2 = n / 2 ^ (d + 1) := by rw [Nat.pow_succ, Nat.div_div_eq_div_mul]
theorem low_lt : ∀ n, n < 128 → ∀ d, d < 8 → 2 ≤ n / 2 ^ d → d < 6 := by decide +kernel
theorem or_node : ∀ l, l < 7 → ∀ p, p < 64 → p < 2 ^ l → (2 ^ l ||| p) = 2 ^ l + p := by decide +kernel

end Go.Proofs.YtfjhfnpgigclbaaDoor
