/- Numbers of a slice that came in. -/
import Derived.Test.YtdabhkbmdmlgcaaDoorKeep
import Derived.Test.YtdabhkbmdmlgcaaDoorFrame
namespace Go.Proofs.YtdabhkbmdmlgcaaDoor
open Go.RowKit

/-- Numbers that are read. -/
def RdI (W : World) (k : IntKind) (a : Option Addr) (n : Nat) (f : Nat → Int) : Prop := n = 0 ∨ ∃ b off, a = some ⟨b, off, none⟩ ∧ b < W.heap.size ∧ ∀ i, i < n → W.cell? ⟨b, off + i, none⟩ = some (.int k (f i))
theorem RdI.below {W W' : World} {k : IntKind} {a : Option Addr} {n : Nat} {f : Nat → Int} (h : RdI W k a n f) (hb : Below W.heap.size W W') : RdI W' k a n f := by
  rcases h with h | ⟨b, off, e, hlt, hc⟩
  · exact .inl h
  · exact .inr ⟨b, off, e, by have := hb.size; omega, fun i hi => keepC hb (hc i hi)⟩
theorem RdI.addr {W : World} {k : IntKind} {a : Option Addr} {n : Nat} {f : Nat → Int} (h : RdI W k a n f) (hn : 0 < n) : ∃ b off, a = some ⟨b, off, none⟩ := by
  rcases h with h | ⟨b, off, e, _⟩
  · omega
  · exact ⟨b, off, e⟩
theorem RdI.get {W : World} {k : IntKind} {b off n : Nat} {f : Nat → Int} (h : RdI W k (some ⟨b, off, none⟩) n f) {i : Nat} (hi : i < n) : W.cell? ⟨b, off + i, none⟩ = some (.int k (f i)) := by
  rcases h with h | ⟨b', off', e, _, hc⟩
  · omega
  · cases e; exact hc i hi
theorem slc_ints {w : World} {k : IntKind} {a : Option Addr} {n c : Nat} (h : Fra.Slc w [k] a n c) : ∃ f, RdI w k a n f ∧ ∀ i, i < n → k.min ≤ f i ∧ f i ≤ k.max := by
  rcases h with ⟨rfl, rfl, rfl⟩ | ⟨b, off, f, rfl, hb, hl, hm, ht⟩
  · exact ⟨fun _ => 0, .inl rfl, fun i hi => by omega⟩
  · refine ⟨fun i => f i 0, .inr ⟨b, off, rfl, hb, fun i hi => ?_⟩, fun i hi => (ht i 0 k hi rfl).2⟩
    have := (ht i 0 k hi rfl).1
    simpa using this

end Go.Proofs.YtdabhkbmdmlgcaaDoor
