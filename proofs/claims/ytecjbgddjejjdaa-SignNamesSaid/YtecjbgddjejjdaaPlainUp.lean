/- Plain: how many nodes a level has. -/
import Derived.Laws.BitsLemmas
namespace Go.Proofs.Ytecjbgddjejjdaa

/-- How many nodes stand on level h. -/
def itemsN (m w h : Nat) : Nat := (m + w ^ h - 1) / w ^ h
theorem items_lt : ∀ m, m < 33 → ∀ w, w < 5 → 2 ≤ w → ∀ h, h < 5 → itemsN m w h ≤ m := by decide +kernel
theorem items_zero (m w : Nat) : itemsN m w 0 = m := by simp [itemsN]
theorem items_ceil : ∀ m, m < 33 → ∀ w, w < 5 → 2 ≤ w → ∀ h, h < 4 → itemsN m w (h + 1) = (itemsN m w h + w - 1) / w := by decide +kernel
theorem wide3 {w : Nat} (h2 : w < 5) (h3 : 2 ≤ w) : w = 2 ∨ w = 3 ∨ w = 4 := by omega
theorem items_step {m w h n : Nat} (h1 : m < 33) (h2 : w < 5) (h3 : 2 ≤ w) (h4 : h < 4) (h6 : itemsN m w h ≤ n * w) (h7 : n = 0 ∨ (n - 1) * w < itemsN m w h) : itemsN m w (h + 1) = n := by
  rw [items_ceil m h1 w h2 h3 h h4]
  generalize itemsN m w h = x at *
  rcases wide3 h2 h3 with rfl | rfl | rfl <;> omega
theorem items_top : ∀ m, m < 33 → ∀ w, w < 5 → 2 ≤ w → itemsN m w 4 ≤ w := by decide +kernel
theorem items_pos : ∀ m, m < 33 → 1 ≤ m → ∀ w, w < 5 → 2 ≤ w → ∀ h, h < 5 → 1 ≤ itemsN m w h := by decide +kernel
/-- The top level: the first that fits one node. -/
def topF (m w : Nat) : Nat → Nat → Nat
  | 0, h => h
  | f + 1, h => if itemsN m w h ≤ w then h else topF m w f (h + 1)
def topN (m w : Nat) : Nat := topF m w 4 0
theorem top_le : ∀ m, m < 33 → ∀ w, w < 5 → topN m w ≤ 4 := by decide +kernel
theorem top_at0 : ∀ m, m < 33 → ∀ w, w < 5 → ∀ h, h < 5 → (2 ≤ w ∧ h ≤ topN m w → (itemsN m w h ≤ w ↔ h = topN m w)) := by decide +kernel
theorem top_at {m w h : Nat} (h1 : m < 33) (h2 : w < 5) (h3 : 2 ≤ w) (h4 : h < 5) (h5 : h ≤ topN m w) : itemsN m w h ≤ w ↔ h = topN m w := top_at0 m h1 w h2 h h4 ⟨h3, h5⟩
def levelsN (m w k : Nat) : List Int := (List.range k).map fun h => (itemsN m w h : Int)
theorem levels_succ (m w k : Nat) : levelsN m w (k + 1) = levelsN m w k ++ [(itemsN m w k : Int)] := by simp [levelsN, List.range_succ]
theorem levels_len (m w k : Nat) : (levelsN m w k).length = k := by simp [levelsN]
/-- The last item below node i of level h. -/
def lastN (m w h i : Nat) : Nat := min ((i + 1) * w) (itemsN m w (h - 1)) - 1
theorem last_end {m w h i : Nat} (h1 : m < 33) (h2 : w < 5) (h3 : 2 ≤ w) (h4 : h < 4) (h5 : i < itemsN m w (h + 1)) : i * w < itemsN m w h := by
  rw [items_ceil m h1 w h2 h3 h h4] at h5
  generalize itemsN m w h = x at *
  rcases wide3 h2 h3 with rfl | rfl | rfl <;> omega
theorem pow_tab : ∀ w, w < 5 → 2 ≤ w → ∀ h, h < 5 → w ^ h ≤ 256 ∧ 1 ≤ w ^ h := by decide +kernel

def widthB (many least wide : Int) : Bool := decide (least ≤ many) && decide (many ≤ 32) && decide (2 ≤ wide) && decide (wide ≤ 4)

end Go.Proofs.Ytecjbgddjejjdaa
