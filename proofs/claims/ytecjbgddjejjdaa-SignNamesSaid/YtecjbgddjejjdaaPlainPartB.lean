/- Plain: where a place of any numbers stands, and which one stands somewhere. -/
import Derived.Test.YtecjbgddjejjdaaPlainPart
namespace Go.Proofs.Ytecjbgddjejjdaa

def plZ (k a b : Int) : Pl := ⟨k.toNat, a.toNat, b.toNat⟩
def hasZ (s : Shp) (k a b : Int) : Bool := decide (0 ≤ a ∧ 0 ≤ b ∧ hasP s (plZ k a b))
theorem hasZ_t {s : Shp} {k a b : Int} : hasZ s k a b = true ↔ 0 ≤ a ∧ 0 ≤ b ∧ hasP s (plZ k a b) := by simp [hasZ]
theorem hasZ_f {s : Shp} {k a b : Int} : hasZ s k a b = false ↔ ¬ (0 ≤ a ∧ 0 ≤ b ∧ hasP s (plZ k a b)) := by rw [← hasZ_t]; simp
def atV (c : Cfg) (k a b : Int) : Int := if c.May then (if hasZ c.shp k a b then (whereN c.shp (plZ k a b) : Nat) else 0) else 0
def atE (c : Cfg) (k a b : Int) : Int := if c.May then (if hasZ c.shp k a b then 0 else 2) else 40
theorem atV_no {c : Cfg} (h : ¬ c.May) (k a b : Int) : atV c k a b = 0 := by simp [atV, h]
theorem atE_no {c : Cfg} (h : ¬ c.May) (k a b : Int) : atE c k a b = 40 := by simp [atE, h]
theorem atV_out {c : Cfg} {k a b : Int} (g : hasZ c.shp k a b = false) : atV c k a b = 0 := by simp [atV, g]
theorem atE_out {c : Cfg} (h : c.May) {k a b : Int} (g : hasZ c.shp k a b = false) : atE c k a b = 2 := by simp [atE, h, g]
theorem atV_in {c : Cfg} (h : c.May) {k a b : Int} (g : hasZ c.shp k a b = true) : atV c k a b = (whereN c.shp (plZ k a b) : Nat) := by simp [atV, h, g]
theorem atE_in {c : Cfg} (h : c.May) {k a b : Int} (g : hasZ c.shp k a b = true) : atE c k a b = 0 := by simp [atE, h, g]

def inZ (c : Cfg) (at' : Int) : Bool := decide (c.May ∧ 0 ≤ at' ∧ at' < (allN c.shp : Nat))
theorem inZ_t {c : Cfg} {i : Int} : inZ c i = true ↔ c.May ∧ 0 ≤ i ∧ i < (allN c.shp : Nat) := by simp [inZ]
theorem inZ_f {c : Cfg} {i : Int} : inZ c i = false ↔ ¬ (c.May ∧ 0 ≤ i ∧ i < (allN c.shp : Nat)) := by rw [← inZ_t]; simp
def whatP (c : Cfg) (at' : Int) : Pl := if inZ c at' then ((placesL c.shp)[at'.toNat]?).getD ⟨0, 0, 0⟩ else ⟨0, 0, 0⟩
def whatE (c : Cfg) (at' : Int) : Int := if c.May then (if inZ c at' then 0 else 2) else 40
theorem what_at {c : Cfg} {i : Nat} {p : Pl} (h : c.May) (hp : (placesL c.shp)[i]? = some p) : whatP c i = p ∧ whatE c i = 0 := by
  have hi : i < allN c.shp := by rw [← places_len]; exact (List.getElem?_eq_some_iff.1 hp).1
  have hz : inZ c i = true := inZ_t.2 ⟨h, by omega, by omega⟩
  simp [whatP, whatE, hz, h, hp]
theorem what_out {c : Cfg} {i : Int} (h : inZ c i = false) : whatP c i = ⟨0, 0, 0⟩ := by simp [whatP, h]
theorem whatE_out {c : Cfg} {i : Int} (hc : c.May) (h : inZ c i = false) : whatE c i = 2 := by simp [whatE, h, hc]
theorem whatE_no {c : Cfg} {i : Int} (hc : ¬ c.May) : whatE c i = 40 := by simp [whatE, hc]
theorem inZ_no {c : Cfg} {i : Int} (hc : ¬ c.May) : inZ c i = false := inZ_f.2 fun h => hc h.1
/-- Which place stands there. -/
theorem what_in {c : Cfg} {i : Int} (h : inZ c i = true) : ∃ p : Pl, ∃ n : Nat, i = (n : Int) ∧ (placesL c.shp)[n]? = some p ∧ whereN c.shp p = n ∧ hasP c.shp p ∧ whatP c i = p ∧ whatE c i = 0 := by
  obtain ⟨hm, h0, h1⟩ := inZ_t.1 h
  obtain ⟨n, rfl⟩ := Int.eq_ofNat_of_zero_le h0
  have hn : n < (placesL c.shp).length := by rw [places_len]; omega
  have hp := List.getElem?_eq_getElem hn
  obtain ⟨e1, e2⟩ := where_of hp
  obtain ⟨e3, e4⟩ := what_at hm hp
  exact ⟨_, n, rfl, hp, e1, e2, e3, e4⟩

/-! ### The reference's sum -/

/-- How many places stand ahead of a part (of those ahead of the instances). -/
def sumC (s : Shp) : Nat → Nat
  | 0 => 0
  | k + 1 => sumC s k + (if k = 0 then 0 else (countsN s k).1 * (countsN s k).2)
theorem sumC_succ (s : Shp) (k : Nat) (h : 1 ≤ k) : sumC s (k + 1) = sumC s k + (countsN s k).1 * (countsN s k).2 := by
  have : k ≠ 0 := by omega
  simp [sumC, this]
theorem sumC_ahead (s : Shp) : sumC s 9 = aheadN s := by
  simp [sumC, countsN, aheadN]
  split <;> omega
theorem sumC_where {s : Shp} {p : Pl} (h : hasP s p) (h8 : p.k ≤ 8) : 1 ≤ p.k ∧ sumC s p.k + p.a * (countsN s p.k).2 + p.b = whereN s p := by
  obtain ⟨k, a, b⟩ := p
  simp only [hasP] at *
  have hk : k = 0 ∨ k = 1 ∨ k = 2 ∨ k = 3 ∨ k = 4 ∨ k = 5 ∨ k = 6 ∨ k = 7 ∨ k = 8 := by omega
  cases hs : s.slots
  all_goals rcases hk with rfl | rfl | rfl | rfl | rfl | rfl | rfl | rfl | rfl
  all_goals simp [countsN, sumC, whereN, hs] at *
  all_goals omega
theorem has_k {s : Shp} {p : Pl} (h : hasP s p) : 1 ≤ p.k ∧ p.k ≤ 10 := by
  obtain ⟨k, a, b⟩ := p
  simp only [hasP, countsN] at *
  by_cases h1 : k ≤ 10
  · by_cases h0 : k = 0
    · subst h0; simp at h
    · omega
  · have : ¬ (k = 1 ∨ k = 2 ∨ k = 3) := by omega
    have : ¬ (k = 4 ∨ k = 5) := by omega
    have : ¬ (k = 7 ∨ k = 8) := by omega
    have : ¬ (k = 6) := by omega
    have : ¬ (k = 9) := by omega
    have : ¬ (k = 10) := by omega
    simp [*] at h
/-- How great the numbers are. -/
structure Small (s : Shp) : Prop where
  thr : s.thr ≤ 16
  str : s.str ≤ 4
  inst : s.inst ≤ 4
  size : s.size ≤ 161
  inst2 : 2 ≤ s.inst
  size1 : 1 ≤ s.size
  thr1 : 1 ≤ s.thr
  kind : s.slots = true ∧ s.str = 0 ∨ s.slots = false ∧ 1 ≤ s.str
theorem May.small {c : Cfg} (h : c.May) : Small c.shp := by
  have hg := great_le h
  obtain ⟨h1, h2, h3, h4, h5⟩ := h
  refine ⟨by simp [Cfg.shp]; omega, by simp [Cfg.shp]; omega, by simp [Cfg.shp]; omega, hg.2, by simp [Cfg.shp]; omega, hg.1, by simp [Cfg.shp]; omega, ?_⟩
  simp [Cfg.shp]
  omega
theorem counts_le {s : Shp} (h : Small s) (k : Nat) : (countsN s k).1 ≤ 16 ∧ (countsN s k).2 ≤ 161 ∧ (countsN s k).1 * (countsN s k).2 ≤ 644 := by
  obtain ⟨h1, h2, h3, h4, _, _, _, h8⟩ := h
  unfold countsN
  split
  · simp
  split
  · simp; omega
  split
  · split <;> simp <;> omega
  split
  · split <;> simp <;> omega
  split
  · simp; omega
  split
  · simp
    have := Nat.mul_le_mul h3 h4
    omega
  · simp
theorem all_le {s : Shp} (h : Small s) : allN s ≤ 715 ∧ 8 ≤ allN s ∧ aheadN s ≤ 67 := by
  obtain ⟨h1, h2, h3, h4, h5, h6, h7, h8⟩ := h
  have a1 : s.inst * (1 + s.size) ≤ 4 * 162 := Nat.mul_le_mul h3 (by omega)
  have a2 : 2 * 2 ≤ s.inst * (1 + s.size) := Nat.mul_le_mul h5 (by omega)
  unfold allN aheadN
  split <;> omega
theorem where_le {s : Shp} (h : Small s) {p : Pl} (g : hasP s p) : whereN s p ≤ 714 := by
  have := where_lt g
  have := (all_le h).1
  omega
theorem sumC_le {s : Shp} (h : Small s) {k : Nat} (hk : k ≤ 9) : sumC s k ≤ 67 := by
  have h9 := sumC_ahead s
  have := (all_le h).2.2
  have mono : ∀ j, sumC s j ≤ sumC s (j + 1) := fun j => by simp [sumC]
  have : ∀ d, sumC s k ≤ sumC s (k + d) := fun d => by
    induction d with
    | zero => exact Nat.le_refl _
    | succ d ih => exact Nat.le_trans ih (mono _)
  have := this (9 - k)
  rw [show k + (9 - k) = 9 from by omega] at this
  omega

def sizeV (c : Cfg) : Int := if c.May then (greatN c : Nat) else 0
def cellsV (c : Cfg) : Int := if c.May then (allN c.shp : Nat) else 0

end Go.Proofs.Ytecjbgddjejjdaa
