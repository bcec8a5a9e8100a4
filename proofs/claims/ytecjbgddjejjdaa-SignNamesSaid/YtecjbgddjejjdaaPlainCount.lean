/- Plain: sums and counts. -/
namespace Go.Proofs.Ytecjbgddjejjdaa

theorem getD_set {α : Type} (l : List α) (i j : Nat) (a d : α) (hi : i < l.length) : (l.set i a).getD j d = if i = j then a else l.getD j d := by
  simp only [List.getD_eq_getElem?_getD, List.getElem?_set]
  by_cases e : i = j
  · rw [if_pos e, if_pos e, if_pos hi]; rfl
  · rw [if_neg e, if_neg e]

def sumF (f : Nat → Nat) : Nat → Nat
  | 0 => 0
  | n + 1 => sumF f n + f n
theorem sumF_le {f g : Nat → Nat} : ∀ n, (∀ i, i < n → f i ≤ g i) → sumF f n ≤ sumF g n
  | 0, _ => Nat.le_refl _
  | n + 1, h => by
    have := sumF_le n (fun i hi => h i (by omega))
    have := h n (by omega)
    simp only [sumF]; omega
theorem sumF_eq {f g : Nat → Nat} (n : Nat) (h : ∀ i, i < n → f i = g i) : sumF f n = sumF g n :=
  Nat.le_antisymm (sumF_le n fun i hi => by rw [h i hi]; exact Nat.le_refl _) (sumF_le n fun i hi => by rw [h i hi]; exact Nat.le_refl _)
theorem sumF_lt {f g : Nat → Nat} : ∀ n, (∀ i, i < n → f i ≤ g i) → (∃ i, i < n ∧ f i < g i) → sumF f n < sumF g n
  | 0, _, ⟨i, hi, _⟩ => by omega
  | n + 1, h, ⟨i, hi, hl⟩ => by
    simp only [sumF]
    by_cases e : i = n
    · subst e
      have := sumF_le i (fun j hj => h j (by omega))
      omega
    · have := sumF_lt n (fun j hj => h j (by omega)) ⟨i, by omega, hl⟩
      have := h n (by omega)
      omega
theorem sumF_bound {f : Nat → Nat} {b : Nat} : ∀ n, (∀ i, i < n → f i ≤ b) → sumF f n ≤ n * b
  | 0, _ => by simp [sumF]
  | n + 1, h => by
    have := sumF_bound n (fun i hi => h i (by omega))
    have := h n (by omega)
    simp only [sumF, Nat.add_mul]; omega

/-- How many. -/
def cntF (f : Nat → Bool) : Nat → Nat
  | 0 => 0
  | n + 1 => cntF f n + (if f n then 1 else 0)
theorem cntF_le (f : Nat → Bool) : ∀ n, cntF f n ≤ n
  | 0 => Nat.le_refl _
  | n + 1 => by
    have := cntF_le f n
    simp only [cntF]
    split <;> omega
theorem cntF_eq {f g : Nat → Bool} : ∀ n, (∀ i, i < n → f i = g i) → cntF f n = cntF g n
  | 0, _ => rfl
  | n + 1, h => by simp only [cntF]; rw [cntF_eq n (fun i hi => h i (by omega)), h n (by omega)]
theorem cntF_up {f g : Nat → Bool} {t : Nat} : ∀ n, t < n → f t = false → g t = true → (∀ i, i < n → i ≠ t → f i = g i) → cntF g n = cntF f n + 1
  | 0, h, _, _, _ => by omega
  | n + 1, h, hf, hg, he => by
    simp only [cntF]
    by_cases e : t = n
    · subst e
      rw [hf, hg, cntF_eq t (fun i hi => he i (by omega) (by omega))]
      simp
    · rw [cntF_up n (by omega) hf hg (fun i hi hne => he i (by omega) hne), he n (by omega) (fun x => e x.symm)]
      omega
theorem cntF_mono {f g : Nat → Bool} : ∀ n, (∀ i, i < n → f i = true → g i = true) → cntF f n ≤ cntF g n
  | 0, _ => Nat.le_refl _
  | n + 1, h => by
    have := cntF_mono n (fun i hi => h i (by omega))
    have h2 := h n (by omega)
    simp only [cntF]
    cases hf : f n
    · simp; omega
    · simp [h2 hf]; omega
theorem cntF_pos {f : Nat → Bool} {t : Nat} : ∀ n, t < n → f t = true → 1 ≤ cntF f n
  | 0, h, _ => by omega
  | n + 1, h, hf => by
    simp only [cntF]
    by_cases e : t = n
    · subst e; rw [hf]; simp
    · have := cntF_pos n (by omega) hf
      omega
theorem cntF_zero {f : Nat → Bool} : ∀ n, (∀ i, i < n → f i = false) → cntF f n = 0
  | 0, _ => rfl
  | n + 1, h => by simp only [cntF]; rw [cntF_zero n (fun i hi => h i (by omega)), h n (by omega)]; rfl

end Go.Proofs.Ytecjbgddjejjdaa
