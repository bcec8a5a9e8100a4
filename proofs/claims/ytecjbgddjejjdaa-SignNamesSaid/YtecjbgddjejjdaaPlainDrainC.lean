/- Plain: a drain's sums. -/
import Derived.Test.YtecjbgddjejjdaaPlainDrainB
namespace Go.Proofs.Ytecjbgddjejjdaa
set_option linter.unusedVariables false

theorem sumF_upd {f g : Nat → Nat} {s m : Nat} : ∀ n, n ≤ m → (∀ u, u < m → g u = f u + (if s = u then 1 else 0)) → sumF g n = sumF f n + (if s < n then 1 else 0)
  | 0, _, _ => by simp [sumF]
  | n + 1, hn, h => by
    have h1 := sumF_upd n (by omega) h
    have h2 := h n (by omega)
    simp only [sumF]
    rw [h1, h2]
    by_cases e : s = n
    · subst e; simp; omega
    · rw [if_neg e]
      by_cases e2 : s < n
      · rw [if_pos e2, if_pos (by omega)]; omega
      · rw [if_neg e2, if_neg (by omega)]; omega

/-- A sum behind a look. -/
def sumNext (m a S A : Nat) : Nat := if a < m then (S + A) % 18446744073709551616 else (S + 18446744073709551616 - A) % 18446744073709551616
def diffN (D x : Nat) : Nat := (D + 18446744073709551616 - x) % 18446744073709551616
theorem diffN_zero {D x : Nat} (hD : D ≤ 1000000000) (hx : x ≤ 1000000000) : diffN D x = 0 ↔ D = x := by unfold diffN; omega
theorem diffN_next {D x A : Nat} (hD : D ≤ 1000000000) (hx : x + A ≤ 1000000000) : (diffN D x + 18446744073709551616 - A) % 18446744073709551616 = diffN D (x + A) := by unfold diffN; omega
theorem diffN_small {D : Nat} (hD : D ≤ 1000000000) : diffN D 0 = D := by unfold diffN; omega
theorem sumNext_up {m a S A : Nat} (h : a < m) (hb : S + A ≤ 1000000000) : sumNext m a S A = S + A := by
  unfold sumNext; rw [if_pos h]; omega
theorem sumNext_down {m a D x A : Nat} (h : m ≤ a) (hD : D ≤ 1000000000) (hx : x + A ≤ 1000000000) : sumNext m a (diffN D x) A = diffN D (x + A) := by
  unfold sumNext; rw [if_neg (by omega)]; exact diffN_next hD hx
theorem sumNext_lt (m a S A : Nat) : sumNext m a S A < 18446744073709551616 := by
  unfold sumNext; split <;> exact Nat.mod_lt _ (by decide)

/-- The cell of a look. -/
def lookN (c : Cfg) (v : Nat) (l : List Cel) (a : Nat) : Nat := if a < c.shp.str then outN c v l a else inN c v l (a - c.shp.str)

/-- How far a drain is. -/
def DrI (c : Cfg) (v : Nat) (l : List Cel) (os : List Bool) (a S : Nat) : Prop := a < 2 * c.shp.str ∧
  ((a < c.shp.str ∧ S ≤ sumF (outN c v l) a) ∨ (c.shp.str ≤ a ∧ ∃ D x, D ≤ 100000000 ∧ x ≤ sumF (inN c v l) (a - c.shp.str) ∧ S = diffN D x ∧ ((∀ t, os.getD t false = false) ∨ D + sumF (inN c v l) (a - c.shp.str) < x + sumF (inN c v l) c.shp.str)))
theorem DrI.start {c : Cfg} (hc : c.Strs) (v : Nat) (l : List Cel) (os : List Bool) : DrI c v l os 0 0 := by
  have := StI.str_pos hc
  exact ⟨by omega, .inl ⟨by omega, Nat.zero_le _⟩⟩
theorem none_set {os : List Bool} {t : Nat} (h : ∀ t, os.getD t false = false) (u : Nat) : (os.set t false).getD u false = false := by
  rcases Nat.lt_or_ge t os.length with ht | ht
  · rw [getD_set _ _ _ _ _ ht]
    split
    · rfl
    · exact h u
  · rw [List.set_eq_of_length_le ht]; exact h u
theorem DrI.arrive {c : Cfg} {v : Nat} {l : List Cel} {hs os : List Bool} {n t a S : Nat} (d : DrI c v l os a S) (h : StI c v l hs os n) (hc : c.Strs) (hv : v < 2) (hn : n ≤ 1000000) :
    DrI c v (l.set (inB c v + t % c.shp.str) (moreC (l.getD (inB c v + t % c.shp.str) .zero))) os a S := by
  have hp := (StI.str_pos hc).1
  have hm : t % c.shp.str < c.shp.str := Nat.mod_lt _ (by omega)
  have hb := h.bd _ hm
  have key := fun u (hu : u < c.shp.str) => in_more (l := l) hc h.len hv hm hu (by omega)
  obtain ⟨ha, h1 | ⟨h1, D, x, hD, hx, hS, ho⟩⟩ := d
  · refine ⟨ha, .inl ⟨h1.1, ?_⟩⟩
    rw [sumF_eq a (fun i hi => (key i (by omega)).2.1)]
    exact h1.2
  · have e1 := sumF_upd (m := c.shp.str) (a - c.shp.str) (by omega) (fun u hu => (key u hu).1)
    have e2 := sumF_upd (m := c.shp.str) c.shp.str (by omega) (fun u hu => (key u hu).1)
    refine ⟨ha, .inr ⟨h1, D, x, hD, by rw [e1]; omega, hS, ?_⟩⟩
    rcases ho with ho | ho
    · exact .inl ho
    · refine .inr ?_
      rw [e1, e2, if_pos hm]
      split <;> omega
theorem DrI.depart {c : Cfg} {v : Nat} {l : List Cel} {hs os : List Bool} {n t a S : Nat} (d : DrI c v l os a S) (h : StI c v l hs os n) (hc : c.Strs) (hv : v < 2) (hn : n ≤ 1000000) :
    DrI c v (l.set (outB c v + t % c.shp.str) (moreC (l.getD (outB c v + t % c.shp.str) .zero))) (os.set t false) a S := by
  have hp := (StI.str_pos hc).1
  have hm : t % c.shp.str < c.shp.str := Nat.mod_lt _ (by omega)
  have hb := h.bd _ hm
  have hle := h.le hm
  have key := fun u (hu : u < c.shp.str) => out_more (l := l) hc h.len hv hm hu (by omega)
  obtain ⟨ha, h1 | ⟨h1, D, x, hD, hx, hS, ho⟩⟩ := d
  · refine ⟨ha, .inl ⟨h1.1, Nat.le_trans h1.2 (sumF_le a fun i hi => ?_)⟩⟩
    rw [(key i (by omega)).1]; omega
  · have e1 := sumF_eq (a - c.shp.str) (fun i hi => (key i (by omega)).2.1)
    have e2 := sumF_eq c.shp.str (fun i hi => (key i hi).2.1)
    refine ⟨ha, .inr ⟨h1, D, x, hD, by rw [e1]; omega, hS, ?_⟩⟩
    rcases ho with ho | ho
    · exact .inl (none_set ho)
    · refine .inr ?_
      rw [e1, e2]; exact ho
theorem StI.sums {c : Cfg} {v : Nat} {l : List Cel} {hs os : List Bool} {n a : Nat} (h : StI c v l hs os n) (hc : c.Strs) (hn : n ≤ 1000000) (ha : a ≤ c.shp.str) : sumF (inN c v l) a ≤ 4000000 ∧ sumF (outN c v l) a ≤ 4000000 := by
  have hp := StI.str_pos hc
  have h1 := sumF_bound (f := inN c v l) (b := 1000000) a (fun i hi => Nat.le_trans (h.bd i (by omega)) hn)
  have h2 := sumF_bound (f := outN c v l) (b := 1000000) a (fun i hi => Nat.le_trans (Nat.le_trans (h.le (by omega)) (h.bd i (by omega))) hn)
  have : a * 1000000 ≤ 4 * 1000000 := Nat.mul_le_mul_right _ (by omega)
  omega
theorem DrI.next {c : Cfg} {v : Nat} {l : List Cel} {hs os : List Bool} {n a S : Nat} (d : DrI c v l os a S) (h : StI c v l hs os n) (hc : c.Strs) (hn : n ≤ 1000000) (ha : a + 1 < 2 * c.shp.str) : DrI c v l os (a + 1) (sumNext c.shp.str a S (lookN c v l a)) := by
  have hp := StI.str_pos hc
  have hs1 := h.sums hc hn (Nat.le_refl _)
  obtain ⟨_, ⟨h1, h2⟩ | ⟨h1, D, x, hD, hx, hS, ho⟩⟩ := d
  · have s1 := h.sums (a := a + 1) hc hn (by omega)
    have e : sumF (outN c v l) (a + 1) = sumF (outN c v l) a + outN c v l a := rfl
    unfold lookN
    rw [if_pos h1, sumNext_up h1 (by omega)]
    refine ⟨ha, ?_⟩
    by_cases e1 : a + 1 < c.shp.str
    · exact .inl ⟨e1, by omega⟩
    · have e2 : a + 1 = c.shp.str := by omega
      refine .inr ⟨by omega, S + outN c v l a, 0, by omega, Nat.zero_le _, (diffN_small (by omega)).symm, ?_⟩
      rw [e2, Nat.sub_self]
      by_cases e3 : ∀ t, os.getD t false = false
      · exact .inl e3
      · refine .inr ?_
        obtain ⟨t, ht⟩ := Classical.not_forall.1 e3
        have ht' : os.getD t false = true := by simpa using ht
        have hth := h.ow t ht'
        have htl : t < c.shp.thr := by
          rw [← h.hl]
          rcases Nat.lt_or_ge t hs.length with h | h
          · exact h
          · rw [List.getD_eq_getElem?_getD, List.getElem?_eq_none h] at hth; cases hth
        have := h.some hc htl hth
        rw [e2] at e
        simp only [sumF]
        omega
  · have e : sumF (inN c v l) (a + 1 - c.shp.str) = sumF (inN c v l) (a - c.shp.str) + inN c v l (a - c.shp.str) := by
      rw [show a + 1 - c.shp.str = a - c.shp.str + 1 by omega]; rfl
    have s1 := h.sums (a := a + 1 - c.shp.str) hc hn (by omega)
    unfold lookN
    rw [if_neg (by omega), hS, sumNext_down h1 (by omega) (by omega)]
    refine ⟨ha, .inr ⟨by omega, D, x + inN c v l (a - c.shp.str), hD, by omega, rfl, ?_⟩⟩
    rcases ho with ho | ho
    · exact .inl ho
    · exact .inr (by omega)
theorem DrI.done {c : Cfg} {v : Nat} {l : List Cel} {hs os : List Bool} {n a S : Nat} (d : DrI c v l os a S) (h : StI c v l hs os n) (hc : c.Strs) (hn : n ≤ 1000000) (ha : a + 1 = 2 * c.shp.str) (h0 : sumNext c.shp.str a S (lookN c v l a) = 0) (t : Nat) : os.getD t false = false := by
  have hp := StI.str_pos hc
  obtain ⟨_, ⟨h1, h2⟩ | ⟨h1, D, x, hD, hx, hS, ho⟩⟩ := d
  · omega
  · have e : sumF (inN c v l) (a + 1 - c.shp.str) = sumF (inN c v l) (a - c.shp.str) + inN c v l (a - c.shp.str) := by
      rw [show a + 1 - c.shp.str = a - c.shp.str + 1 by omega]; rfl
    have s1 := h.sums (a := a + 1 - c.shp.str) hc hn (by omega)
    unfold lookN at h0
    rw [if_neg (by omega), hS, sumNext_down h1 (by omega) (by omega), diffN_zero (by omega) (by omega)] at h0
    rcases ho with ho | ho
    · exact ho t
    · rw [show a + 1 - c.shp.str = c.shp.str by omega] at e
      omega

/-- The sum of a pass of which all counts stood still. -/
def exS (c : Cfg) (v : Nat) (l : List Cel) (a : Nat) : Nat := diffN (sumF (outN c v l) (min a c.shp.str)) (sumF (inN c v l) (a - c.shp.str))
theorem exS_zero (c : Cfg) (v : Nat) (l : List Cel) : exS c v l 0 = 0 := by
  unfold exS
  rw [Nat.zero_min, Nat.zero_sub]
  exact diffN_small (by simp [sumF])
theorem exS_next {c : Cfg} {v : Nat} {l : List Cel} {hs os : List Bool} {n a : Nat} (h : StI c v l hs os n) (hc : c.Strs) (hn : n ≤ 1000000) (ha : a < 2 * c.shp.str) : sumNext c.shp.str a (exS c v l a) (lookN c v l a) = exS c v l (a + 1) := by
  have hs1 := h.sums hc hn (Nat.le_refl _)
  unfold exS lookN
  by_cases h1 : a < c.shp.str
  · have s1 := h.sums (a := a + 1) hc hn (by omega)
    have e : sumF (outN c v l) (a + 1) = sumF (outN c v l) a + outN c v l a := rfl
    rw [if_pos h1, show min a c.shp.str = a by omega, show min (a + 1) c.shp.str = a + 1 by omega, show a - c.shp.str = 0 by omega, show a + 1 - c.shp.str = 0 by omega]
    rw [show sumF (inN c v l) 0 = 0 from rfl, diffN_small (by omega), diffN_small (by omega), sumNext_up h1 (by omega)]
    exact e.symm
  · have e : sumF (inN c v l) (a - c.shp.str + 1) = sumF (inN c v l) (a - c.shp.str) + inN c v l (a - c.shp.str) := rfl
    have s1 := h.sums (a := a - c.shp.str + 1) hc hn (by omega)
    rw [if_neg h1, show min a c.shp.str = c.shp.str by omega, show min (a + 1) c.shp.str = c.shp.str by omega, show a + 1 - c.shp.str = a - c.shp.str + 1 by omega, e]
    exact sumNext_down (by omega) (by omega) (by omega)
theorem exS_end {c : Cfg} {v : Nat} {l : List Cel} {hs os : List Bool} {n : Nat} (h : StI c v l hs os n) (hc : c.Strs) (hn : n ≤ 1000000) : exS c v l (2 * c.shp.str) = 0 ↔ ∀ t, t < c.shp.thr → hs.getD t false = false := by
  have hs1 := h.sums hc hn (Nat.le_refl _)
  unfold exS
  rw [show min (2 * c.shp.str) c.shp.str = c.shp.str by omega, show 2 * c.shp.str - c.shp.str = c.shp.str by omega, diffN_zero (by omega) (by omega)]
  constructor
  · intro e t ht
    cases hf : hs.getD t false with
    | false => rfl
    | true => have := h.some hc ht hf; omega
  · intro hz
    exact sumF_eq _ fun i hi => (h.none hz hi).symm

end Go.Proofs.Ytecjbgddjejjdaa
