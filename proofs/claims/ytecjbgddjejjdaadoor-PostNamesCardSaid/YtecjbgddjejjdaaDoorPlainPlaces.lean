/- Plain: the places that an iterator over fields yields. -/
import Derived.Test.YtecjbgddjejjdaaDoorPlainPack
namespace Go.Proofs.YtecjbgddjejjdaaDoor

/-- What is yielded for so many fields from number i on, the first at bit 'at'; a place below 0: there is no room, and that is the last. -/
def placesFrom (bs : Nat → Int) : Nat → Nat → Int → List (Int × Int)
  | 0, _, _ => []
  | k + 1, i, p => if mayB p (bs i) then ((i : Int), p) :: placesFrom bs k (i + 1) (p + bs i) else [((i : Int), -1)]

theorem placesFrom_yes {bs : Nat → Int} {k i : Nat} {p : Int} (h : mayB p (bs i) = true) : placesFrom bs (k + 1) i p = ((i : Int), p) :: placesFrom bs k (i + 1) (p + bs i) := by
  simp [placesFrom, h]
theorem placesFrom_no {bs : Nat → Int} {k i : Nat} {p : Int} (h : mayB p (bs i) = false) : placesFrom bs (k + 1) i p = [((i : Int), -1)] := by
  simp [placesFrom, h]

/-- After so many fields: the place, the word of those that fit, whether all fit, whether all have room. -/
def accP (bs : Nat → Int) : Nat → Int
  | 0 => 0
  | i + 1 => accP bs i + bs i
def fitB (v : Nat) (b : Int) : Bool := decide (v ≤ maskN b.toNat)
def accX (bs : Nat → Int) (vs : Nat → Nat) : Nat → Nat
  | 0 => 0
  | i + 1 => if fitB (vs i) (bs i) then withN (accX bs vs i) (accP bs i).toNat (bs i).toNat (vs i) else accX bs vs i
def accF (bs : Nat → Int) (vs : Nat → Nat) : Nat → Bool
  | 0 => true
  | i + 1 => accF bs vs i && fitB (vs i) (bs i)
def roomN (bs : Nat → Int) : Nat → Bool
  | 0 => true
  | i + 1 => roomN bs i && mayB (accP bs i) (bs i)
/-- Join's answer. -/
def joinE (bs : Nat → Int) (vs : Nat → Nat) (n : Nat) : Int := if roomN bs n then (if accF bs vs n then 0 else 10) else 2
def joinV (bs : Nat → Int) (vs : Nat → Nat) (n : Nat) : Nat := if roomN bs n then (if accF bs vs n then accX bs vs n else 0) else 0

theorem roomN_lo {bs : Nat → Int} {i j : Nat} (h : roomN bs i = true) (hj : j ≤ i) : roomN bs j = true := by
  induction i with
  | zero => obtain rfl : j = 0 := by omega
            exact h
  | succ i ih =>
    by_cases e : j = i + 1
    · rw [e]; exact h
    · simp only [roomN, Bool.and_eq_true] at h
      exact ih h.1 (by omega)

theorem accP_bd {bs : Nat → Int} {i : Nat} (h : roomN bs i = true) : 0 ≤ accP bs i ∧ accP bs i ≤ 64 := by
  induction i with
  | zero => simp [accP]
  | succ i ih =>
    simp only [roomN, Bool.and_eq_true] at h
    obtain ⟨h1, h2, h3, h4⟩ := (mayB_iff _ _).1 h.2
    simp only [accP]
    omega

theorem accX_lt {bs : Nat → Int} {vs : Nat → Nat} {i : Nat} (h : roomN bs i = true) : accX bs vs i < 18446744073709551616 := by
  induction i with
  | zero => simp [accX]
  | succ i ih =>
    simp only [roomN, Bool.and_eq_true] at h
    obtain ⟨h1, h2, h3, h4⟩ := (mayB_iff _ _).1 h.2
    simp only [accX]
    split
    · exact withN_lt _ _ _ _ (ih h.1) (by omega)
    · exact ih h.1

/-- What is yielded, one by one. -/
theorem placesFrom_at {bs : Nat → Int} : ∀ (k i : Nat) (pre : List (Int × Int)) (x : Int × Int) (rest : List (Int × Int)), roomN bs i = true → placesFrom bs k i (accP bs i) = pre ++ x :: rest →
    pre.length < k ∧ x.1 = ((i + pre.length : Nat) : Int) ∧ roomN bs (i + pre.length) = true ∧
      ((mayB (accP bs (i + pre.length)) (bs (i + pre.length)) = true ∧ x.2 = accP bs (i + pre.length)) ∨ (mayB (accP bs (i + pre.length)) (bs (i + pre.length)) = false ∧ x.2 = -1 ∧ rest = []))
  | 0, _, pre, _, _, _, h => by cases pre <;> simp [placesFrom] at h
  | k + 1, i, pre, x, rest, hr, h => by
    cases hm : mayB (accP bs i) (bs i) with
    | true =>
      rw [placesFrom_yes hm] at h
      cases pre with
      | nil =>
        simp only [List.nil_append, List.cons.injEq] at h
        obtain ⟨rfl, _⟩ := h
        exact ⟨by simp, by simp, by simpa using hr, .inl ⟨by simpa using hm, by simp⟩⟩
      | cons y pre =>
        simp only [List.cons_append, List.cons.injEq] at h
        have := placesFrom_at (bs := bs) k (i + 1) pre x rest (by simp [roomN, hr, hm]) (by simpa [accP] using h.2)
        have e : i + 1 + pre.length = i + (y :: pre).length := by simp; omega
        rw [e] at this
        exact ⟨by simp; omega, this.2⟩
    | false =>
      rw [placesFrom_no hm] at h
      cases pre with
      | nil =>
        simp only [List.nil_append, List.cons.injEq] at h
        obtain ⟨rfl, h2⟩ := h
        exact ⟨by simp, by simp, by simpa using hr, .inr ⟨by simpa using hm, rfl, h2.symm⟩⟩
      | cons y pre => simp at h

theorem placesFrom_len {bs : Nat → Int} : ∀ (k i : Nat), roomN bs i = true → roomN bs (i + (placesFrom bs k i (accP bs i)).length) = true → (placesFrom bs k i (accP bs i)).length = k
  | 0, _, _, _ => by simp [placesFrom]
  | k + 1, i, hr, h => by
    cases hm : mayB (accP bs i) (bs i) with
    | true =>
      rw [placesFrom_yes hm] at h ⊢
      have e : accP bs i + bs i = accP bs (i + 1) := rfl
      rw [e] at h ⊢
      have := placesFrom_len (bs := bs) k (i + 1) (by simp [roomN, hr, hm]) (by simpa [Nat.add_assoc, Nat.add_comm 1] using h)
      simp [this]
    | false =>
      rw [placesFrom_no hm] at h
      simp [roomN, hr, hm] at h

end Go.Proofs.YtecjbgddjejjdaaDoor
