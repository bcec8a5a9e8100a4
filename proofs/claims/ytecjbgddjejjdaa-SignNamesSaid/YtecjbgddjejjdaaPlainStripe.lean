/- Plain: readers' counts. -/
import Derived.Test.YtecjbgddjejjdaaPlainMark
namespace Go.Proofs.Ytecjbgddjejjdaa

def Cfg.Strs (c : Cfg) : Prop := c.May ∧ c.kd = 2
instance (c : Cfg) : Decidable c.Strs := by unfold Cfg.Strs; infer_instance
def stripesB (c : Cfg) : Bool := decide c.Strs
theorem Cfg.Strs.str {c : Cfg} (h : c.Strs) : 1 ≤ c.str ∧ c.str ≤ 4 := by
  obtain ⟨⟨_, _, h1, _⟩, h2⟩ := h
  omega
theorem Cfg.Strs.slots {c : Cfg} (h : c.Strs) : c.shp.slots = false := by simp [Cfg.shp, h.2]
/-- The error of a version and a thread. -/
def stE (c : Cfg) (v t : Int) : Int := if c.Strs then (if 0 ≤ v ∧ v < 2 ∧ 0 ≤ t ∧ t < c.thr then 0 else 2) else 40
theorem stE_no {c : Cfg} (h : ¬ c.Strs) (v t : Int) : stE c v t = 40 := if_neg h
theorem stE_in {c : Cfg} (h : c.Strs) {v t : Int} (g : 0 ≤ v ∧ v < 2 ∧ 0 ≤ t ∧ t < c.thr) : stE c v t = 0 := by unfold stE; rw [if_pos h, if_pos g]
theorem stE_out {c : Cfg} (h : c.Strs) {v t : Int} (g : ¬ (0 ≤ v ∧ v < 2 ∧ 0 ≤ t ∧ t < c.thr)) : stE c v t = 2 := by unfold stE; rw [if_pos h, if_neg g]
theorem stE_zero {c : Cfg} {v t : Int} (h : stE c v t = 0) : c.Strs ∧ 0 ≤ v ∧ v < 2 ∧ 0 ≤ t ∧ t < c.thr := by
  unfold stE at h
  split at h
  · rename_i h1
    split at h
    · rename_i h2; exact ⟨h1, h2⟩
    · omega
  · omega
/-- A count that there is. -/
theorem count_has {c : Cfg} (h : c.Strs) {k v s : Int} (hk : k = 7 ∨ k = 8) (hs : 0 ≤ s ∧ s < c.str) : hasZ c.shp k v s = decide (0 ≤ v ∧ v < 2) := by
  have hsl := h.slots
  have ht : c.shp.str = c.str.toNat := rfl
  by_cases hv : 0 ≤ v ∧ v < 2
  · rw [decide_eq_true hv]
    refine hasZ_t.2 ⟨hv.1, hs.1, ?_⟩
    rcases hk with rfl | rfl
    all_goals
      simp only [hasP, plZ, countsN, hsl]
      simp
      omega
  · rw [decide_eq_false hv]
    refine hasZ_f.2 fun g => hv ⟨g.1, ?_⟩
    have g3 := g.2.2
    rcases hk with rfl | rfl
    all_goals
      simp only [hasP, plZ, countsN, hsl] at g3
      simp at g3
      omega
theorem in_at {c : Cfg} (h : c.Strs) {v s : Int} (hv : 0 ≤ v ∧ v < 2) (hs : 0 ≤ s ∧ s < c.str) : atV c 7 v s = (3 + 2 * c.shp.thr + v.toNat * c.shp.str + s.toNat : Nat) := by
  rw [atV_in h.1 ((count_has h (.inl rfl) hs).trans (decide_eq_true hv))]
  simp [plZ, whereN]
theorem out_at {c : Cfg} (h : c.Strs) {v s : Int} (hv : 0 ≤ v ∧ v < 2) (hs : 0 ≤ s ∧ s < c.str) : atV c 8 v s = (3 + 2 * c.shp.thr + 2 * c.shp.str + v.toNat * c.shp.str + s.toNat : Nat) := by
  rw [atV_in h.1 ((count_has h (.inr rfl) hs).trans (decide_eq_true hv))]
  simp [plZ, whereN]
theorem count_e {c : Cfg} (h : c.Strs) {k v s : Int} (hk : k = 7 ∨ k = 8) (hs : 0 ≤ s ∧ s < c.str) : atE c k v s = if 0 ≤ v ∧ v < 2 then 0 else 2 := by
  have := count_has h (v := v) hk hs
  by_cases hv : 0 ≤ v ∧ v < 2
  · rw [decide_eq_true hv] at this; rw [if_pos hv]; exact atE_in h.1 this
  · rw [decide_eq_false hv] at this; rw [if_neg hv]; exact atE_out h.1 this

/-- An access to a place. -/
def atA (c : Cfg) (k v s : Int) (x : Acc) : Acc := if atE c k v s = 0 then ⟨x.k, atV c k v s, x.old, x.new⟩ else .none
/-- An add of a thread's. -/
def stA (c : Cfg) (k v t : Int) : Acc := if stE c v t = 0 then ⟨4, atV c k v (t % c.str), ⟨0, 0, 0, 0⟩, ⟨0, 1, 0, 0⟩⟩ else .none
theorem stA_of {c : Cfg} (h : c.Strs) {k v t : Int} (hk : k = 7 ∨ k = 8) (ht : 0 ≤ t ∧ t < c.thr) : atA c k v (t % c.str) ⟨4, 0, ⟨0, 0, 0, 0⟩, ⟨0, 1, 0, 0⟩⟩ = stA c k v t ∧ atE c k v (t % c.str) = stE c v t := by
  have hstr := h.str
  have hm : 0 ≤ t % c.str ∧ t % c.str < c.str := ⟨Int.emod_nonneg _ (by omega), Int.emod_lt_of_pos _ (by omega)⟩
  unfold atA stA
  rw [count_e h hk hm]
  by_cases hv : 0 ≤ v ∧ v < 2
  · rw [stE_in h ⟨hv.1, hv.2, ht⟩, if_pos hv]; exact ⟨rfl, rfl⟩
  · rw [stE_out h (fun g => hv ⟨g.1, g.2.1⟩), if_neg hv]; exact ⟨rfl, rfl⟩

/-- The error of a look. -/
def lkE (c : Cfg) (v i : Int) : Int := if c.Strs then (if 0 ≤ v ∧ v < 2 ∧ 0 ≤ i ∧ i < 2 * c.str then 0 else 2) else 40
theorem lkE_no {c : Cfg} (h : ¬ c.Strs) (v i : Int) : lkE c v i = 40 := if_neg h
theorem lkE_in {c : Cfg} (h : c.Strs) {v i : Int} (g : 0 ≤ v ∧ v < 2 ∧ 0 ≤ i ∧ i < 2 * c.str) : lkE c v i = 0 := by unfold lkE; rw [if_pos h, if_pos g]
theorem lkE_out {c : Cfg} (h : c.Strs) {v i : Int} (g : ¬ (0 ≤ v ∧ v < 2 ∧ 0 ≤ i ∧ i < 2 * c.str)) : lkE c v i = 2 := by unfold lkE; rw [if_pos h, if_neg g]
theorem lkE_zero {c : Cfg} {v i : Int} (h : lkE c v i = 0) : c.Strs ∧ 0 ≤ v ∧ v < 2 ∧ 0 ≤ i ∧ i < 2 * c.str := by
  unfold lkE at h
  split at h
  · rename_i h1
    split at h
    · rename_i h2; exact ⟨h1, h2⟩
    · omega
  · omega
def lkAt (c : Cfg) (v i : Int) : Int := if i < c.str then atV c 8 v i else atV c 7 v (i - c.str)
def lkA (c : Cfg) (v i : Int) : Acc := if lkE c v i = 0 then ⟨1, lkAt c v i, ⟨0, 0, 0, 0⟩, ⟨0, 0, 0, 0⟩⟩ else .none
theorem lkA_in {c : Cfg} {v i : Int} (h : lkE c v i = 0) : lkA c v i = ⟨1, lkAt c v i, ⟨0, 0, 0, 0⟩, ⟨0, 0, 0, 0⟩⟩ := if_pos h
theorem lkA_out {c : Cfg} {v i : Int} (h : lkE c v i ≠ 0) : lkA c v i = .none := if_neg h
/-- The side and the stripe of a look. -/
def whS (c : Cfg) (i : Int) : Int := if 0 ≤ i ∧ i < 2 * c.str then (if i < c.str then 0 else 1) else 2
def whT (c : Cfg) (i : Int) : Int := if 0 ≤ i ∧ i < 2 * c.str then (if i < c.str then i else i - c.str) else 0
theorem wh_out {c : Cfg} {i : Int} (g : ¬ (0 ≤ i ∧ i < 2 * c.str)) : whS c i = 2 ∧ whT c i = 0 := ⟨if_neg g, if_neg g⟩
theorem wh_0 {c : Cfg} {i : Int} (g : 0 ≤ i ∧ i < c.str) : whS c i = 0 ∧ whT c i = i := by
  have h : 0 ≤ i ∧ i < 2 * c.str := by omega
  unfold whS whT
  rw [if_pos h, if_pos h, if_pos g.2, if_pos g.2]; exact ⟨rfl, rfl⟩
theorem wh_1 {c : Cfg} {i : Int} (g : c.str ≤ i ∧ i < 2 * c.str) : whS c i = 1 ∧ whT c i = i - c.str := by
  have h : 0 ≤ i ∧ i < 2 * c.str := by omega
  unfold whS whT
  rw [if_pos h, if_pos h, if_neg (by omega), if_neg (by omega)]; exact ⟨rfl, rfl⟩
theorem lk_0 {c : Cfg} (h : c.Strs) {v i : Int} (g : 0 ≤ i ∧ i < c.str) : atA c 8 v i ⟨1, 0, ⟨0, 0, 0, 0⟩, ⟨0, 0, 0, 0⟩⟩ = lkA c v i ∧ atE c 8 v i = lkE c v i := by
  unfold atA lkA lkAt
  rw [count_e h (.inr rfl) g, if_pos g.2]
  by_cases hv : 0 ≤ v ∧ v < 2
  · rw [lkE_in h ⟨hv.1, hv.2, g.1, by omega⟩, if_pos hv]; exact ⟨rfl, rfl⟩
  · rw [lkE_out h (fun g => hv ⟨g.1, g.2.1⟩), if_neg hv]; exact ⟨rfl, rfl⟩
theorem lk_1 {c : Cfg} (h : c.Strs) {v i : Int} (g : c.str ≤ i ∧ i < 2 * c.str) : atA c 7 v (i - c.str) ⟨1, 0, ⟨0, 0, 0, 0⟩, ⟨0, 0, 0, 0⟩⟩ = lkA c v i ∧ atE c 7 v (i - c.str) = lkE c v i := by
  have hs := h.str
  unfold atA lkA lkAt
  rw [count_e h (.inl rfl) ⟨by omega, by omega⟩, if_neg (show ¬ i < c.str by omega)]
  by_cases hv : 0 ≤ v ∧ v < 2
  · rw [lkE_in h ⟨hv.1, hv.2, by omega, by omega⟩, if_pos hv]; exact ⟨rfl, rfl⟩
  · rw [lkE_out h (fun g => hv ⟨g.1, g.2.1⟩), if_neg hv]; exact ⟨rfl, rfl⟩

end Go.Proofs.Ytecjbgddjejjdaa
