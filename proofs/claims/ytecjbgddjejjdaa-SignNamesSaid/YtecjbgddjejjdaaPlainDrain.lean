/- Plain: drains of marks. -/
import Derived.Test.YtecjbgddjejjdaaPlainMark
import Derived.Test.YtecjbgddjejjdaaPlainCount
import Derived.Test.YtecjbgddjejjdaaCellMem
namespace Go.Proofs.Ytecjbgddjejjdaa
set_option linter.unusedVariables false

/-- The first mark's place. -/
def markB (c : Cfg) (v : Nat) : Nat := 3 + 2 * c.shp.thr + v * c.shp.thr
def Cfg.Slots (c : Cfg) : Prop := c.May ∧ c.kd = 1
theorem Cfg.Slots.slots {c : Cfg} (h : c.Slots) : c.shp.slots = true := by simp [Cfg.shp, h.2]
theorem markB_lt {c : Cfg} (h : c.Slots) {v t : Nat} (hv : v < 2) (ht : t < c.shp.thr) : markB c v + t < aheadN c.shp ∧ markB c v + t < allN c.shp := by
  have hs := h.slots
  unfold markB allN aheadN
  rw [hs]
  have : v = 0 ∨ v = 1 := by omega
  rcases this with rfl | rfl <;> simp <;> omega
theorem markB_at {c : Cfg} (h : c.Slots) {v t : Nat} (hv : v < 2) (ht : (t : Int) < c.thr) : atV c 6 v t = (markB c v + t : Nat) := by
  rw [mark_at h (v := (v : Int)) (t := (t : Int)) ⟨by omega, by omega, by omega, ht⟩]
  simp [markB]

def markCel (b : Bool) : Cel := if b then ⟨0, 1, 0, 0⟩ else ⟨0, 0, 0, 0⟩
theorem markCel_zero {b : Bool} : (markCel b).a = 0 ↔ b = false := by cases b <;> simp [markCel]

/-- Who is there, and who is owed, of a version; the drain is ahead of k. -/
structure MkI (c : Cfg) (v : Nat) (l : List Cel) (hs os : List Bool) (k : Nat) : Prop where
  len : l.length = allN c.shp
  hl : hs.length = c.shp.thr
  ol : os.length = c.shp.thr
  mem : ∀ t, t < c.shp.thr → l.getD (markB c v + t) .zero = markCel (hs.getD t false)
  ow : ∀ t, os.getD t false = true → hs.getD t false = true ∧ k ≤ t
  kb : k < c.shp.thr

theorem mark_apart {c : Cfg} {v t u : Nat} (hv : v < 2) (ht : t < c.shp.thr) (hu : u < c.shp.thr) : markB c v + t ≠ markB c (1 - v) + u := by
  unfold markB
  have : v = 0 ∨ v = 1 := by omega
  rcases this with rfl | rfl <;> simp <;> omega
/-- Nobody in the other version. -/
def OthM (c : Cfg) (v : Nat) (l : List Cel) : Prop := ∀ t, t < c.shp.thr → l.getD (markB c (1 - v) + t) .zero = markCel false
theorem OthM.set {c : Cfg} {v : Nat} {l : List Cel} (h : OthM c v l) (hc : c.Slots) (hl : l.length = allN c.shp) (hv : v < 2) {t : Nat} (ht : t < c.shp.thr) (x : Cel) : OthM c v (l.set (markB c v + t) x) := by
  intro u hu
  rw [getD_set _ _ _ _ _ (by rw [hl]; exact (markB_lt hc hv ht).2), if_neg (mark_apart hv ht hu)]
  exact h u hu
theorem OthM.mk {c : Cfg} {v : Nat} {l : List Cel} (h : OthM c v l) (hl : l.length = allN c.shp) (hp : 0 < c.shp.thr) : MkI c (1 - v) l (List.replicate c.shp.thr false) (List.replicate c.shp.thr false) 0 := by
  have e : ∀ t, (List.replicate c.shp.thr false).getD t false = false := by
    intro t
    simp only [List.getD_eq_getElem?_getD, List.getElem?_replicate]
    split <;> rfl
  exact ⟨hl, by simp, by simp, fun t ht => by rw [e]; exact h t ht, fun t ht => (by rw [e] at ht; cases ht), hp⟩
theorem MkI.arrive {c : Cfg} {v : Nat} {l : List Cel} {hs os : List Bool} {k t : Nat} (h : MkI c v l hs os k) (hc : c.Slots) (hv : v < 2) (ht : t < c.shp.thr) (hf : hs.getD t false = false) :
    MkI c v (l.set (markB c v + t) ⟨0, 1, 0, 0⟩) (hs.set t true) os k := by
  have hb := (markB_lt hc hv ht).2
  refine ⟨by simp [h.len], by simp [h.hl], h.ol, fun u hu => ?_, fun u hu => ?_, h.kb⟩
  · rw [getD_set _ _ _ _ _ (by rw [h.len]; exact hb), getD_set _ _ _ _ _ (by rw [h.hl]; exact ht)]
    by_cases e : t = u
    · subst e; simp [markCel]
    · rw [if_neg (by omega), if_neg e]; exact h.mem u hu
  · obtain ⟨h1, h2⟩ := h.ow u hu
    rw [getD_set _ _ _ _ _ (by rw [h.hl]; exact ht)]
    refine ⟨?_, h2⟩
    split
    · rfl
    · exact h1
theorem MkI.both {c : Cfg} {v : Nat} {l : List Cel} {hs os : List Bool} {t : Nat} (h : MkI c v l hs os 0) (hc : c.Slots) (hv : v < 2) (ht : t < c.shp.thr) (hf : hs.getD t false = false) :
    MkI c v (l.set (markB c v + t) ⟨0, 1, 0, 0⟩) (hs.set t true) (os.set t true) 0 := by
  have h' := h.arrive hc hv ht hf
  refine ⟨h'.len, h'.hl, by simp [h.ol], h'.mem, fun u hu => ⟨?_, Nat.zero_le _⟩, h.kb⟩
  rw [getD_set _ _ _ _ _ (by rw [h.hl]; exact ht)]
  rw [getD_set _ _ _ _ _ (by rw [h.ol]; exact ht)] at hu
  split at hu
  · rename_i e; rw [if_pos e]
  · rename_i e; rw [if_neg e]; exact (h.ow u hu).1
theorem MkI.depart {c : Cfg} {v : Nat} {l : List Cel} {hs os : List Bool} {k t : Nat} (h : MkI c v l hs os k) (hc : c.Slots) (hv : v < 2) (ht : t < c.shp.thr) :
    MkI c v (l.set (markB c v + t) ⟨0, 0, 0, 0⟩) (hs.set t false) (os.set t false) k := by
  have hb := (markB_lt hc hv ht).2
  refine ⟨by simp [h.len], by simp [h.hl], by simp [h.ol], fun u hu => ?_, fun u hu => ?_, h.kb⟩
  · rw [getD_set _ _ _ _ _ (by rw [h.len]; exact hb), getD_set _ _ _ _ _ (by rw [h.hl]; exact ht)]
    by_cases e : t = u
    · subst e; simp [markCel]
    · rw [if_neg (by omega), if_neg e]; exact h.mem u hu
  · rw [getD_set _ _ _ _ _ (by rw [h.hl]; exact ht)]
    rw [getD_set _ _ _ _ _ (by rw [h.ol]; exact ht)] at hu
    split at hu
    · cases hu
    · rename_i e; rw [if_neg e]; exact h.ow u hu
/-- A look that finds nobody. -/
theorem MkI.next {c : Cfg} {v : Nat} {l : List Cel} {hs os : List Bool} {k : Nat} (h : MkI c v l hs os k) (h0 : (l.getD (markB c v + k) .zero).a = 0) (hk : k + 1 < c.shp.thr) : MkI c v l hs os (k + 1) := by
  refine ⟨h.len, h.hl, h.ol, h.mem, fun u hu => ?_, hk⟩
  obtain ⟨h1, h2⟩ := h.ow u hu
  rw [h.mem k h.kb, markCel_zero] at h0
  refine ⟨h1, ?_⟩
  by_cases e : u = k
  · subst e; rw [h0] at h1; cases h1
  · omega
theorem MkI.done {c : Cfg} {v : Nat} {l : List Cel} {hs os : List Bool} {k : Nat} (h : MkI c v l hs os k) (h0 : (l.getD (markB c v + k) .zero).a = 0) (hk : k + 1 = c.shp.thr) (t : Nat) : os.getD t false = false := by
  cases ho : os.getD t false with
  | false => rfl
  | true =>
    obtain ⟨h1, h2⟩ := h.ow t ho
    rw [h.mem k h.kb, markCel_zero] at h0
    have hlt : t < os.length := by
      rcases Nat.lt_or_ge t os.length with h | h
      · exact h
      · rw [List.getD_eq_getElem?_getD, List.getElem?_eq_none h] at ho; cases ho
    have e : t = k := by rw [h.ol] at hlt; omega
    subst e; rw [h0] at h1; cases h1
theorem MkI.here {c : Cfg} {v : Nat} {l : List Cel} {hs os : List Bool} {k : Nat} (h : MkI c v l hs os k) (h0 : (l.getD (markB c v + k) .zero).a ≠ 0) : hs.getD k false = true := by
  rw [h.mem k h.kb] at h0
  cases hh : hs.getD k false with
  | true => rfl
  | false => exact absurd (markCel_zero.2 hh) h0

end Go.Proofs.Ytecjbgddjejjdaa
