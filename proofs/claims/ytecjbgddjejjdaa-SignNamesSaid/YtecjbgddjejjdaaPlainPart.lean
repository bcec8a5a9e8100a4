/- Plain: configs, and what stands where in a memory. -/
import Derived.Test.YtecjbgddjejjdaaPlainUp
namespace Go.Proofs.Ytecjbgddjejjdaa

/-- A config. -/
structure Cfg where
  ob : Int
  inst : Int
  thr : Int
  kd : Int
  str : Int
  bits : Int
  cap : Int
  node : Int
  bat : Int
  chk : Int
  lim : Int
  most : Int

def Cfg.May (c : Cfg) : Prop :=
  (1 ≤ c.ob ∧ c.ob ≤ 4 ∧ 2 ≤ c.inst ∧ c.inst ≤ 4 ∧ 1 ≤ c.thr ∧ c.thr ≤ 16) ∧ (1 ≤ c.cap ∧ c.cap ≤ 32 ∧ 1 ≤ c.bat ∧ c.bat ≤ 16 ∧ 131072 ≤ c.lim ∧ c.lim ≤ 4611686018427387904)
  ∧ ((c.kd = 1 ∧ c.str = 0 ∧ c.most = 0) ∨ (c.kd = 2 ∧ 1 ≤ c.str ∧ c.str ≤ 4 ∧ 1 ≤ c.most ∧ c.most ≤ 4611686018427387904))
  ∧ ((c.ob = 1 ∧ 1 ≤ c.bits ∧ c.bits ≤ 6) ∨ (c.ob ≠ 1 ∧ c.bits = 0))
  ∧ ((c.ob = 2 ∧ 2 ≤ c.node ∧ c.node ≤ 4 ∧ 1 ≤ c.chk ∧ c.chk ≤ 8) ∨ (c.ob ≠ 2 ∧ c.node = 0 ∧ c.chk = 0))
instance (c : Cfg) : Decidable c.May := by unfold Cfg.May; infer_instance
def mayC (c : Cfg) : Bool := decide c.May
theorem mayC_iff (c : Cfg) : mayC c = true ↔ c.May := by simp [mayC]

/-- A sum of numbers of nodes, level by level. -/
def sumN (m w : Nat) : Nat → Nat
  | 0 => 1
  | k + 1 => sumN m w k + itemsN m w k
theorem sumN_le (m w : Nat) (hm : m < 33) (hw : w < 5) (hw2 : 2 ≤ w) : ∀ k, k ≤ 5 → sumN m w k ≤ 1 + k * 32
  | 0, _ => by simp [sumN]
  | k + 1, h => by
    have := sumN_le m w hm hw hw2 k (by omega)
    have := items_lt m hm w hw hw2 k (by omega)
    simp only [sumN]; omega

/-- How great the object is. -/
def greatN (c : Cfg) : Nat :=
  if c.ob = 1 then 2 * 2 ^ c.bits.toNat else if c.ob = 2 then sumN c.cap.toNat c.node.toNat (topN c.cap.toNat c.node.toNat + 1) else c.cap.toNat
theorem sumN_pos (m w : Nat) : ∀ k, 1 ≤ sumN m w k
  | 0 => by simp [sumN]
  | k + 1 => by have := sumN_pos m w k; simp only [sumN]; omega
theorem pow6 (n : Nat) (h : n ≤ 6) : 2 ^ n ≤ 64 := by have := Nat.pow_le_pow_right (n := 2) (by decide) h; simpa using this
theorem great_le {c : Cfg} (h : c.May) : 1 ≤ greatN c ∧ greatN c ≤ 161 := by
  unfold greatN
  obtain ⟨h1, h2, h3, h4, h5⟩ := h
  split
  · have := pow6 c.bits.toNat (by omega)
    have := Nat.two_pow_pos c.bits.toNat
    omega
  · split
    · have hm : c.cap.toNat < 33 := by omega
      have hw : c.node.toNat < 5 := by omega
      have hw2 : 2 ≤ c.node.toNat := by omega
      have ht := top_le c.cap.toNat hm c.node.toNat hw
      have := sumN_le c.cap.toNat c.node.toNat hm hw hw2 (topN c.cap.toNat c.node.toNat + 1) (by omega)
      have := sumN_pos c.cap.toNat c.node.toNat (topN c.cap.toNat c.node.toNat + 1)
      omega
    · omega

/-- What of a config its memory's places hang on. -/
structure Shp where
  slots : Bool
  thr : Nat
  str : Nat
  inst : Nat
  size : Nat
def Cfg.shp (c : Cfg) : Shp := ⟨decide (c.kd = 1), c.thr.toNat, c.str.toNat, c.inst.toNat, greatN c⟩

structure Pl where
  k : Nat
  a : Nat
  b : Nat
deriving DecidableEq

def eachL (k fr as bs : Nat) : List Pl := (List.range (as * bs)).map fun i => ⟨k, fr + i / bs, i % bs⟩
theorem eachL_len (k fr as bs : Nat) : (eachL k fr as bs).length = as * bs := by simp [eachL]
def instL (s : Shp) : Nat → List Pl
  | 0 => []
  | i + 1 => instL s i ++ (eachL 9 i 1 1 ++ eachL 10 i 1 s.size)
def marksL (s : Shp) : List Pl := if s.slots then eachL 6 0 2 s.thr else eachL 7 0 2 s.str ++ eachL 8 0 2 s.str
def headL (s : Shp) : List Pl := eachL 1 0 1 1 ++ eachL 2 0 1 1 ++ eachL 3 0 1 1 ++ eachL 4 0 s.thr 1 ++ eachL 5 0 s.thr 1
def placesL (s : Shp) : List Pl := headL s ++ marksL s ++ instL s s.inst

def aheadN (s : Shp) : Nat := 3 + 2 * s.thr + (if s.slots then 2 * s.thr else 4 * s.str)
def allN (s : Shp) : Nat := aheadN s + s.inst * (1 + s.size)

def whereN (s : Shp) (p : Pl) : Nat :=
  if p.k = 1 then 0 else if p.k = 2 then 1 else if p.k = 3 then 2 else if p.k = 4 then 3 + p.a else if p.k = 5 then 3 + s.thr + p.a
  else if p.k = 6 then 3 + 2 * s.thr + p.a * s.thr + p.b else if p.k = 7 then 3 + 2 * s.thr + p.a * s.str + p.b else if p.k = 8 then 3 + 2 * s.thr + 2 * s.str + p.a * s.str + p.b
  else if p.k = 9 then aheadN s + p.a * (1 + s.size) else aheadN s + p.a * (1 + s.size) + 1 + p.b

def countsN (s : Shp) (k : Nat) : Nat × Nat :=
  if k = 1 ∨ k = 2 ∨ k = 3 then (1, 1) else if k = 4 ∨ k = 5 then (s.thr, 1) else if k = 6 then (if s.slots then (2, s.thr) else (0, 0))
  else if k = 7 ∨ k = 8 then (if s.slots then (0, 0) else (2, s.str)) else if k = 9 then (s.inst, 1) else if k = 10 then (s.inst, s.size) else (0, 0)
def hasP (s : Shp) (p : Pl) : Prop := p.a < (countsN s p.k).1 ∧ p.b < (countsN s p.k).2
instance (s : Shp) (p : Pl) : Decidable (hasP s p) := by unfold hasP; infer_instance

/-- Each place of a list stands where F says. -/
def Loc (L : List Pl) (F : Pl → Nat) (o : Nat) : Prop := ∀ i x, L[i]? = some x → F x = o + i
theorem Loc.append {L M : List Pl} {F : Pl → Nat} {o : Nat} (h : Loc L F o) (g : Loc M F (o + L.length)) : Loc (L ++ M) F o := by
  intro i x hx
  by_cases hi : i < L.length
  · rw [List.getElem?_append_left hi] at hx; exact h i x hx
  · rw [List.getElem?_append_right (by omega)] at hx
    have := g _ _ hx
    omega
theorem Loc.nil {F : Pl → Nat} {o : Nat} : Loc [] F o := by intro i x hx; simp at hx
theorem Loc.each {F : Pl → Nat} {k fr as bs o : Nat} (h : ∀ i, i < as * bs → F ⟨k, fr + i / bs, i % bs⟩ = o + i) : Loc (eachL k fr as bs) F o := by
  intro i x hx
  have hi : i < as * bs := by have := (List.getElem?_eq_some_iff.1 hx).1; simpa [eachL] using this
  simp [eachL, hi] at hx
  rw [← hx]; exact h i hi
theorem mem_each {k fr as bs : Nat} {p : Pl} : p ∈ eachL k fr as bs ↔ p.k = k ∧ fr ≤ p.a ∧ p.a < fr + as ∧ p.b < bs := by
  constructor
  · intro h
    simp only [eachL, List.mem_map, List.mem_range] at h
    obtain ⟨i, hi, rfl⟩ := h
    have hb : 0 < bs := by rcases Nat.eq_zero_or_pos bs with h | h; (rw [h] at hi; omega); exact h
    refine ⟨rfl, by simp, ?_, Nat.mod_lt _ hb⟩
    have : i / bs < as := (Nat.div_lt_iff_lt_mul hb).2 hi
    show fr + i / bs < fr + as
    omega
  · obtain ⟨k', a, b⟩ := p
    rintro ⟨rfl, h1, h2, h3⟩
    simp only at h1 h2 h3
    simp only [eachL, List.mem_map, List.mem_range]
    refine ⟨(a - fr) * bs + b, ?_, ?_⟩
    · have : (a - fr + 1) * bs ≤ as * bs := Nat.mul_le_mul_right _ (by omega)
      rw [Nat.add_mul] at this
      omega
    · have hb : 0 < bs := by omega
      rw [Nat.add_comm ((a - fr) * bs) b, Nat.add_mul_div_right _ _ hb, Nat.add_mul_mod_self_right, Nat.div_eq_of_lt h3, Nat.mod_eq_of_lt h3]
      congr 1
      omega

theorem instL_len (s : Shp) : ∀ n, (instL s n).length = n * (1 + s.size)
  | 0 => by simp [instL]
  | n + 1 => by
    simp only [instL, List.length_append, instL_len s n, eachL_len]
    rw [Nat.add_mul]
    omega
theorem head_len (s : Shp) : (headL s).length = 3 + 2 * s.thr := by simp [headL, eachL_len]; omega
theorem marks_len (s : Shp) : (marksL s).length = if s.slots then 2 * s.thr else 4 * s.str := by
  unfold marksL; split <;> simp [eachL_len]; omega
theorem places_len (s : Shp) : (placesL s).length = allN s := by
  simp only [placesL, List.length_append, head_len, marks_len, instL_len, allN, aheadN]

theorem div_mod_eq (i n : Nat) : i / n * n + i % n = i := by rw [Nat.mul_comm]; exact Nat.div_add_mod i n

theorem loc_inst (s : Shp) : ∀ n, Loc (instL s n) (whereN s) (aheadN s)
  | 0 => Loc.nil
  | n + 1 => by
    simp only [instL]
    refine (loc_inst s n).append (Loc.append (Loc.each fun i hi => ?_) (Loc.each fun i hi => ?_))
    · obtain rfl : i = 0 := by omega
      rw [instL_len]
      simp [whereN]
    · rw [instL_len, eachL_len]
      have : i < s.size := by omega
      simp [whereN, Nat.div_eq_of_lt this, Nat.mod_eq_of_lt this]
      try omega

theorem loc_marks (s : Shp) : Loc (marksL s) (whereN s) (3 + 2 * s.thr) := by
  unfold marksL
  split
  · refine Loc.each fun i _ => ?_
    have := div_mod_eq i s.thr
    simp [whereN]; omega
  · refine Loc.append (Loc.each fun i _ => ?_) (Loc.each fun i _ => ?_)
    · have := div_mod_eq i s.str
      simp [whereN]; omega
    · have := div_mod_eq i s.str
      rw [eachL_len]
      simp [whereN]; omega

theorem loc_places (s : Shp) : Loc (placesL s) (whereN s) 0 := by
  unfold placesL headL
  have e : ∀ k i, k = 1 ∨ k = 2 ∨ k = 3 → i < 1 * 1 → whereN s ⟨k, 0 + i / 1, i % 1⟩ = k - 1 + i := by
    intro k i hk hi
    obtain rfl : i = 0 := by omega
    rcases hk with rfl | rfl | rfl <;> simp [whereN]
  refine Loc.append (Loc.append (Loc.append (Loc.append (Loc.append (Loc.append (Loc.each fun i hi => ?_) (Loc.each fun i hi => ?_)) (Loc.each fun i hi => ?_)) (Loc.each fun i hi => ?_)) (Loc.each fun i hi => ?_)) ?_) ?_
  · rw [e 1 i (by omega) hi]
  · rw [e 2 i (by omega) hi]; simp [eachL_len]
  · rw [e 3 i (by omega) hi]; simp [eachL_len]
  · simp [eachL_len, whereN]
  · simp [eachL_len, whereN]; omega
  · have := loc_marks s
    simp only [List.length_append, eachL_len]
    rw [show 0 + (1 * 1 + 1 * 1 + 1 * 1 + s.thr * 1 + s.thr * 1) = 3 + 2 * s.thr from by omega]
    exact this
  · have := loc_inst s s.inst
    simp only [List.length_append, eachL_len, marks_len]
    rw [show 0 + (1 * 1 + 1 * 1 + 1 * 1 + s.thr * 1 + s.thr * 1 + if s.slots = true then 2 * s.thr else 4 * s.str) = aheadN s from by unfold aheadN; omega]
    exact this

theorem mem_inst (s : Shp) (p : Pl) : ∀ n, p ∈ instL s n ↔ (p.k = 9 ∧ p.a < n ∧ p.b < 1) ∨ (p.k = 10 ∧ p.a < n ∧ p.b < s.size)
  | 0 => by simp [instL]
  | n + 1 => by
    simp only [instL, List.mem_append, mem_inst s p n, mem_each]
    omega

set_option maxHeartbeats 1600000 in
theorem mem_places (s : Shp) (p : Pl) : p ∈ placesL s ↔ hasP s p := by
  obtain ⟨k, a, b⟩ := p
  have hk : k = 1 ∨ k = 2 ∨ k = 3 ∨ k = 4 ∨ k = 5 ∨ k = 6 ∨ k = 7 ∨ k = 8 ∨ k = 9 ∨ k = 10 ∨ (k ≠ 1 ∧ k ≠ 2 ∧ k ≠ 3 ∧ k ≠ 4 ∧ k ≠ 5 ∧ k ≠ 6 ∧ k ≠ 7 ∧ k ≠ 8 ∧ k ≠ 9 ∧ k ≠ 10) := by omega
  cases hs : s.slots
  all_goals rcases hk with rfl | rfl | rfl | rfl | rfl | rfl | rfl | rfl | rfl | rfl | ⟨h1, h2, h3, h4, h5, h6, h7, h8, h9, h10⟩
  all_goals simp [placesL, headL, marksL, mem_each, mem_inst, hasP, countsN, *]
  all_goals omega

theorem places_at {s : Shp} {p : Pl} (h : hasP s p) : (placesL s)[whereN s p]? = some p := by
  obtain ⟨i, hi⟩ := List.mem_iff_getElem?.1 ((mem_places s p).2 h)
  have := loc_places s i p hi
  rw [Nat.zero_add] at this
  rw [this]; exact hi
theorem where_of {s : Shp} {p : Pl} {i : Nat} (h : (placesL s)[i]? = some p) : whereN s p = i ∧ hasP s p :=
  ⟨by have := loc_places s i p h; omega, (mem_places s p).1 (List.mem_of_getElem? h)⟩
theorem where_lt {s : Shp} {p : Pl} (h : hasP s p) : whereN s p < allN s := by
  have := (List.getElem?_eq_some_iff.1 (places_at h)).1
  rwa [places_len] at this
theorem where_inj {s : Shp} {p q : Pl} (h : hasP s p) (g : hasP s q) (e : whereN s p = whereN s q) : p = q := by
  have h1 := places_at h
  rw [e, places_at g] at h1
  exact (Option.some.inj h1).symm

end Go.Proofs.Ytecjbgddjejjdaa
