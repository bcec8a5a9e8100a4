/- Plain: drains of both kinds. -/
import Derived.Test.YtecjbgddjejjdaaStrAt
import Derived.Test.YtecjbgddjejjdaaMrkAt
import Derived.Test.YtecjbgddjejjdaaPlainBound
namespace Go.Proofs.Ytecjbgddjejjdaa
open Go.RowKit
set_option linter.unusedVariables false

def manyN (c : Cfg) : Nat := if c.kd = 1 then c.shp.thr else 2 * c.shp.str
def arrX (c : Cfg) (v t : Nat) : Acc := if c.kd = 1 then ⟨2, ((markB c v + t : Nat) : Int), ⟨0, 0, 0, 0⟩, ⟨0, 1, 0, 0⟩⟩ else ⟨4, ((inB c v + t % c.shp.str : Nat) : Int), ⟨0, 0, 0, 0⟩, ⟨0, 1, 0, 0⟩⟩
def depX (c : Cfg) (v t : Nat) : Acc := if c.kd = 1 then ⟨2, ((markB c v + t : Nat) : Int), ⟨0, 0, 0, 0⟩, ⟨0, 0, 0, 0⟩⟩ else ⟨4, ((outB c v + t % c.shp.str : Nat) : Int), ⟨0, 0, 0, 0⟩, ⟨0, 1, 0, 0⟩⟩
def lkP (c : Cfg) (v a : Nat) : Nat := if c.kd = 1 then markB c v + a else lkM c v a
def lkX (c : Cfg) (v a : Nat) : Acc := ⟨1, ((lkP c v a : Nat) : Int), ⟨0, 0, 0, 0⟩, ⟨0, 0, 0, 0⟩⟩
theorem Cfg.May.two {c : Cfg} (h : c.May) : c.Slots ∨ c.Strs := by
  rcases h.2.2.1 with h1 | h1
  · exact .inl ⟨h, h1.1⟩
  · exact .inr ⟨h, h1.1⟩
theorem Cfg.Strs.kd1 {c : Cfg} (h : c.Strs) : ¬ c.kd = 1 := by have := h.2; omega
def noB (c : Cfg) : List Bool := List.replicate c.shp.thr false
theorem noB_at (c : Cfg) (t : Nat) : (noB c).getD t false = false := rep_fals _ _
theorem noB_set (c : Cfg) (t : Nat) : (noB c).set t false = noB c := rep_set _ _

/-- Who is there, of a version. -/
def Ind (c : Cfg) (v : Nat) (l : List Cel) (hs : List Bool) (n : Nat) : Prop := (c.Slots ∧ MkI c v l hs (noB c) 0) ∨ (c.Strs ∧ StI c v l hs (noB c) n)
/-- Nobody is in the other one. -/
def Oth (c : Cfg) (v : Nat) (l : List Cel) : Prop := (c.Slots ∧ OthM c v l) ∨ (c.Strs ∧ OthS c v l)
theorem Ind.len {c : Cfg} {v : Nat} {l : List Cel} {hs : List Bool} {n : Nat} (h : Ind c v l hs n) : l.length = allN c.shp ∧ hs.length = c.shp.thr := by
  rcases h with ⟨_, h⟩ | ⟨_, h⟩ <;> exact ⟨h.len, h.hl⟩
theorem thr_pos {c : Cfg} (h : c.May) : c.thr = ((c.shp.thr : Nat) : Int) ∧ 1 ≤ c.shp.thr ∧ c.shp.thr ≤ 16 := by
  have := h.1
  have e : c.shp.thr = c.thr.toNat := rfl
  omega
theorem many_le {c : Cfg} (h : c.May) : 1 ≤ manyN c ∧ manyN c ≤ 16 := by
  unfold manyN
  rcases h.two with h1 | h1
  · rw [if_pos h1.2]; exact (thr_pos h).2
  · rw [if_neg h1.kd1]; have := str_cast h1; omega
theorem Ind.start {c : Cfg} (h : c.May) {v : Nat} (hv : v < 2) : Ind c v (freshL c) (noB c) 0 := by
  rcases h.two with h1 | h1
  · exact .inl ⟨h1, mk_start (thr_pos h).2.1⟩
  · exact .inr ⟨h1, st_start h1 hv⟩
theorem Oth.start {c : Cfg} (h : c.May) {v : Nat} (hv : v < 2) : Oth c v (freshL c) := by
  rcases h.two with h1 | h1
  · refine .inl ⟨h1, fun t ht => ?_⟩
    rw [fresh_at c (by unfold markB; omega)]
    rfl
  · refine .inr ⟨h1, fun s hs => ?_⟩
    obtain ⟨_, h2, h3, _⟩ := cnt_lt h1 (v := 1 - v) (by omega) hs
    unfold inN outN
    rw [fresh_at c (by omega), fresh_at c (by omega)]
    exact ⟨rfl, rfl⟩
theorem Oth.ind {c : Cfg} {v : Nat} {l : List Cel} (h : Oth c v l) (hl : l.length = allN c.shp) : Ind c (1 - v) l (noB c) 0 := by
  rcases h with ⟨h1, h⟩ | ⟨h1, h⟩
  · exact .inl ⟨h1, h.mk hl (by have := thr_pos h1.1; omega)⟩
  · exact .inr ⟨h1, h.st hl⟩
theorem Ind.more {c : Cfg} {v : Nat} {l : List Cel} {hs : List Bool} {n m : Nat} (h : Ind c v l hs n) (hm : n ≤ m) : Ind c v l hs m := by
  rcases h with h | ⟨h1, h⟩
  · exact .inl h
  · exact .inr ⟨h1, h.more hm⟩
theorem Ind.arrive {c : Cfg} {v t : Nat} {l : List Cel} {hs : List Bool} {n : Nat} (h : Ind c v l hs n) (hv : v < 2) (ht : t < c.shp.thr) (hn : n ≤ 1000000) (hf : hs.getD t false = false) :
    Ind c v (doL l (arrX c v t)) (hs.set t true) (n + 1) ∧ doE l (arrX c v t) = 0 := by
  rcases h with ⟨h1, h⟩ | ⟨h1, h⟩
  · have hb := (markB_lt h1 hv ht).2
    obtain ⟨d1, d2⟩ := do_store (l := l) (m := markB c v + t) ⟨0, 1, 0, 0⟩ (by rw [h.len]; exact hb)
    unfold arrX
    rw [if_pos h1.2, d1, d2]
    exact ⟨.inl ⟨h1, h.arrive h1 hv ht hf⟩, rfl⟩
  · have hb := (cnt_lt h1 hv (modK h1 t).2).2.2.2.2.2
    obtain ⟨d1, d2, _⟩ := do_add (l := l) (m := inB c v + t % c.shp.str) (by rw [h.len]; exact hb)
    unfold arrX
    rw [if_neg h1.kd1, d1, d2]
    exact ⟨.inr ⟨h1, h.arrive h1 hv ht hn hf⟩, rfl⟩
theorem Oth.arrive {c : Cfg} {v t : Nat} {l : List Cel} {hs : List Bool} {n : Nat} (o : Oth c v l) (h : Ind c v l hs n) (hv : v < 2) (ht : t < c.shp.thr) (hn : n ≤ 1000000) : Oth c v (doL l (arrX c v t)) := by
  rcases h with ⟨h1, h⟩ | ⟨h1, h⟩
  · rcases o with ⟨_, o⟩ | ⟨o1, _⟩
    · have hb := (markB_lt h1 hv ht).2
      obtain ⟨d1, d2⟩ := do_store (l := l) (m := markB c v + t) ⟨0, 1, 0, 0⟩ (by rw [h.len]; exact hb)
      unfold arrX
      rw [if_pos h1.2, d1]
      exact .inl ⟨h1, o.set h1 h.len hv ht _⟩
    · exact absurd h1.2 o1.kd1
  · rcases o with ⟨o1, _⟩ | ⟨_, o⟩
    · exact absurd o1.2 h1.kd1
    · have hb := (cnt_lt h1 hv (modK h1 t).2).2.2.2.2.2
      obtain ⟨d1, d2, _⟩ := do_add (l := l) (m := inB c v + t % c.shp.str) (by rw [h.len]; exact hb)
      unfold arrX
      rw [if_neg h1.kd1, d1]
      exact .inr ⟨h1, o.arrive h h1 hv hn⟩
theorem Ind.depart {c : Cfg} {v t : Nat} {l : List Cel} {hs : List Bool} {n : Nat} (h : Ind c v l hs n) (hv : v < 2) (ht : t < c.shp.thr) (hn : n ≤ 1000000) (hf : hs.getD t false = true) :
    Ind c v (doL l (depX c v t)) (hs.set t false) n ∧ doE l (depX c v t) = 0 := by
  rcases h with ⟨h1, h⟩ | ⟨h1, h⟩
  · have hb := (markB_lt h1 hv ht).2
    obtain ⟨d1, d2⟩ := do_store (l := l) (m := markB c v + t) ⟨0, 0, 0, 0⟩ (by rw [h.len]; exact hb)
    have h2 := h.depart h1 hv ht
    rw [noB_set] at h2
    unfold depX
    rw [if_pos h1.2, d1, d2]
    exact ⟨.inl ⟨h1, h2⟩, rfl⟩
  · have hb := (cnt_lt h1 hv (modK h1 t).2).2.2.2.2.1
    obtain ⟨d1, d2, _⟩ := do_add (l := l) (m := outB c v + t % c.shp.str) (by rw [h.len]; exact hb)
    have h2 := h.depart h1 hv ht hn hf
    rw [noB_set] at h2
    unfold depX
    rw [if_neg h1.kd1, d1, d2]
    exact ⟨.inr ⟨h1, h2⟩, rfl⟩
theorem Oth.depart {c : Cfg} {v t : Nat} {l : List Cel} {hs : List Bool} {n : Nat} (o : Oth c v l) (h : Ind c v l hs n) (hv : v < 2) (ht : t < c.shp.thr) (hn : n ≤ 1000000) : Oth c v (doL l (depX c v t)) := by
  rcases h with ⟨h1, h⟩ | ⟨h1, h⟩
  · rcases o with ⟨_, o⟩ | ⟨o1, _⟩
    · have hb := (markB_lt h1 hv ht).2
      obtain ⟨d1, d2⟩ := do_store (l := l) (m := markB c v + t) ⟨0, 0, 0, 0⟩ (by rw [h.len]; exact hb)
      unfold depX
      rw [if_pos h1.2, d1]
      exact .inl ⟨h1, o.set h1 h.len hv ht _⟩
    · exact absurd h1.2 o1.kd1
  · rcases o with ⟨o1, _⟩ | ⟨_, o⟩
    · exact absurd o1.2 h1.kd1
    · have hb := (cnt_lt h1 hv (modK h1 t).2).2.2.2.2.1
      obtain ⟨d1, d2, _⟩ := do_add (l := l) (m := outB c v + t % c.shp.str) (by rw [h.len]; exact hb)
      unfold depX
      rw [if_neg h1.kd1, d1]
      exact .inr ⟨h1, o.depart h h1 hv hn⟩

/-- A look changes nothing. -/
theorem look_do {c : Cfg} {v a : Nat} {l : List Cel} (h : c.May) (hv : v < 2) (ha : a < manyN c) (hl : l.length = allN c.shp) :
    doL l (lkX c v a) = l ∧ doE l (lkX c v a) = 0 ∧ doS l (lkX c v a) = (l.getD (lkP c v a) .zero, true) := by
  have hb : lkP c v a < l.length := by
    unfold lkP
    unfold manyN at ha
    rcases h.two with h1 | h1
    · rw [if_pos h1.2] at ha ⊢
      rw [hl]; exact (markB_lt h1 hv ha).2
    · rw [if_neg h1.kd1] at ha ⊢
      rw [hl]; exact lkM_lt h1 hv ha
  exact do_lk hb

/-- What Seen says. -/
def seenX (c : Cfg) (a S A : Nat) : Nat × Nat × Bool :=
  if c.kd = 1 then (if A = 0 then (a + 1, 0, a + 1 == c.shp.thr) else (a, 0, false))
  else if a + 1 < 2 * c.shp.str then (a + 1, sumNext c.shp.str a S A, false) else if sumNext c.shp.str a S A = 0 then (a + 1, 0, true) else (0, 0, false)

/-- Where a drain stands behind q looks. -/
def DrP (c : Cfg) (hs : List Bool) (v : Nat) (l : List Cel) (a S q : Nat) : Prop :=
  (c.Slots ∧ a < c.shp.thr ∧ ((a = q ∧ ∀ t, t < q → hs.getD t false = false) ∨ hs.getD a false = true)) ∨ (c.Strs ∧ a < 2 * c.shp.str ∧ S = exS c v l a ∧ (q = a ∨ ∃ t, t < c.shp.thr ∧ hs.getD t false = true))
theorem DrP.start {c : Cfg} (h : c.May) (hs : List Bool) (v : Nat) (l : List Cel) : DrP c hs v l 0 0 0 := by
  rcases h.two with h1 | h1
  · exact .inl ⟨h1, (thr_pos h).2.1, .inl ⟨rfl, fun t ht => by omega⟩⟩
  · exact .inr ⟨h1, by have := str_cast h1; omega, (exS_zero c v l).symm, .inl rfl⟩
theorem DrP.lt {c : Cfg} {hs : List Bool} {v : Nat} {l : List Cel} {a S q : Nat} (d : DrP c hs v l a S q) : a < manyN c := by
  unfold manyN
  rcases d with ⟨h1, h, _⟩ | ⟨h1, h, _⟩
  · rw [if_pos h1.2]; exact h
  · rw [if_neg h1.kd1]; exact h
theorem DrP.stuck {c : Cfg} {hs : List Bool} {v : Nat} {l : List Cel} {a S q : Nat} (d : DrP c hs v l a S q) (hq : manyN c ≤ q) : ∃ t, t < c.shp.thr ∧ hs.getD t false = true := by
  unfold manyN at hq
  rcases d with ⟨h1, h, h2⟩ | ⟨h1, h, _, h2⟩
  · rw [if_pos h1.2] at hq
    rcases h2 with h2 | h2
    · omega
    · exact ⟨a, h, h2⟩
  · rw [if_neg h1.kd1] at hq
    rcases h2 with h2 | h2
    · omega
    · exact h2
theorem Ind.small {c : Cfg} {v a : Nat} {l : List Cel} {hs : List Bool} {n : Nat} (h : Ind c v l hs n) (hn : n ≤ 1000000) (ha : a < manyN c) : (l.getD (lkP c v a) .zero).a ≤ 1000000 := by
  unfold manyN at ha
  unfold lkP
  rcases h with ⟨h1, h⟩ | ⟨h1, h⟩
  · rw [if_pos h1.2] at ha ⊢
    rw [h.mem a ha]
    cases hs.getD a false <;> simp [markCel]
  · rw [if_neg h1.kd1] at ha ⊢
    rw [← lookN_at]
    exact look_small h hn ha
theorem DrP.step {c : Cfg} {hs : List Bool} {v : Nat} {l : List Cel} {a S q n : Nat} (d : DrP c hs v l a S q) (h : Ind c v l hs n) (hn : n ≤ 1000000) :
    ((seenX c a S (l.getD (lkP c v a) .zero).a).2.2 = true ∧ q + 1 = manyN c ∧ ∀ t, t < c.shp.thr → hs.getD t false = false)
    ∨ ((seenX c a S (l.getD (lkP c v a) .zero).a).2.2 = false ∧ DrP c hs v l (seenX c a S (l.getD (lkP c v a) .zero).a).1 (seenX c a S (l.getD (lkP c v a) .zero).a).2.1 (q + 1)) := by
  unfold seenX lkP manyN
  rcases d with ⟨h1, ha, d⟩ | ⟨h1, ha, hS, d⟩
  · rcases h with ⟨_, h⟩ | ⟨o1, _⟩
    case inr => exact absurd h1.2 o1.kd1
    simp only [if_pos h1.2]
    rw [h.mem a ha]
    cases hh : hs.getD a false with
    | true =>
      rw [if_neg (show ¬ (markCel true).a = 0 by simp [markCel])]
      exact .inr ⟨rfl, .inl ⟨h1, ha, .inr hh⟩⟩
    | false =>
      rw [if_pos (show (markCel false).a = 0 by simp [markCel])]
      rcases d with ⟨rfl, d⟩ | d
      · have hz : ∀ t, t < a + 1 → hs.getD t false = false := fun t ht => by
          by_cases e : t = a
          · rw [e]; exact hh
          · exact d t (by omega)
        by_cases e : a + 1 = c.shp.thr
        · refine .inl ⟨by simp [e], e, fun t ht => hz t (by omega)⟩
        · refine .inr ⟨by simp [e], .inl ⟨h1, by show a + 1 < c.shp.thr; omega, .inl ⟨rfl, hz⟩⟩⟩
      · rw [hh] at d; cases d
  · rcases h with ⟨o1, _⟩ | ⟨_, h⟩
    case inl => exact absurd o1.2 h1.kd1
    simp only [if_neg h1.kd1]
    have hnx := exS_next h h1 hn ha
    rw [← lookN_at, hS, hnx]
    by_cases e : a + 1 < 2 * c.shp.str
    · rw [if_pos e]
      refine .inr ⟨rfl, .inr ⟨h1, e, rfl, ?_⟩⟩
      rcases d with d | d
      · exact .inl (by omega)
      · exact .inr d
    · have e2 : a + 1 = 2 * c.shp.str := by omega
      rw [if_neg e, e2]
      by_cases hz : exS c v l (2 * c.shp.str) = 0
      · rw [if_pos hz]
        have hno := (exS_end h h1 hn).1 hz
        refine .inl ⟨rfl, ?_, hno⟩
        rcases d with d | ⟨t, d1, d2⟩
        · omega
        · rw [hno t d1] at d2; cases d2
      · rw [if_neg hz]
        refine .inr ⟨rfl, .inr ⟨h1, by have := str_cast h1; show 0 < 2 * c.shp.str; omega, (exS_zero c v l).symm, .inr ?_⟩⟩
        have h3 : ¬ ∀ t, t < c.shp.thr → hs.getD t false = false := fun x => hz ((exS_end h h1 hn).2 x)
        obtain ⟨t, ht⟩ := Classical.not_forall.1 h3
        obtain ⟨ht1, ht2⟩ := Classical.not_imp.1 ht
        exact ⟨t, ht1, by simpa using ht2⟩

/-- Is anybody there? -/
def anyH (c : Cfg) (hs : List Bool) : Bool := (List.range c.shp.thr).any fun t => hs.getD t false
theorem anyH_yes {c : Cfg} {hs : List Bool} : anyH c hs = true ↔ ∃ t, t < c.shp.thr ∧ hs.getD t false = true := by
  simp [anyH]
theorem anyH_no {c : Cfg} {hs : List Bool} (h : ∀ t, t < c.shp.thr → hs.getD t false = false) : anyH c hs = false := by
  cases e : anyH c hs with
  | false => rfl
  | true =>
    obtain ⟨t, h1, h2⟩ := anyH_yes.1 e
    rw [h t h1] at h2; cases h2
def drR (c : Cfg) (hs : List Bool) : Int := if anyH c hs = true then -1 else ((manyN c : Nat) : Int)

end Go.Proofs.Ytecjbgddjejjdaa
