/- XSignAll: texts that are one here for the count of files. -/
import Derived.Test.YtecjbgddjejjdaaDoorStrAt
import Derived.Test.YtecjbgddjejjdaaDoorMrkAt
import Derived.Test.YtecjbgddjejjdaaDoorPlainBound
import Derived.Test.YtecjbgddjejjdaaDoorStripeE
import Derived.Test.YtecjbgddjejjdaaDoorMarkE
import Derived.Handy
import Derived.Test.YtecjbgddjejjdaaDoorDrW
import Derived.Test.YtecjbgddjejjdaaDoorPartD
import Derived.Test.YtecjbgddjejjdaaDoorCellRun
import Derived.Test.YtecjbgddjejjdaaDoorPartN
namespace Go.Proofs.YtecjbgddjejjdaaDoor
open Go.RowKit
set_option linter.unusedVariables false

def manyN (c : Cfg) : Nat := if c.kd = 1 then c.shp.thr else 2 * c.shp.str
def arrX (c : Cfg) (v t : Nat) : Acc := if c.kd = 1 then ⟨2, ((markB c v + t : Nat) : Int), ⟨0, 0, 0, 0⟩, ⟨0, 1, 0, 0⟩⟩ else ⟨4, ((inB c v + t % c.shp.str : Nat) : Int), ⟨0, 0, 0, 0⟩, ⟨0, 1, 0, 0⟩⟩
def depX (c : Cfg) (v t : Nat) : Acc := if c.kd = 1 then ⟨2, ((markB c v + t : Nat) : Int), ⟨0, 0, 0, 0⟩, ⟨0, 0, 0, 0⟩⟩ else ⟨4, ((outB c v + t % c.shp.str : Nat) : Int), ⟨0, 0, 0, 0⟩, ⟨0, 1, 0, 0⟩⟩
def lkP (c : Cfg) (v a : Nat) : Nat := if c.kd = 1 then markB c v + a else lkM c v a
def lkX (c : Cfg) (v a : Nat) : Acc := ⟨1, ((lkP c v a : Nat) : Int), ⟨0, 0, 0, 0⟩, ⟨0, 0, 0, 0⟩⟩
theorem Cfg.May.two {c : Cfg} (h : c.May) : c.Slots ∨ c.Strs := by
  rcases h.2.2.1 with h1 | h1
  · exact .inl ⟨h, h1.1⟩
  · exact .inr ⟨h, h1.1⟩
theorem Cfg.Strs.kd1 {c : Cfg} (h : c.Strs) : ¬ c.kd = 1 := by have := h.2; omega
def noB (c : Cfg) : List Bool := List.replicate c.shp.thr false
theorem noB_at (c : Cfg) (t : Nat) : (noB c).getD t false = false := rep_fals _ _
theorem noB_set (c : Cfg) (t : Nat) : (noB c).set t false = noB c := rep_set _ _

/-- Who is there, of a version. -/
def Ind (c : Cfg) (v : Nat) (l : List Cel) (hs : List Bool) (n : Nat) : Prop := (c.Slots ∧ MkI c v l hs (noB c) 0) ∨ (c.Strs ∧ StI c v l hs (noB c) n)
/-- Nobody is in the other one. -/
def Oth (c : Cfg) (v : Nat) (l : List Cel) : Prop := (c.Slots ∧ OthM c v l) ∨ (c.Strs ∧ OthS c v l)
theorem Ind.len {c : Cfg} {v : Nat} {l : List Cel} {hs : List Bool} {n : Nat} (h : Ind c v l hs n) : l.length = allN c.shp ∧ hs.length = c.shp.thr := by
  rcases h with ⟨_, h⟩ | ⟨_, h⟩ <;> exact ⟨h.len, h.hl⟩
theorem thr_pos {c : Cfg} (h : c.May) : c.thr = ((c.shp.thr : Nat) : Int) ∧ 1 ≤ c.shp.thr ∧ c.shp.thr ≤ 16 := by
  have := h.1
  have e : c.shp.thr = c.thr.toNat := rfl
  omega
theorem many_le {c : Cfg} (h : c.May) : 1 ≤ manyN c ∧ manyN c ≤ 16 := by
  unfold manyN
  rcases h.two with h1 | h1
  · rw [if_pos h1.2]; exact (thr_pos h).2
  · rw [if_neg h1.kd1]; have := str_cast h1; omega
theorem Ind.start {c : Cfg} (h : c.May) {v : Nat} (hv : v < 2) : Ind c v (freshL c) (noB c) 0 := by
  rcases h.two with h1 | h1
  · exact .inl ⟨h1, mk_start (thr_pos h).2.1⟩
  · exact .inr ⟨h1, st_start h1 hv⟩
theorem Oth.start {c : Cfg} (h : c.May) {v : Nat} (hv : v < 2) : Oth c v (freshL c) := by
  rcases h.two with h1 | h1
  · refine .inl ⟨h1, fun t ht => ?_⟩
    rw [fresh_at c (by unfold markB; omega)]
    rfl
  · refine .inr ⟨h1, fun s hs => ?_⟩
    obtain ⟨_, h2, h3, _⟩ := cnt_lt h1 (v := 1 - v) (by omega) hs
    unfold inN outN
    rw [fresh_at c (by omega), fresh_at c (by omega)]
    exact ⟨rfl, rfl⟩
theorem Oth.ind {c : Cfg} {v : Nat} {l : List Cel} (h : Oth c v l) (hl : l.length = allN c.shp) : Ind c (1 - v) l (noB c) 0 := by
  rcases h with ⟨h1, h⟩ | ⟨h1, h⟩
  · exact .inl ⟨h1, h.mk hl (by have := thr_pos h1.1; omega)⟩
  · exact .inr ⟨h1, h.st hl⟩
theorem Ind.more {c : Cfg} {v : Nat} {l : List Cel} {hs : List Bool} {n m : Nat} (h : Ind c v l hs n) (hm : n ≤ m) : Ind c v l hs m := by
  rcases h with h | ⟨h1, h⟩
  · exact .inl h
  · exact .inr ⟨h1, h.more hm⟩
theorem Ind.arrive {c : Cfg} {v t : Nat} {l : List Cel} {hs : List Bool} {n : Nat} (h : Ind c v l hs n) (hv : v < 2) (ht : t < c.shp.thr) (hn : n ≤ 1000000) (hf : hs.getD t false = false) :
    Ind c v (doL l (arrX c v t)) (hs.set t true) (n + 1) ∧ doE l (arrX c v t) = 0 := by
  rcases h with ⟨h1, h⟩ | ⟨h1, h⟩
  · have hb := (markB_lt h1 hv ht).2
    obtain ⟨d1, d2⟩ := do_store (l := l) (m := markB c v + t) ⟨0, 1, 0, 0⟩ (by rw [h.len]; exact hb)
    unfold arrX
    rw [if_pos h1.2, d1, d2]
    exact ⟨.inl ⟨h1, h.arrive h1 hv ht hf⟩, rfl⟩
  · have hb := (cnt_lt h1 hv (modK h1 t).2).2.2.2.2.2
    obtain ⟨d1, d2, _⟩ := do_add (l := l) (m := inB c v + t % c.shp.str) (by rw [h.len]; exact hb)
    unfold arrX
    rw [if_neg h1.kd1, d1, d2]
    exact ⟨.inr ⟨h1, h.arrive h1 hv ht hn hf⟩, rfl⟩
theorem Oth.arrive {c : Cfg} {v t : Nat} {l : List Cel} {hs : List Bool} {n : Nat} (o : Oth c v l) (h : Ind c v l hs n) (hv : v < 2) (ht : t < c.shp.thr) (hn : n ≤ 1000000) : Oth c v (doL l (arrX c v t)) := by
  rcases h with ⟨h1, h⟩ | ⟨h1, h⟩
  · rcases o with ⟨_, o⟩ | ⟨o1, _⟩
    · have hb := (markB_lt h1 hv ht).2
      obtain ⟨d1, d2⟩ := do_store (l := l) (m := markB c v + t) ⟨0, 1, 0, 0⟩ (by rw [h.len]; exact hb)
      unfold arrX
      rw [if_pos h1.2, d1]
      exact .inl ⟨h1, o.set h1 h.len hv ht _⟩
    · exact absurd h1.2 o1.kd1
  · rcases o with ⟨o1, _⟩ | ⟨_, o⟩
    · exact absurd o1.2 h1.kd1
    · have hb := (cnt_lt h1 hv (modK h1 t).2).2.2.2.2.2
      obtain ⟨d1, d2, _⟩ := do_add (l := l) (m := inB c v + t % c.shp.str) (by rw [h.len]; exact hb)
      unfold arrX
      rw [if_neg h1.kd1, d1]
      exact .inr ⟨h1, o.arrive h h1 hv hn⟩
theorem Ind.depart {c : Cfg} {v t : Nat} {l : List Cel} {hs : List Bool} {n : Nat} (h : Ind c v l hs n) (hv : v < 2) (ht : t < c.shp.thr) (hn : n ≤ 1000000) (hf : hs.getD t false = true) :
    Ind c v (doL l (depX c v t)) (hs.set t false) n ∧ doE l (depX c v t) = 0 := by
  rcases h with ⟨h1, h⟩ | ⟨h1, h⟩
  · have hb := (markB_lt h1 hv ht).2
    obtain ⟨d1, d2⟩ := do_store (l := l) (m := markB c v + t) ⟨0, 0, 0, 0⟩ (by rw [h.len]; exact hb)
    have h2 := h.depart h1 hv ht
    rw [noB_set] at h2
    unfold depX
    rw [if_pos h1.2, d1, d2]
    exact ⟨.inl ⟨h1, h2⟩, rfl⟩
  · have hb := (cnt_lt h1 hv (modK h1 t).2).2.2.2.2.1
    obtain ⟨d1, d2, _⟩ := do_add (l := l) (m := outB c v + t % c.shp.str) (by rw [h.len]; exact hb)
    have h2 := h.depart h1 hv ht hn hf
    rw [noB_set] at h2
    unfold depX
    rw [if_neg h1.kd1, d1, d2]
    exact ⟨.inr ⟨h1, h2⟩, rfl⟩
theorem Oth.depart {c : Cfg} {v t : Nat} {l : List Cel} {hs : List Bool} {n : Nat} (o : Oth c v l) (h : Ind c v l hs n) (hv : v < 2) (ht : t < c.shp.thr) (hn : n ≤ 1000000) : Oth c v (doL l (depX c v t)) := by
  rcases h with ⟨h1, h⟩ | ⟨h1, h⟩
  · rcases o with ⟨_, o⟩ | ⟨o1, _⟩
    · have hb := (markB_lt h1 hv ht).2
      obtain ⟨d1, d2⟩ := do_store (l := l) (m := markB c v + t) ⟨0, 0, 0, 0⟩ (by rw [h.len]; exact hb)
      unfold depX
      rw [if_pos h1.2, d1]
      exact .inl ⟨h1, o.set h1 h.len hv ht _⟩
    · exact absurd h1.2 o1.kd1
  · rcases o with ⟨o1, _⟩ | ⟨_, o⟩
    · exact absurd o1.2 h1.kd1
    · have hb := (cnt_lt h1 hv (modK h1 t).2).2.2.2.2.1
      obtain ⟨d1, d2, _⟩ := do_add (l := l) (m := outB c v + t % c.shp.str) (by rw [h.len]; exact hb)
      unfold depX
      rw [if_neg h1.kd1, d1]
      exact .inr ⟨h1, o.depart h h1 hv hn⟩

/-- A look changes nothing. -/
theorem look_do {c : Cfg} {v a : Nat} {l : List Cel} (h : c.May) (hv : v < 2) (ha : a < manyN c) (hl : l.length = allN c.shp) :
    doL l (lkX c v a) = l ∧ doE l (lkX c v a) = 0 ∧ doS l (lkX c v a) = (l.getD (lkP c v a) .zero, true) := by
  have hb : lkP c v a < l.length := by
    unfold lkP
    unfold manyN at ha
    rcases h.two with h1 | h1
    · rw [if_pos h1.2] at ha ⊢
      rw [hl]; exact (markB_lt h1 hv ha).2
    · rw [if_neg h1.kd1] at ha ⊢
      rw [hl]; exact lkM_lt h1 hv ha
  exact do_lk hb

/-- What Seen says. -/
def seenX (c : Cfg) (a S A : Nat) : Nat × Nat × Bool :=
  if c.kd = 1 then (if A = 0 then (a + 1, 0, a + 1 == c.shp.thr) else (a, 0, false))
  else if a + 1 < 2 * c.shp.str then (a + 1, sumNext c.shp.str a S A, false) else if sumNext c.shp.str a S A = 0 then (a + 1, 0, true) else (0, 0, false)

/-- Where a drain stands behind q looks. -/
def DrP (c : Cfg) (hs : List Bool) (v : Nat) (l : List Cel) (a S q : Nat) : Prop :=
  (c.Slots ∧ a < c.shp.thr ∧ ((a = q ∧ ∀ t, t < q → hs.getD t false = false) ∨ hs.getD a false = true)) ∨ (c.Strs ∧ a < 2 * c.shp.str ∧ S = exS c v l a ∧ (q = a ∨ ∃ t, t < c.shp.thr ∧ hs.getD t false = true))
theorem DrP.start {c : Cfg} (h : c.May) (hs : List Bool) (v : Nat) (l : List Cel) : DrP c hs v l 0 0 0 := by
  rcases h.two with h1 | h1
  · exact .inl ⟨h1, (thr_pos h).2.1, .inl ⟨rfl, fun t ht => by omega⟩⟩
  · exact .inr ⟨h1, by have := str_cast h1; omega, (exS_zero c v l).symm, .inl rfl⟩
theorem DrP.lt {c : Cfg} {hs : List Bool} {v : Nat} {l : List Cel} {a S q : Nat} (d : DrP c hs v l a S q) : a < manyN c := by
  unfold manyN
  rcases d with ⟨h1, h, _⟩ | ⟨h1, h, _⟩
  · rw [if_pos h1.2]; exact h
  · rw [if_neg h1.kd1]; exact h
theorem DrP.stuck {c : Cfg} {hs : List Bool} {v : Nat} {l : List Cel} {a S q : Nat} (d : DrP c hs v l a S q) (hq : manyN c ≤ q) : ∃ t, t < c.shp.thr ∧ hs.getD t false = true := by
  unfold manyN at hq
  rcases d with ⟨h1, h, h2⟩ | ⟨h1, h, _, h2⟩
  · rw [if_pos h1.2] at hq
    rcases h2 with h2 | h2
    · omega
    · exact ⟨a, h, h2⟩
  · rw [if_neg h1.kd1] at hq
    rcases h2 with h2 | h2
    · omega
    · exact h2
theorem Ind.small {c : Cfg} {v a : Nat} {l : List Cel} {hs : List Bool} {n : Nat} (h : Ind c v l hs n) (hn : n ≤ 1000000) (ha : a < manyN c) : (l.getD (lkP c v a) .zero).a ≤ 1000000 := by
  unfold manyN at ha
  unfold lkP
  rcases h with ⟨h1, h⟩ | ⟨h1, h⟩
  · rw [if_pos h1.2] at ha ⊢
    rw [h.mem a ha]
    cases hs.getD a false <;> simp [markCel]
  · rw [if_neg h1.kd1] at ha ⊢
    rw [← lookN_at]
    exact look_small h hn ha
theorem DrP.step {c : Cfg} {hs : List Bool} {v : Nat} {l : List Cel} {a S q n : Nat} (d : DrP c hs v l a S q) (h : Ind c v l hs n) (hn : n ≤ 1000000) :
    ((seenX c a S (l.getD (lkP c v a) .zero).a).2.2 = true ∧ q + 1 = manyN c ∧ ∀ t, t < c.shp.thr → hs.getD t false = false)
    ∨ ((seenX c a S (l.getD (lkP c v a) .zero).a).2.2 = false ∧ DrP c hs v l (seenX c a S (l.getD (lkP c v a) .zero).a).1 (seenX c a S (l.getD (lkP c v a) .zero).a).2.1 (q + 1)) := by
  unfold seenX lkP manyN
  rcases d with ⟨h1, ha, d⟩ | ⟨h1, ha, hS, d⟩
  · rcases h with ⟨_, h⟩ | ⟨o1, _⟩
    case inr => exact absurd h1.2 o1.kd1
    simp only [if_pos h1.2]
    rw [h.mem a ha]
    cases hh : hs.getD a false with
    | true =>
      rw [if_neg (show ¬ (markCel true).a = 0 by simp [markCel])]
      exact .inr ⟨rfl, .inl ⟨h1, ha, .inr hh⟩⟩
    | false =>
      rw [if_pos (show (markCel false).a = 0 by simp [markCel])]
      rcases d with ⟨rfl, d⟩ | d
      · have hz : ∀ t, t < a + 1 → hs.getD t false = false := fun t ht => by
          by_cases e : t = a
          · rw [e]; exact hh
          · exact d t (by omega)
        by_cases e : a + 1 = c.shp.thr
        · refine .inl ⟨by simp [e], e, fun t ht => hz t (by omega)⟩
        · refine .inr ⟨by simp [e], .inl ⟨h1, by show a + 1 < c.shp.thr; omega, .inl ⟨rfl, hz⟩⟩⟩
      · rw [hh] at d; cases d
  · rcases h with ⟨o1, _⟩ | ⟨_, h⟩
    case inl => exact absurd o1.2 h1.kd1
    simp only [if_neg h1.kd1]
    have hnx := exS_next h h1 hn ha
    rw [← lookN_at, hS, hnx]
    by_cases e : a + 1 < 2 * c.shp.str
    · rw [if_pos e]
      refine .inr ⟨rfl, .inr ⟨h1, e, rfl, ?_⟩⟩
      rcases d with d | d
      · exact .inl (by omega)
      · exact .inr d
    · have e2 : a + 1 = 2 * c.shp.str := by omega
      rw [if_neg e, e2]
      by_cases hz : exS c v l (2 * c.shp.str) = 0
      · rw [if_pos hz]
        have hno := (exS_end h h1 hn).1 hz
        refine .inl ⟨rfl, ?_, hno⟩
        rcases d with d | ⟨t, d1, d2⟩
        · omega
        · rw [hno t d1] at d2; cases d2
      · rw [if_neg hz]
        refine .inr ⟨rfl, .inr ⟨h1, by have := str_cast h1; show 0 < 2 * c.shp.str; omega, (exS_zero c v l).symm, .inr ?_⟩⟩
        have h3 : ¬ ∀ t, t < c.shp.thr → hs.getD t false = false := fun x => hz ((exS_end h h1 hn).2 x)
        obtain ⟨t, ht⟩ := Classical.not_forall.1 h3
        obtain ⟨ht1, ht2⟩ := Classical.not_imp.1 ht
        exact ⟨t, ht1, by simpa using ht2⟩

/-- Is anybody there? -/
def anyH (c : Cfg) (hs : List Bool) : Bool := (List.range c.shp.thr).any fun t => hs.getD t false
theorem anyH_yes {c : Cfg} {hs : List Bool} : anyH c hs = true ↔ ∃ t, t < c.shp.thr ∧ hs.getD t false = true := by
  simp [anyH]
theorem anyH_no {c : Cfg} {hs : List Bool} (h : ∀ t, t < c.shp.thr → hs.getD t false = false) : anyH c hs = false := by
  cases e : anyH c hs with
  | false => rfl
  | true =>
    obtain ⟨t, h1, h2⟩ := anyH_yes.1 e
    rw [h t h1] at h2; cases h2
def drR (c : Cfg) (hs : List Bool) : Int := if anyH c hs = true then -1 else ((manyN c : Nat) : Int)

end Go.Proofs.YtecjbgddjejjdaaDoor

namespace Go.Proofs.YtecjbgddjejjdaaDoor
open Go.RowKit

set_option maxRecDepth 100000 in
set_option maxHeartbeats 1600000 in
theorem marks_arrive (c : Cfg) (v t : Int) (w : World) (hp : Pw w) : Calls Tryd.prog 101 #[.agg #[.int .u8 c.ob, .int .i64 c.inst, .int .i64 c.thr, .int .u8 c.kd, .int .i64 c.str, .int .i64 c.bits, .int .i64 c.cap, .int .i64 c.node, .int .i64 c.bat, .int .i64 c.chk, .int .u64 c.lim, .int .u64 c.most], .int .i64 v, .int .i64 t] w fun e w' => e = .returned (.tuple #[accV (mkA c v t accArr), .int .i64 (mkE c v t)]) ∧ Below w.heap.size w w' := by
  have HP := Lib.hid hp
  clear hp
  go_enter Tryd.func101, Tryd.ntmps101
  go_wp2_with fail
  have HR := Lib.hid (Box.new (w.alloc (.cells ⟨cfgL c⟩ 135)) 31 [.int .u8 0, .int .i64 0, .int .u64 0, .int .u64 0, .int .u64 0, .int .u64 0, .int .u64 0, .int .u64 0, .int .u64 0, .int .u64 0])
  have HB := Lib.hid (moreB (moreB (Below.refl w.heap.size w) (.cells ⟨cfgL c⟩ 135)) (.cells ⟨[.int .u8 0, .int .i64 0, .int .u64 0, .int .u64 0, .int .u64 0, .int .u64 0, .int .u64 0, .int .u64 0, .int .u64 0, .int .u64 0]⟩ 31))
  simp only [World.size_alloc] at HR
  unfold cfgL at *
  generalize (w.alloc _).alloc _ = V at *
  refine (mArrive_any c v t V (HP.out.more HB.out)).mono ?_
  rintro e w1 ⟨rfl, hb⟩
  have HR := Lib.hid (HR.out.below hb)
  have HB := Lib.hid (keepB hb HB.out)
  clear hb
  generalize hY : mkA c v t accArr = y
  generalize hE : mkE c v t = E
  have HY := Lib.hid hY; have HE := Lib.hid hE
  clear hY hE
  rw [accV_form]
  have hr := HR.out
  have r0 := hr.c 0 rfl
  have r1 := hr.c 1 rfl
  have r2 := hr.c 2 rfl
  have r3 := hr.c 3 rfl
  have r4 := hr.c 4 rfl
  have r5 := hr.c 5 rfl
  have r6 := hr.c 6 rfl
  have r7 := hr.c 7 rfl
  have r8 := hr.c 8 rfl
  have r9 := hr.c 9 rfl
  have g0 := hr.f 0
  have g1 := hr.f 1
  have g2 := hr.f 2
  have g3 := hr.f 3
  have g4 := hr.f 4
  have g5 := hr.f 5
  have g6 := hr.f 6
  have g7 := hr.f 7
  have g8 := hr.f 8
  have g9 := hr.f 9
  clear hr
  go_wp2_with fail
  refine bodyPost_ret (v := .tuple #[.agg ⟨[.int .u8 y.k, .int .i64 y.at', .int .u64 y.old.t, .int .u64 y.old.a, .int .u64 y.old.b, .int .u64 y.old.c, .int .u64 y.new.t, .int .u64 y.new.a, .int .u64 y.new.b, .int .u64 y.new.c]⟩, .int .i64 E]) ?_ rfl ⟨by first | (rw [HY.out, HE.out]; rfl) | rfl, below_acc HB.out (by omega) _ _ _ _ _ _ _ _ _ _⟩
  exact (HR.out.acc _ _ _ _ _ _ _ _ _ _).results2 (t := 31) rfl (fun _ => by kernel_rfl) (fun _ => by kernel_rfl) rfl rfl

set_option maxRecDepth 100000 in
set_option maxHeartbeats 1600000 in
theorem marks_depart (c : Cfg) (v t : Int) (w : World) (hp : Pw w) : Calls Tryd.prog 102 #[.agg #[.int .u8 c.ob, .int .i64 c.inst, .int .i64 c.thr, .int .u8 c.kd, .int .i64 c.str, .int .i64 c.bits, .int .i64 c.cap, .int .i64 c.node, .int .i64 c.bat, .int .i64 c.chk, .int .u64 c.lim, .int .u64 c.most], .int .i64 v, .int .i64 t] w fun e w' => e = .returned (.tuple #[accV (mkA c v t accDep), .int .i64 (mkE c v t)]) ∧ Below w.heap.size w w' := by
  have HP := Lib.hid hp
  clear hp
  go_enter Tryd.func102, Tryd.ntmps102
  go_wp2_with fail
  have HR := Lib.hid (Box.new (w.alloc (.cells ⟨cfgL c⟩ 135)) 31 [.int .u8 0, .int .i64 0, .int .u64 0, .int .u64 0, .int .u64 0, .int .u64 0, .int .u64 0, .int .u64 0, .int .u64 0, .int .u64 0])
  have HB := Lib.hid (moreB (moreB (Below.refl w.heap.size w) (.cells ⟨cfgL c⟩ 135)) (.cells ⟨[.int .u8 0, .int .i64 0, .int .u64 0, .int .u64 0, .int .u64 0, .int .u64 0, .int .u64 0, .int .u64 0, .int .u64 0, .int .u64 0]⟩ 31))
  simp only [World.size_alloc] at HR
  unfold cfgL at *
  generalize (w.alloc _).alloc _ = V at *
  refine (mDepart_any c v t V (HP.out.more HB.out)).mono ?_
  rintro e w1 ⟨rfl, hb⟩
  have HR := Lib.hid (HR.out.below hb)
  have HB := Lib.hid (keepB hb HB.out)
  clear hb
  generalize hY : mkA c v t accDep = y
  generalize hE : mkE c v t = E
  have HY := Lib.hid hY; have HE := Lib.hid hE
  clear hY hE
  rw [accV_form]
  have hr := HR.out
  have r0 := hr.c 0 rfl
  have r1 := hr.c 1 rfl
  have r2 := hr.c 2 rfl
  have r3 := hr.c 3 rfl
  have r4 := hr.c 4 rfl
  have r5 := hr.c 5 rfl
  have r6 := hr.c 6 rfl
  have r7 := hr.c 7 rfl
  have r8 := hr.c 8 rfl
  have r9 := hr.c 9 rfl
  have g0 := hr.f 0
  have g1 := hr.f 1
  have g2 := hr.f 2
  have g3 := hr.f 3
  have g4 := hr.f 4
  have g5 := hr.f 5
  have g6 := hr.f 6
  have g7 := hr.f 7
  have g8 := hr.f 8
  have g9 := hr.f 9
  clear hr
  go_wp2_with fail
  refine bodyPost_ret (v := .tuple #[.agg ⟨[.int .u8 y.k, .int .i64 y.at', .int .u64 y.old.t, .int .u64 y.old.a, .int .u64 y.old.b, .int .u64 y.old.c, .int .u64 y.new.t, .int .u64 y.new.a, .int .u64 y.new.b, .int .u64 y.new.c]⟩, .int .i64 E]) ?_ rfl ⟨by first | (rw [HY.out, HE.out]; rfl) | rfl, below_acc HB.out (by omega) _ _ _ _ _ _ _ _ _ _⟩
  exact (HR.out.acc _ _ _ _ _ _ _ _ _ _).results2 (t := 31) rfl (fun _ => by kernel_rfl) (fun _ => by kernel_rfl) rfl rfl

set_option maxRecDepth 100000 in
set_option maxHeartbeats 1600000 in
theorem marks_look (c : Cfg) (v tg i sm : Int) (w : World) (hp : Pw w) : Calls Tryd.prog 104 #[.agg #[.int .u8 c.ob, .int .i64 c.inst, .int .i64 c.thr, .int .u8 c.kd, .int .i64 c.str, .int .i64 c.bits, .int .i64 c.cap, .int .i64 c.node, .int .i64 c.bat, .int .i64 c.chk, .int .u64 c.lim, .int .u64 c.most], .int .i64 v, .agg #[.int .u64 tg, .int .i64 i, .int .u64 sm]] w fun e w' => e = .returned (.tuple #[accV (mkA c v i accLook), .int .i64 (mkE c v i)]) ∧ Below w.heap.size w w' := by
  have HP := Lib.hid hp
  clear hp
  go_enter Tryd.func104, Tryd.ntmps104
  go_wp2_with fail
  have HR := Lib.hid (Box.new ((w.alloc (.cells ⟨cfgL c⟩ 135)).alloc (.cells #[.int .u64 tg, .int .i64 i, .int .u64 sm] 104)) 31 [.int .u8 0, .int .i64 0, .int .u64 0, .int .u64 0, .int .u64 0, .int .u64 0, .int .u64 0, .int .u64 0, .int .u64 0, .int .u64 0])
  have HB := Lib.hid (moreB (moreB (moreB (Below.refl w.heap.size w) (.cells ⟨cfgL c⟩ 135)) (.cells #[.int .u64 tg, .int .i64 i, .int .u64 sm] 104)) (.cells ⟨[.int .u8 0, .int .i64 0, .int .u64 0, .int .u64 0, .int .u64 0, .int .u64 0, .int .u64 0, .int .u64 0, .int .u64 0, .int .u64 0]⟩ 31))
  simp only [World.size_alloc] at HR
  unfold cfgL at *
  generalize ((w.alloc _).alloc _).alloc _ = V at *
  refine (mLook_any c v tg i sm V (HP.out.more HB.out)).mono ?_
  rintro e w1 ⟨rfl, hb⟩
  have HR := Lib.hid (HR.out.below hb)
  have HB := Lib.hid (keepB hb HB.out)
  clear hb
  generalize hY : mkA c v i accLook = y
  generalize hE : mkE c v i = E
  have HY := Lib.hid hY; have HE := Lib.hid hE
  clear hY hE
  rw [accV_form]
  have hr := HR.out
  have r0 := hr.c 0 rfl
  have r1 := hr.c 1 rfl
  have r2 := hr.c 2 rfl
  have r3 := hr.c 3 rfl
  have r4 := hr.c 4 rfl
  have r5 := hr.c 5 rfl
  have r6 := hr.c 6 rfl
  have r7 := hr.c 7 rfl
  have r8 := hr.c 8 rfl
  have r9 := hr.c 9 rfl
  have g0 := hr.f 0
  have g1 := hr.f 1
  have g2 := hr.f 2
  have g3 := hr.f 3
  have g4 := hr.f 4
  have g5 := hr.f 5
  have g6 := hr.f 6
  have g7 := hr.f 7
  have g8 := hr.f 8
  have g9 := hr.f 9
  clear hr
  go_wp2_with fail
  refine bodyPost_ret (v := .tuple #[.agg ⟨[.int .u8 y.k, .int .i64 y.at', .int .u64 y.old.t, .int .u64 y.old.a, .int .u64 y.old.b, .int .u64 y.old.c, .int .u64 y.new.t, .int .u64 y.new.a, .int .u64 y.new.b, .int .u64 y.new.c]⟩, .int .i64 E]) ?_ rfl ⟨by first | (rw [HY.out, HE.out]; rfl) | rfl, below_acc HB.out (by omega) _ _ _ _ _ _ _ _ _ _⟩
  exact (HR.out.acc _ _ _ _ _ _ _ _ _ _).results2 (t := 31) rfl (fun _ => by kernel_rfl) (fun _ => by kernel_rfl) rfl rfl

set_option maxRecDepth 100000 in
set_option maxHeartbeats 1600000 in
theorem marks_seen (c : Cfg) (tg i sm l0 la l2 l3 : Int) (na nn ns : Int) (em : Bool) (er : Int) (w : World) (hh : seenR c tg i la = .tuple #[.agg #[.int .u64 na, .int .i64 nn, .int .u64 ns], .bool em, .int .i64 er]) : Calls Tryd.prog 106 #[.agg #[.int .u8 c.ob, .int .i64 c.inst, .int .i64 c.thr, .int .u8 c.kd, .int .i64 c.str, .int .i64 c.bits, .int .i64 c.cap, .int .i64 c.node, .int .i64 c.bat, .int .i64 c.chk, .int .u64 c.lim, .int .u64 c.most], .agg #[.int .u64 tg, .int .i64 i, .int .u64 sm], .agg #[.int .u64 l0, .int .u64 la, .int .u64 l2, .int .u64 l3]] w fun e w' => e = .returned (.tuple #[.agg #[.int .u64 na, .int .i64 nn, .int .u64 ns], .bool em, .int .i64 er]) ∧ Below w.heap.size w w' := by
  have HH := Lib.hid hh
  clear hh
  go_enter Tryd.func106, Tryd.ntmps106
  go_wp2_with fail
  have HR := Lib.hid (Box.new (((w.alloc (.cells ⟨cfgL c⟩ 135)).alloc (.cells #[.int .u64 tg, .int .i64 i, .int .u64 sm] 104)).alloc (.cells #[.int .u64 l0, .int .u64 la, .int .u64 l2, .int .u64 l3] 29)) 104 [.int .u64 0, .int .i64 0, .int .u64 0])
  have HB := Lib.hid (moreB (moreB (moreB (moreB (Below.refl w.heap.size w) (.cells ⟨cfgL c⟩ 135)) (.cells #[.int .u64 tg, .int .i64 i, .int .u64 sm] 104)) (.cells #[.int .u64 l0, .int .u64 la, .int .u64 l2, .int .u64 l3] 29)) (.cells #[.int .u64 0, .int .i64 0, .int .u64 0] 104))
  simp only [World.size_alloc] at HR
  unfold cfgL at *
  generalize (((w.alloc _).alloc _).alloc _).alloc _ = V at *
  refine ((mSeen_any c tg i sm l0 la l2 l3 V).mono fun e w1 h => (show e = .returned (.tuple #[.agg #[.int .u64 na, .int .i64 nn, .int .u64 ns], .bool em, .int .i64 er]) ∧ Below V.heap.size V w1 from ⟨by rw [h.1, HH.out], h.2⟩)).mono ?_
  rintro e w1 ⟨rfl, hb⟩
  have HR := Lib.hid (HR.out.below hb)
  have HB := Lib.hid (keepB hb HB.out)
  clear hb
  have hr := HR.out
  have r0 := hr.c 0 rfl
  have r1 := hr.c 1 rfl
  have r2 := hr.c 2 rfl
  have g0 := hr.f 0
  have g1 := hr.f 1
  have g2 := hr.f 2
  clear hr
  go_wp2_with fail
  refine bodyPost_ret (v := .tuple #[.agg ⟨[.int .u64 na, .int .i64 nn, .int .u64 ns]⟩, .bool em, .int .i64 er]) ?_ rfl ⟨rfl, below_look HB.out (by omega) _ _ _⟩
  exact (HR.out.look _ _ _).resultsL (t := 104) rfl (fun _ => by kernel_rfl) (fun _ => by kernel_rfl) rfl rfl rfl

set_option maxRecDepth 100000 in
set_option maxHeartbeats 1600000 in
theorem counts_arrive (c : Cfg) (v t : Int) (w : World) (hp : Pw w) : Calls Tryd.prog 113 #[.agg #[.int .u8 c.ob, .int .i64 c.inst, .int .i64 c.thr, .int .u8 c.kd, .int .i64 c.str, .int .i64 c.bits, .int .i64 c.cap, .int .i64 c.node, .int .i64 c.bat, .int .i64 c.chk, .int .u64 c.lim, .int .u64 c.most], .int .i64 v, .int .i64 t] w fun e w' => e = .returned (.tuple #[accV (stA c (sideK 1) v t), .int .i64 (stE c v t)]) ∧ Below w.heap.size w w' := by
  have HP := Lib.hid hp
  clear hp
  go_enter Tryd.func113, Tryd.ntmps113
  go_wp2_with fail
  have HR := Lib.hid (Box.new (w.alloc (.cells ⟨cfgL c⟩ 136)) 31 [.int .u8 0, .int .i64 0, .int .u64 0, .int .u64 0, .int .u64 0, .int .u64 0, .int .u64 0, .int .u64 0, .int .u64 0, .int .u64 0])
  have HB := Lib.hid (moreB (moreB (Below.refl w.heap.size w) (.cells ⟨cfgL c⟩ 136)) (.cells ⟨[.int .u8 0, .int .i64 0, .int .u64 0, .int .u64 0, .int .u64 0, .int .u64 0, .int .u64 0, .int .u64 0, .int .u64 0, .int .u64 0]⟩ 31))
  simp only [World.size_alloc] at HR
  unfold cfgL at *
  generalize (w.alloc _).alloc _ = V at *
  refine (sArrive_any c v t V (HP.out.more HB.out)).mono ?_
  rintro e w1 ⟨rfl, hb⟩
  have HR := Lib.hid (HR.out.below hb)
  have HB := Lib.hid (keepB hb HB.out)
  clear hb
  generalize hY : stA c (sideK 1) v t = y
  generalize hE : stE c v t = E
  have HY := Lib.hid hY; have HE := Lib.hid hE
  clear hY hE
  rw [accV_form]
  have hr := HR.out
  have r0 := hr.c 0 rfl
  have r1 := hr.c 1 rfl
  have r2 := hr.c 2 rfl
  have r3 := hr.c 3 rfl
  have r4 := hr.c 4 rfl
  have r5 := hr.c 5 rfl
  have r6 := hr.c 6 rfl
  have r7 := hr.c 7 rfl
  have r8 := hr.c 8 rfl
  have r9 := hr.c 9 rfl
  have g0 := hr.f 0
  have g1 := hr.f 1
  have g2 := hr.f 2
  have g3 := hr.f 3
  have g4 := hr.f 4
  have g5 := hr.f 5
  have g6 := hr.f 6
  have g7 := hr.f 7
  have g8 := hr.f 8
  have g9 := hr.f 9
  clear hr
  go_wp2_with fail
  refine bodyPost_ret (v := .tuple #[.agg ⟨[.int .u8 y.k, .int .i64 y.at', .int .u64 y.old.t, .int .u64 y.old.a, .int .u64 y.old.b, .int .u64 y.old.c, .int .u64 y.new.t, .int .u64 y.new.a, .int .u64 y.new.b, .int .u64 y.new.c]⟩, .int .i64 E]) ?_ rfl ⟨by first | (rw [HY.out, HE.out]; rfl) | rfl, below_acc HB.out (by omega) _ _ _ _ _ _ _ _ _ _⟩
  exact (HR.out.acc _ _ _ _ _ _ _ _ _ _).results2 (t := 31) rfl (fun _ => by kernel_rfl) (fun _ => by kernel_rfl) rfl rfl

set_option maxRecDepth 100000 in
set_option maxHeartbeats 1600000 in
theorem counts_depart (c : Cfg) (v t : Int) (w : World) (hp : Pw w) : Calls Tryd.prog 114 #[.agg #[.int .u8 c.ob, .int .i64 c.inst, .int .i64 c.thr, .int .u8 c.kd, .int .i64 c.str, .int .i64 c.bits, .int .i64 c.cap, .int .i64 c.node, .int .i64 c.bat, .int .i64 c.chk, .int .u64 c.lim, .int .u64 c.most], .int .i64 v, .int .i64 t] w fun e w' => e = .returned (.tuple #[accV (stA c (sideK 0) v t), .int .i64 (stE c v t)]) ∧ Below w.heap.size w w' := by
  have HP := Lib.hid hp
  clear hp
  go_enter Tryd.func114, Tryd.ntmps114
  go_wp2_with fail
  have HR := Lib.hid (Box.new (w.alloc (.cells ⟨cfgL c⟩ 136)) 31 [.int .u8 0, .int .i64 0, .int .u64 0, .int .u64 0, .int .u64 0, .int .u64 0, .int .u64 0, .int .u64 0, .int .u64 0, .int .u64 0])
  have HB := Lib.hid (moreB (moreB (Below.refl w.heap.size w) (.cells ⟨cfgL c⟩ 136)) (.cells ⟨[.int .u8 0, .int .i64 0, .int .u64 0, .int .u64 0, .int .u64 0, .int .u64 0, .int .u64 0, .int .u64 0, .int .u64 0, .int .u64 0]⟩ 31))
  simp only [World.size_alloc] at HR
  unfold cfgL at *
  generalize (w.alloc _).alloc _ = V at *
  refine (sDepart_any c v t V (HP.out.more HB.out)).mono ?_
  rintro e w1 ⟨rfl, hb⟩
  have HR := Lib.hid (HR.out.below hb)
  have HB := Lib.hid (keepB hb HB.out)
  clear hb
  generalize hY : stA c (sideK 0) v t = y
  generalize hE : stE c v t = E
  have HY := Lib.hid hY; have HE := Lib.hid hE
  clear hY hE
  rw [accV_form]
  have hr := HR.out
  have r0 := hr.c 0 rfl
  have r1 := hr.c 1 rfl
  have r2 := hr.c 2 rfl
  have r3 := hr.c 3 rfl
  have r4 := hr.c 4 rfl
  have r5 := hr.c 5 rfl
  have r6 := hr.c 6 rfl
  have r7 := hr.c 7 rfl
  have r8 := hr.c 8 rfl
  have r9 := hr.c 9 rfl
  have g0 := hr.f 0
  have g1 := hr.f 1
  have g2 := hr.f 2
  have g3 := hr.f 3
  have g4 := hr.f 4
  have g5 := hr.f 5
  have g6 := hr.f 6
  have g7 := hr.f 7
  have g8 := hr.f 8
  have g9 := hr.f 9
  clear hr
  go_wp2_with fail
  refine bodyPost_ret (v := .tuple #[.agg ⟨[.int .u8 y.k, .int .i64 y.at', .int .u64 y.old.t, .int .u64 y.old.a, .int .u64 y.old.b, .int .u64 y.old.c, .int .u64 y.new.t, .int .u64 y.new.a, .int .u64 y.new.b, .int .u64 y.new.c]⟩, .int .i64 E]) ?_ rfl ⟨by first | (rw [HY.out, HE.out]; rfl) | rfl, below_acc HB.out (by omega) _ _ _ _ _ _ _ _ _ _⟩
  exact (HR.out.acc _ _ _ _ _ _ _ _ _ _).results2 (t := 31) rfl (fun _ => by kernel_rfl) (fun _ => by kernel_rfl) rfl rfl

set_option maxRecDepth 100000 in
set_option maxHeartbeats 1600000 in
theorem counts_look (c : Cfg) (v tg i sm : Int) (w : World) (hp : Pw w) (hi : i ≤ 9223372036854775807) : Calls Tryd.prog 116 #[.agg #[.int .u8 c.ob, .int .i64 c.inst, .int .i64 c.thr, .int .u8 c.kd, .int .i64 c.str, .int .i64 c.bits, .int .i64 c.cap, .int .i64 c.node, .int .i64 c.bat, .int .i64 c.chk, .int .u64 c.lim, .int .u64 c.most], .int .i64 v, .agg #[.int .u64 tg, .int .i64 i, .int .u64 sm]] w fun e w' => e = .returned (.tuple #[accV (lkA c v i), .int .i64 (lkE c v i)]) ∧ Below w.heap.size w w' := by
  have HP := Lib.hid hp
  have HI := Lib.hid hi
  clear hp hi
  go_enter Tryd.func116, Tryd.ntmps116
  go_wp2_with fail
  have HR := Lib.hid (Box.new ((w.alloc (.cells ⟨cfgL c⟩ 136)).alloc (.cells #[.int .u64 tg, .int .i64 i, .int .u64 sm] 104)) 31 [.int .u8 0, .int .i64 0, .int .u64 0, .int .u64 0, .int .u64 0, .int .u64 0, .int .u64 0, .int .u64 0, .int .u64 0, .int .u64 0])
  have HB := Lib.hid (moreB (moreB (moreB (Below.refl w.heap.size w) (.cells ⟨cfgL c⟩ 136)) (.cells #[.int .u64 tg, .int .i64 i, .int .u64 sm] 104)) (.cells ⟨[.int .u8 0, .int .i64 0, .int .u64 0, .int .u64 0, .int .u64 0, .int .u64 0, .int .u64 0, .int .u64 0, .int .u64 0, .int .u64 0]⟩ 31))
  simp only [World.size_alloc] at HR
  unfold cfgL at *
  generalize ((w.alloc _).alloc _).alloc _ = V at *
  refine (sLook_any c v tg i sm V (HP.out.more HB.out) HI.out).mono ?_
  rintro e w1 ⟨rfl, hb⟩
  have HR := Lib.hid (HR.out.below hb)
  have HB := Lib.hid (keepB hb HB.out)
  clear hb
  generalize hY : lkA c v i = y
  generalize hE : lkE c v i = E
  have HY := Lib.hid hY; have HE := Lib.hid hE
  clear hY hE
  rw [accV_form]
  have hr := HR.out
  have r0 := hr.c 0 rfl
  have r1 := hr.c 1 rfl
  have r2 := hr.c 2 rfl
  have r3 := hr.c 3 rfl
  have r4 := hr.c 4 rfl
  have r5 := hr.c 5 rfl
  have r6 := hr.c 6 rfl
  have r7 := hr.c 7 rfl
  have r8 := hr.c 8 rfl
  have r9 := hr.c 9 rfl
  have g0 := hr.f 0
  have g1 := hr.f 1
  have g2 := hr.f 2
  have g3 := hr.f 3
  have g4 := hr.f 4
  have g5 := hr.f 5
  have g6 := hr.f 6
  have g7 := hr.f 7
  have g8 := hr.f 8
  have g9 := hr.f 9
  clear hr
  go_wp2_with fail
  refine bodyPost_ret (v := .tuple #[.agg ⟨[.int .u8 y.k, .int .i64 y.at', .int .u64 y.old.t, .int .u64 y.old.a, .int .u64 y.old.b, .int .u64 y.old.c, .int .u64 y.new.t, .int .u64 y.new.a, .int .u64 y.new.b, .int .u64 y.new.c]⟩, .int .i64 E]) ?_ rfl ⟨by first | (rw [HY.out, HE.out]; rfl) | rfl, below_acc HB.out (by omega) _ _ _ _ _ _ _ _ _ _⟩
  exact (HR.out.acc _ _ _ _ _ _ _ _ _ _).results2 (t := 31) rfl (fun _ => by kernel_rfl) (fun _ => by kernel_rfl) rfl rfl

set_option maxRecDepth 100000 in
set_option maxHeartbeats 1600000 in
theorem counts_seen (c : Cfg) (tg i sm l0 la l2 l3 : Int) (na nn ns : Int) (em : Bool) (er : Int) (w : World) (hh : i ≤ 9223372036854775807 ∧ ssR c tg i sm la = .tuple #[.agg #[.int .u64 na, .int .i64 nn, .int .u64 ns], .bool em, .int .i64 er]) : Calls Tryd.prog 118 #[.agg #[.int .u8 c.ob, .int .i64 c.inst, .int .i64 c.thr, .int .u8 c.kd, .int .i64 c.str, .int .i64 c.bits, .int .i64 c.cap, .int .i64 c.node, .int .i64 c.bat, .int .i64 c.chk, .int .u64 c.lim, .int .u64 c.most], .agg #[.int .u64 tg, .int .i64 i, .int .u64 sm], .agg #[.int .u64 l0, .int .u64 la, .int .u64 l2, .int .u64 l3]] w fun e w' => e = .returned (.tuple #[.agg #[.int .u64 na, .int .i64 nn, .int .u64 ns], .bool em, .int .i64 er]) ∧ Below w.heap.size w w' := by
  have HH := Lib.hid hh
  clear hh
  go_enter Tryd.func118, Tryd.ntmps118
  go_wp2_with fail
  have HR := Lib.hid (Box.new (((w.alloc (.cells ⟨cfgL c⟩ 136)).alloc (.cells #[.int .u64 tg, .int .i64 i, .int .u64 sm] 104)).alloc (.cells #[.int .u64 l0, .int .u64 la, .int .u64 l2, .int .u64 l3] 29)) 104 [.int .u64 0, .int .i64 0, .int .u64 0])
  have HB := Lib.hid (moreB (moreB (moreB (moreB (Below.refl w.heap.size w) (.cells ⟨cfgL c⟩ 136)) (.cells #[.int .u64 tg, .int .i64 i, .int .u64 sm] 104)) (.cells #[.int .u64 l0, .int .u64 la, .int .u64 l2, .int .u64 l3] 29)) (.cells #[.int .u64 0, .int .i64 0, .int .u64 0] 104))
  simp only [World.size_alloc] at HR
  unfold cfgL at *
  generalize (((w.alloc _).alloc _).alloc _).alloc _ = V at *
  refine ((sSeen_any c tg i sm l0 la l2 l3 V HH.out.1).mono fun e w1 h => (show e = .returned (.tuple #[.agg #[.int .u64 na, .int .i64 nn, .int .u64 ns], .bool em, .int .i64 er]) ∧ Below V.heap.size V w1 from ⟨by rw [h.1, HH.out.2], h.2⟩)).mono ?_
  rintro e w1 ⟨rfl, hb⟩
  have HR := Lib.hid (HR.out.below hb)
  have HB := Lib.hid (keepB hb HB.out)
  clear hb
  have hr := HR.out
  have r0 := hr.c 0 rfl
  have r1 := hr.c 1 rfl
  have r2 := hr.c 2 rfl
  have g0 := hr.f 0
  have g1 := hr.f 1
  have g2 := hr.f 2
  clear hr
  go_wp2_with fail
  refine bodyPost_ret (v := .tuple #[.agg ⟨[.int .u64 na, .int .i64 nn, .int .u64 ns]⟩, .bool em, .int .i64 er]) ?_ rfl ⟨rfl, below_look HB.out (by omega) _ _ _⟩
  exact (HR.out.look _ _ _).resultsL (t := 104) rfl (fun _ => by kernel_rfl) (fun _ => by kernel_rfl) rfl rfl rfl

set_option maxRecDepth 100000 in
set_option maxHeartbeats 1600000 in
theorem marks_full (c : Cfg) (l0 la l2 l3 : Int) (w : World) : Calls Tryd.prog 103 #[.agg #[.int .u8 c.ob, .int .i64 c.inst, .int .i64 c.thr, .int .u8 c.kd, .int .i64 c.str, .int .i64 c.bits, .int .i64 c.cap, .int .i64 c.node, .int .i64 c.bat, .int .i64 c.chk, .int .u64 c.lim, .int .u64 c.most], .agg #[.int .u64 l0, .int .u64 la, .int .u64 l2, .int .u64 l3]] w fun e w' => e = .returned (.tuple #[.bool false, .int .i64 0]) ∧ Below w.heap.size w w' := by
  go_enter Tryd.func103, Tryd.ntmps103
  go_wp2_with fail
  go_ret2
  exact ⟨rfl, by (repeat (first | exact Below.refl _ _ | assumption | apply Below.drew | apply below_drewN | (refine Below.alloc ?_ (by simp <;> omega) _) | (refine Below.setCell ?_ (by simp <;> omega) _)))⟩

set_option maxRecDepth 100000 in
set_option maxHeartbeats 1600000 in
theorem marks_many (c : Cfg) (w : World) : Calls Tryd.prog 105 #[.agg #[.int .u8 c.ob, .int .i64 c.inst, .int .i64 c.thr, .int .u8 c.kd, .int .i64 c.str, .int .i64 c.bits, .int .i64 c.cap, .int .i64 c.node, .int .i64 c.bat, .int .i64 c.chk, .int .u64 c.lim, .int .u64 c.most]] w fun e w' => e = .returned (.int .i64 c.thr) ∧ Below w.heap.size w w' := by
  go_enter Tryd.func105, Tryd.ntmps105
  go_wp2_with fail
  go_ret
  exact ⟨rfl, by (repeat (first | exact Below.refl _ _ | assumption | apply Below.drew | apply below_drewN | (refine Below.alloc ?_ (by simp <;> omega) _) | (refine Below.setCell ?_ (by simp <;> omega) _)))⟩

set_option maxRecDepth 100000 in
set_option maxHeartbeats 1600000 in
theorem counts_full (c : Cfg) (l0 la l2 l3 : Int) (w : World) : Calls Tryd.prog 115 #[.agg #[.int .u8 c.ob, .int .i64 c.inst, .int .i64 c.thr, .int .u8 c.kd, .int .i64 c.str, .int .i64 c.bits, .int .i64 c.cap, .int .i64 c.node, .int .i64 c.bat, .int .i64 c.chk, .int .u64 c.lim, .int .u64 c.most], .agg #[.int .u64 l0, .int .u64 la, .int .u64 l2, .int .u64 l3]] w fun e w' => e = .returned (.tuple #[.bool (fullB c la), .int .i64 (fullE c)]) ∧ Below w.heap.size w w' := by
  go_enter Tryd.func115, Tryd.ntmps115
  go_wp2_with fail
  have HB := Lib.hid (moreB (newB w (.cells ⟨cfgL c⟩ 136)) (.cells #[.int .u64 l0, .int .u64 la, .int .u64 l2, .int .u64 l3] 29))
  unfold cfgL at *
  generalize (w.alloc _).alloc _ = V at *
  refine (sFull_any c l0 la l2 l3 V).mono ?_
  rintro e w1 ⟨rfl, hb⟩
  have HB := Lib.hid (keepB hb HB.out)
  clear hb
  go_wp2_with fail
  go_ret2
  exact ⟨rfl, HB.out⟩

set_option maxRecDepth 100000 in
set_option maxHeartbeats 1600000 in
theorem counts_many (c : Cfg) (m : Int) (w : World) (hm : IntKind.i64.wrap (2 * c.str) = m) : Calls Tryd.prog 117 #[.agg #[.int .u8 c.ob, .int .i64 c.inst, .int .i64 c.thr, .int .u8 c.kd, .int .i64 c.str, .int .i64 c.bits, .int .i64 c.cap, .int .i64 c.node, .int .i64 c.bat, .int .i64 c.chk, .int .u64 c.lim, .int .u64 c.most]] w fun e w' => e = .returned (.int .i64 m) ∧ Below w.heap.size w w' := by
  go_enter Tryd.func117, Tryd.ntmps117
  go_wp2_with fail
  go_ret
  exact ⟨rfl, by (repeat (first | exact Below.refl _ _ | assumption | apply Below.drew | apply below_drewN | (refine Below.alloc ?_ (by simp <;> omega) _) | (refine Below.setCell ?_ (by simp <;> omega) _)))⟩

end Go.Proofs.YtecjbgddjejjdaaDoor

namespace Go.Proofs.YtecjbgddjejjdaaDoor
open Go.RowKit

set_option maxRecDepth 100000 in
set_option maxHeartbeats 1600000 in
theorem signOf_slots (c : Cfg) (w : World) (hc : c.Slots) : Calls Tryd.prog 45 #[.agg #[.int .u8 c.ob, .int .i64 c.inst, .int .i64 c.thr, .int .u8 c.kd, .int .i64 c.str, .int .i64 c.bits, .int .i64 c.cap, .int .i64 c.node, .int .i64 c.bat, .int .i64 c.chk, .int .u64 c.lim, .int .u64 c.most]] w fun e w' => e = .returned (.tuple #[.iface 135 (.agg #[.int .u8 c.ob, .int .i64 c.inst, .int .i64 c.thr, .int .u8 c.kd, .int .i64 c.str, .int .i64 c.bits, .int .i64 c.cap, .int .i64 c.node, .int .i64 c.bat, .int .i64 c.chk, .int .u64 c.lim, .int .u64 c.most]), .int .i64 0]) ∧ Below w.heap.size w w' := by
  have HC := Lib.hid hc
  clear hc
  go_enter Tryd.func45, Tryd.ntmps45
  go_wp2_with fail
  have HX := Lib.hid (Box.new w 24 (cfgL c))
  have HB := Lib.hid (newB w (.cells ⟨cfgL c⟩ 24))
  unfold cfgL at *
  generalize w.alloc _ = V at *
  refine (Check_any c V).mono ?_
  rintro e w1 ⟨rfl, hb⟩
  have HB := Lib.hid (keepB hb HB.out); have HX := Lib.hid (HX.out.below hb); clear hb
  have x0 := HX.out.c 0 rfl; have x1 := HX.out.c 1 rfl; have x2 := HX.out.c 2 rfl; have x3 := HX.out.c 3 rfl; have x4 := HX.out.c 4 rfl; have x5 := HX.out.c 5 rfl; have x6 := HX.out.c 6 rfl; have x7 := HX.out.c 7 rfl; have x8 := HX.out.c 8 rfl; have x9 := HX.out.c 9 rfl; have x10 := HX.out.c 10 rfl; have x11 := HX.out.c 11 rfl
  rw [show checkE c = 0 by simp [checkE, HC.out.1]]
  have e1 : (c.kd == 1) = true := by have := HC.out.2; simp [this]
  go_wp2_with fail
  go_ret2
  exact ⟨rfl, HB.out⟩

set_option maxRecDepth 100000 in
set_option maxHeartbeats 1600000 in
theorem signOf_strs (c : Cfg) (w : World) (hc : c.Strs) : Calls Tryd.prog 45 #[.agg #[.int .u8 c.ob, .int .i64 c.inst, .int .i64 c.thr, .int .u8 c.kd, .int .i64 c.str, .int .i64 c.bits, .int .i64 c.cap, .int .i64 c.node, .int .i64 c.bat, .int .i64 c.chk, .int .u64 c.lim, .int .u64 c.most]] w fun e w' => e = .returned (.tuple #[.iface 136 (.agg #[.int .u8 c.ob, .int .i64 c.inst, .int .i64 c.thr, .int .u8 c.kd, .int .i64 c.str, .int .i64 c.bits, .int .i64 c.cap, .int .i64 c.node, .int .i64 c.bat, .int .i64 c.chk, .int .u64 c.lim, .int .u64 c.most]), .int .i64 0]) ∧ Below w.heap.size w w' := by
  have HC := Lib.hid hc
  clear hc
  go_enter Tryd.func45, Tryd.ntmps45
  go_wp2_with fail
  have HX := Lib.hid (Box.new w 24 (cfgL c))
  have HB := Lib.hid (newB w (.cells ⟨cfgL c⟩ 24))
  unfold cfgL at *
  generalize w.alloc _ = V at *
  refine (Check_any c V).mono ?_
  rintro e w1 ⟨rfl, hb⟩
  have HB := Lib.hid (keepB hb HB.out); have HX := Lib.hid (HX.out.below hb); clear hb
  have x0 := HX.out.c 0 rfl; have x1 := HX.out.c 1 rfl; have x2 := HX.out.c 2 rfl; have x3 := HX.out.c 3 rfl; have x4 := HX.out.c 4 rfl; have x5 := HX.out.c 5 rfl; have x6 := HX.out.c 6 rfl; have x7 := HX.out.c 7 rfl; have x8 := HX.out.c 8 rfl; have x9 := HX.out.c 9 rfl; have x10 := HX.out.c 10 rfl; have x11 := HX.out.c 11 rfl
  rw [show checkE c = 0 by simp [checkE, HC.out.1]]
  have e1 : (c.kd == 1) = false := by have := HC.out.2; simp [this]
  go_wp2_with fail
  go_ret2
  exact ⟨rfl, HB.out⟩

set_option maxRecDepth 100000 in
set_option maxHeartbeats 1600000 in
theorem signOf_no (c : Cfg) (w : World) (hc : ¬ c.May) : Calls Tryd.prog 45 #[.agg #[.int .u8 c.ob, .int .i64 c.inst, .int .i64 c.thr, .int .u8 c.kd, .int .i64 c.str, .int .i64 c.bits, .int .i64 c.cap, .int .i64 c.node, .int .i64 c.bat, .int .i64 c.chk, .int .u64 c.lim, .int .u64 c.most]] w fun e w' => e = .returned (.tuple #[.nilIface, .int .i64 40]) ∧ Below w.heap.size w w' := by
  have HC := Lib.hid hc
  clear hc
  go_enter Tryd.func45, Tryd.ntmps45
  go_wp2_with fail
  have HX := Lib.hid (Box.new w 24 (cfgL c))
  have HB := Lib.hid (newB w (.cells ⟨cfgL c⟩ 24))
  unfold cfgL at *
  generalize w.alloc _ = V at *
  refine (Check_any c V).mono ?_
  rintro e w1 ⟨rfl, hb⟩
  have HB := Lib.hid (keepB hb HB.out); have HX := Lib.hid (HX.out.below hb); clear hb
  have x0 := HX.out.c 0 rfl; have x1 := HX.out.c 1 rfl; have x2 := HX.out.c 2 rfl; have x3 := HX.out.c 3 rfl; have x4 := HX.out.c 4 rfl; have x5 := HX.out.c 5 rfl; have x6 := HX.out.c 6 rfl; have x7 := HX.out.c 7 rfl; have x8 := HX.out.c 8 rfl; have x9 := HX.out.c 9 rfl; have x10 := HX.out.c 10 rfl; have x11 := HX.out.c 11 rfl
  rw [show checkE c = 40 by simp [checkE, HC.out]]
  go_wp2_with fail
  go_ret2
  exact ⟨rfl, HB.out⟩

set_option maxRecDepth 100000 in
set_option maxHeartbeats 1600000 in
theorem sgArrive_slots (c : Cfg) (v t : Int) (w : World) (hp : Pw w) (hc : c.Slots) : Calls Tryd.prog 47 #[.agg #[.int .u8 c.ob, .int .i64 c.inst, .int .i64 c.thr, .int .u8 c.kd, .int .i64 c.str, .int .i64 c.bits, .int .i64 c.cap, .int .i64 c.node, .int .i64 c.bat, .int .i64 c.chk, .int .u64 c.lim, .int .u64 c.most], .int .i64 v, .int .i64 t] w fun e w' => e = .returned (.tuple #[accV (mkA c v t accArr), .int .i64 (mkE c v t)]) ∧ Below w.heap.size w w' := by
  have HP := Lib.hid hp
  have HC := Lib.hid hc
  clear hp hc
  go_enter Tryd.func47, Tryd.ntmps47
  go_wp2_with fail
  have hx := ((Box.new w 24 (cfgL c)).alloc (.cells ⟨[.int .u8 0, .int .i64 0, .int .u64 0, .int .u64 0, .int .u64 0, .int .u64 0, .int .u64 0, .int .u64 0, .int .u64 0, .int .u64 0]⟩ 31))
  have hr := (Box.new (w.alloc (.cells ⟨cfgL c⟩ 24)) 31 [.int .u8 0, .int .i64 0, .int .u64 0, .int .u64 0, .int .u64 0, .int .u64 0, .int .u64 0, .int .u64 0, .int .u64 0, .int .u64 0])
  have HB := Lib.hid (moreB (moreB (Below.refl w.heap.size w) (.cells ⟨cfgL c⟩ 24)) (.cells ⟨[.int .u8 0, .int .i64 0, .int .u64 0, .int .u64 0, .int .u64 0, .int .u64 0, .int .u64 0, .int .u64 0, .int .u64 0, .int .u64 0]⟩ 31))
  (try simp only [World.size_alloc] at hx hr)
  have HX := Lib.hid hx
  have HR := Lib.hid hr
  clear hx hr
  unfold cfgL at *
  generalize (w.alloc _).alloc _ = V at *
  refine (signOf_slots c V HC.out).mono ?_
  rintro e w1 ⟨rfl, hb⟩
  have HX := Lib.hid (HX.out.below hb)
  have HR := Lib.hid (HR.out.below hb)
  have HB := Lib.hid (keepB hb HB.out)
  clear hb
  go_wp2_with fail
  refine (marks_arrive c v t w1 (HP.out.more HB.out)).mono ?_
  rintro e w2 ⟨rfl, hb⟩
  have HB := Lib.hid (keepB hb HB.out)
  have HR := Lib.hid (HR.out.below hb)
  clear hb
  generalize hY : mkA c v t accArr = y
  generalize hE : mkE c v t = E
  have HY := Lib.hid hY; have HE := Lib.hid hE
  clear hY hE
  rw [accV_form]
  have hr := HR.out
  have r0 := hr.c 0 rfl
  have r1 := hr.c 1 rfl
  have r2 := hr.c 2 rfl
  have r3 := hr.c 3 rfl
  have r4 := hr.c 4 rfl
  have r5 := hr.c 5 rfl
  have r6 := hr.c 6 rfl
  have r7 := hr.c 7 rfl
  have r8 := hr.c 8 rfl
  have r9 := hr.c 9 rfl
  have g0 := hr.f 0
  have g1 := hr.f 1
  have g2 := hr.f 2
  have g3 := hr.f 3
  have g4 := hr.f 4
  have g5 := hr.f 5
  have g6 := hr.f 6
  have g7 := hr.f 7
  have g8 := hr.f 8
  have g9 := hr.f 9
  clear hr
  go_wp2_with fail
  refine bodyPost_ret (v := .tuple #[.agg ⟨[.int .u8 y.k, .int .i64 y.at', .int .u64 y.old.t, .int .u64 y.old.a, .int .u64 y.old.b, .int .u64 y.old.c, .int .u64 y.new.t, .int .u64 y.new.a, .int .u64 y.new.b, .int .u64 y.new.c]⟩, .int .i64 E]) ?_ rfl ⟨by first | (rw [HY.out, HE.out]; rfl) | rfl, below_acc HB.out (by omega) _ _ _ _ _ _ _ _ _ _⟩
  exact (HR.out.acc _ _ _ _ _ _ _ _ _ _).results2 (t := 31) rfl (fun _ => by kernel_rfl) (fun _ => by kernel_rfl) rfl rfl

set_option maxRecDepth 100000 in
set_option maxHeartbeats 1600000 in
theorem sgDepart_slots (c : Cfg) (v t : Int) (w : World) (hp : Pw w) (hc : c.Slots) : Calls Tryd.prog 48 #[.agg #[.int .u8 c.ob, .int .i64 c.inst, .int .i64 c.thr, .int .u8 c.kd, .int .i64 c.str, .int .i64 c.bits, .int .i64 c.cap, .int .i64 c.node, .int .i64 c.bat, .int .i64 c.chk, .int .u64 c.lim, .int .u64 c.most], .int .i64 v, .int .i64 t] w fun e w' => e = .returned (.tuple #[accV (mkA c v t accDep), .int .i64 (mkE c v t)]) ∧ Below w.heap.size w w' := by
  have HP := Lib.hid hp
  have HC := Lib.hid hc
  clear hp hc
  go_enter Tryd.func48, Tryd.ntmps48
  go_wp2_with fail
  have hx := ((Box.new w 24 (cfgL c)).alloc (.cells ⟨[.int .u8 0, .int .i64 0, .int .u64 0, .int .u64 0, .int .u64 0, .int .u64 0, .int .u64 0, .int .u64 0, .int .u64 0, .int .u64 0]⟩ 31))
  have hr := (Box.new (w.alloc (.cells ⟨cfgL c⟩ 24)) 31 [.int .u8 0, .int .i64 0, .int .u64 0, .int .u64 0, .int .u64 0, .int .u64 0, .int .u64 0, .int .u64 0, .int .u64 0, .int .u64 0])
  have HB := Lib.hid (moreB (moreB (Below.refl w.heap.size w) (.cells ⟨cfgL c⟩ 24)) (.cells ⟨[.int .u8 0, .int .i64 0, .int .u64 0, .int .u64 0, .int .u64 0, .int .u64 0, .int .u64 0, .int .u64 0, .int .u64 0, .int .u64 0]⟩ 31))
  (try simp only [World.size_alloc] at hx hr)
  have HX := Lib.hid hx
  have HR := Lib.hid hr
  clear hx hr
  unfold cfgL at *
  generalize (w.alloc _).alloc _ = V at *
  refine (signOf_slots c V HC.out).mono ?_
  rintro e w1 ⟨rfl, hb⟩
  have HX := Lib.hid (HX.out.below hb)
  have HR := Lib.hid (HR.out.below hb)
  have HB := Lib.hid (keepB hb HB.out)
  clear hb
  go_wp2_with fail
  refine (marks_depart c v t w1 (HP.out.more HB.out)).mono ?_
  rintro e w2 ⟨rfl, hb⟩
  have HB := Lib.hid (keepB hb HB.out)
  have HR := Lib.hid (HR.out.below hb)
  clear hb
  generalize hY : mkA c v t accDep = y
  generalize hE : mkE c v t = E
  have HY := Lib.hid hY; have HE := Lib.hid hE
  clear hY hE
  rw [accV_form]
  have hr := HR.out
  have r0 := hr.c 0 rfl
  have r1 := hr.c 1 rfl
  have r2 := hr.c 2 rfl
  have r3 := hr.c 3 rfl
  have r4 := hr.c 4 rfl
  have r5 := hr.c 5 rfl
  have r6 := hr.c 6 rfl
  have r7 := hr.c 7 rfl
  have r8 := hr.c 8 rfl
  have r9 := hr.c 9 rfl
  have g0 := hr.f 0
  have g1 := hr.f 1
  have g2 := hr.f 2
  have g3 := hr.f 3
  have g4 := hr.f 4
  have g5 := hr.f 5
  have g6 := hr.f 6
  have g7 := hr.f 7
  have g8 := hr.f 8
  have g9 := hr.f 9
  clear hr
  go_wp2_with fail
  refine bodyPost_ret (v := .tuple #[.agg ⟨[.int .u8 y.k, .int .i64 y.at', .int .u64 y.old.t, .int .u64 y.old.a, .int .u64 y.old.b, .int .u64 y.old.c, .int .u64 y.new.t, .int .u64 y.new.a, .int .u64 y.new.b, .int .u64 y.new.c]⟩, .int .i64 E]) ?_ rfl ⟨by first | (rw [HY.out, HE.out]; rfl) | rfl, below_acc HB.out (by omega) _ _ _ _ _ _ _ _ _ _⟩
  exact (HR.out.acc _ _ _ _ _ _ _ _ _ _).results2 (t := 31) rfl (fun _ => by kernel_rfl) (fun _ => by kernel_rfl) rfl rfl

set_option maxRecDepth 100000 in
set_option maxHeartbeats 1600000 in
theorem sgLook_slots (c : Cfg) (v tg i sm : Int) (w : World) (hp : Pw w) (hc : c.Slots) : Calls Tryd.prog 49 #[.agg #[.int .u8 c.ob, .int .i64 c.inst, .int .i64 c.thr, .int .u8 c.kd, .int .i64 c.str, .int .i64 c.bits, .int .i64 c.cap, .int .i64 c.node, .int .i64 c.bat, .int .i64 c.chk, .int .u64 c.lim, .int .u64 c.most], .int .i64 v, .agg #[.int .u64 tg, .int .i64 i, .int .u64 sm]] w fun e w' => e = .returned (.tuple #[accV (mkA c v i accLook), .int .i64 (mkE c v i)]) ∧ Below w.heap.size w w' := by
  have HP := Lib.hid hp
  have HC := Lib.hid hc
  clear hp hc
  go_enter Tryd.func49, Tryd.ntmps49
  go_wp2_with fail
  have hx := (((Box.new w 24 (cfgL c)).alloc (.cells #[.int .u64 tg, .int .i64 i, .int .u64 sm] 104)).alloc (.cells ⟨[.int .u8 0, .int .i64 0, .int .u64 0, .int .u64 0, .int .u64 0, .int .u64 0, .int .u64 0, .int .u64 0, .int .u64 0, .int .u64 0]⟩ 31))
  have hk := ((Box.new (w.alloc (.cells ⟨cfgL c⟩ 24)) 104 [.int .u64 tg, .int .i64 i, .int .u64 sm]).alloc (.cells ⟨[.int .u8 0, .int .i64 0, .int .u64 0, .int .u64 0, .int .u64 0, .int .u64 0, .int .u64 0, .int .u64 0, .int .u64 0, .int .u64 0]⟩ 31))
  have hr := (Box.new ((w.alloc (.cells ⟨cfgL c⟩ 24)).alloc (.cells #[.int .u64 tg, .int .i64 i, .int .u64 sm] 104)) 31 [.int .u8 0, .int .i64 0, .int .u64 0, .int .u64 0, .int .u64 0, .int .u64 0, .int .u64 0, .int .u64 0, .int .u64 0, .int .u64 0])
  have HB := Lib.hid (moreB (moreB (moreB (Below.refl w.heap.size w) (.cells ⟨cfgL c⟩ 24)) (.cells #[.int .u64 tg, .int .i64 i, .int .u64 sm] 104)) (.cells ⟨[.int .u8 0, .int .i64 0, .int .u64 0, .int .u64 0, .int .u64 0, .int .u64 0, .int .u64 0, .int .u64 0, .int .u64 0, .int .u64 0]⟩ 31))
  (try simp only [World.size_alloc] at hx hk hr)
  have HX := Lib.hid hx
  have HK := Lib.hid hk
  have HR := Lib.hid hr
  clear hx hk hr
  unfold cfgL at *
  generalize ((w.alloc _).alloc _).alloc _ = V at *
  refine (signOf_slots c V HC.out).mono ?_
  rintro e w1 ⟨rfl, hb⟩
  have HX := Lib.hid (HX.out.below hb)
  have HK := Lib.hid (HK.out.below hb)
  have HR := Lib.hid (HR.out.below hb)
  have HB := Lib.hid (keepB hb HB.out)
  clear hb
  have k0 := HK.out.c 0 rfl
  have k1 := HK.out.c 1 rfl
  have k2 := HK.out.c 2 rfl
  go_wp2_with fail
  clear k0 k1 k2
  refine (marks_look c v tg i sm w1 (HP.out.more HB.out)).mono ?_
  rintro e w2 ⟨rfl, hb⟩
  have HB := Lib.hid (keepB hb HB.out)
  have HR := Lib.hid (HR.out.below hb)
  clear hb
  generalize hY : mkA c v i accLook = y
  generalize hE : mkE c v i = E
  have HY := Lib.hid hY; have HE := Lib.hid hE
  clear hY hE
  rw [accV_form]
  have hr := HR.out
  have r0 := hr.c 0 rfl
  have r1 := hr.c 1 rfl
  have r2 := hr.c 2 rfl
  have r3 := hr.c 3 rfl
  have r4 := hr.c 4 rfl
  have r5 := hr.c 5 rfl
  have r6 := hr.c 6 rfl
  have r7 := hr.c 7 rfl
  have r8 := hr.c 8 rfl
  have r9 := hr.c 9 rfl
  have g0 := hr.f 0
  have g1 := hr.f 1
  have g2 := hr.f 2
  have g3 := hr.f 3
  have g4 := hr.f 4
  have g5 := hr.f 5
  have g6 := hr.f 6
  have g7 := hr.f 7
  have g8 := hr.f 8
  have g9 := hr.f 9
  clear hr
  go_wp2_with fail
  refine bodyPost_ret (v := .tuple #[.agg ⟨[.int .u8 y.k, .int .i64 y.at', .int .u64 y.old.t, .int .u64 y.old.a, .int .u64 y.old.b, .int .u64 y.old.c, .int .u64 y.new.t, .int .u64 y.new.a, .int .u64 y.new.b, .int .u64 y.new.c]⟩, .int .i64 E]) ?_ rfl ⟨by first | (rw [HY.out, HE.out]; rfl) | rfl, below_acc HB.out (by omega) _ _ _ _ _ _ _ _ _ _⟩
  exact (HR.out.acc _ _ _ _ _ _ _ _ _ _).results2 (t := 31) rfl (fun _ => by kernel_rfl) (fun _ => by kernel_rfl) rfl rfl

set_option maxRecDepth 100000 in
set_option maxHeartbeats 1600000 in
theorem sgSeen_slots (c : Cfg) (tg i sm l0 la l2 l3 : Int) (na nn ns : Int) (em : Bool) (er : Int) (w : World) (hh : seenR c tg i la = .tuple #[.agg #[.int .u64 na, .int .i64 nn, .int .u64 ns], .bool em, .int .i64 er]) (hc : c.Slots) : Calls Tryd.prog 50 #[.agg #[.int .u8 c.ob, .int .i64 c.inst, .int .i64 c.thr, .int .u8 c.kd, .int .i64 c.str, .int .i64 c.bits, .int .i64 c.cap, .int .i64 c.node, .int .i64 c.bat, .int .i64 c.chk, .int .u64 c.lim, .int .u64 c.most], .agg #[.int .u64 tg, .int .i64 i, .int .u64 sm], .agg #[.int .u64 l0, .int .u64 la, .int .u64 l2, .int .u64 l3]] w fun e w' => e = .returned (.tuple #[.agg #[.int .u64 na, .int .i64 nn, .int .u64 ns], .bool em, .int .i64 er]) ∧ Below w.heap.size w w' := by
  have HH := Lib.hid hh
  have HC := Lib.hid hc
  clear hh hc
  go_enter Tryd.func50, Tryd.ntmps50
  go_wp2_with fail
  have hx := ((((Box.new w 24 (cfgL c)).alloc (.cells #[.int .u64 tg, .int .i64 i, .int .u64 sm] 104)).alloc (.cells #[.int .u64 l0, .int .u64 la, .int .u64 l2, .int .u64 l3] 29)).alloc (.cells #[.int .u64 0, .int .i64 0, .int .u64 0] 104))
  have hk := (((Box.new (w.alloc (.cells ⟨cfgL c⟩ 24)) 104 [.int .u64 tg, .int .i64 i, .int .u64 sm]).alloc (.cells #[.int .u64 l0, .int .u64 la, .int .u64 l2, .int .u64 l3] 29)).alloc (.cells #[.int .u64 0, .int .i64 0, .int .u64 0] 104))
  have hl := ((Box.new ((w.alloc (.cells ⟨cfgL c⟩ 24)).alloc (.cells #[.int .u64 tg, .int .i64 i, .int .u64 sm] 104)) 29 [.int .u64 l0, .int .u64 la, .int .u64 l2, .int .u64 l3]).alloc (.cells #[.int .u64 0, .int .i64 0, .int .u64 0] 104))
  have hr := (Box.new (((w.alloc (.cells ⟨cfgL c⟩ 24)).alloc (.cells #[.int .u64 tg, .int .i64 i, .int .u64 sm] 104)).alloc (.cells #[.int .u64 l0, .int .u64 la, .int .u64 l2, .int .u64 l3] 29)) 104 [.int .u64 0, .int .i64 0, .int .u64 0])
  have HB := Lib.hid (moreB (moreB (moreB (moreB (Below.refl w.heap.size w) (.cells ⟨cfgL c⟩ 24)) (.cells #[.int .u64 tg, .int .i64 i, .int .u64 sm] 104)) (.cells #[.int .u64 l0, .int .u64 la, .int .u64 l2, .int .u64 l3] 29)) (.cells #[.int .u64 0, .int .i64 0, .int .u64 0] 104))
  (try simp only [World.size_alloc] at hx hk hl hr)
  have HX := Lib.hid hx
  have HK := Lib.hid hk
  have HL := Lib.hid hl
  have HR := Lib.hid hr
  clear hx hk hl hr
  unfold cfgL at *
  generalize (((w.alloc _).alloc _).alloc _).alloc _ = V at *
  refine (signOf_slots c V HC.out).mono ?_
  rintro e w1 ⟨rfl, hb⟩
  have HX := Lib.hid (HX.out.below hb)
  have HK := Lib.hid (HK.out.below hb)
  have HL := Lib.hid (HL.out.below hb)
  have HR := Lib.hid (HR.out.below hb)
  have HB := Lib.hid (keepB hb HB.out)
  clear hb
  have k0 := HK.out.c 0 rfl
  have k1 := HK.out.c 1 rfl
  have k2 := HK.out.c 2 rfl
  have y0 := HL.out.c 0 rfl
  have y1 := HL.out.c 1 rfl
  have y2 := HL.out.c 2 rfl
  have y3 := HL.out.c 3 rfl
  go_wp2_with fail
  clear k0 k1 k2
  clear y0 y1 y2 y3
  refine (marks_seen c tg i sm l0 la l2 l3 na nn ns em er w1 HH.out).mono ?_
  rintro e w2 ⟨rfl, hb⟩
  have HB := Lib.hid (keepB hb HB.out)
  have HR := Lib.hid (HR.out.below hb)
  clear hb
  have hr := HR.out
  have r0 := hr.c 0 rfl
  have r1 := hr.c 1 rfl
  have r2 := hr.c 2 rfl
  have g0 := hr.f 0
  have g1 := hr.f 1
  have g2 := hr.f 2
  clear hr
  go_wp2_with fail
  refine bodyPost_ret (v := .tuple #[.agg ⟨[.int .u64 na, .int .i64 nn, .int .u64 ns]⟩, .bool em, .int .i64 er]) ?_ rfl ⟨rfl, below_look HB.out (by omega) _ _ _⟩
  exact (HR.out.look _ _ _).resultsL (t := 104) rfl (fun _ => by kernel_rfl) (fun _ => by kernel_rfl) rfl rfl rfl

set_option maxRecDepth 100000 in
set_option maxHeartbeats 1600000 in
theorem sgFull_slots (c : Cfg) (l0 la l2 l3 : Int) (w : World) (hc : c.Slots) : Calls Tryd.prog 44 #[.agg #[.int .u8 c.ob, .int .i64 c.inst, .int .i64 c.thr, .int .u8 c.kd, .int .i64 c.str, .int .i64 c.bits, .int .i64 c.cap, .int .i64 c.node, .int .i64 c.bat, .int .i64 c.chk, .int .u64 c.lim, .int .u64 c.most], .agg #[.int .u64 l0, .int .u64 la, .int .u64 l2, .int .u64 l3]] w fun e w' => e = .returned (.tuple #[.bool false, .int .i64 0]) ∧ Below w.heap.size w w' := by
  have HC := Lib.hid hc
  clear hc
  go_enter Tryd.func44, Tryd.ntmps44
  go_wp2_with fail
  have hx := ((Box.new w 24 (cfgL c)).alloc (.cells #[.int .u64 l0, .int .u64 la, .int .u64 l2, .int .u64 l3] 29))
  have hl := (Box.new (w.alloc (.cells ⟨cfgL c⟩ 24)) 29 [.int .u64 l0, .int .u64 la, .int .u64 l2, .int .u64 l3])
  have HB := Lib.hid (moreB (moreB (Below.refl w.heap.size w) (.cells ⟨cfgL c⟩ 24)) (.cells #[.int .u64 l0, .int .u64 la, .int .u64 l2, .int .u64 l3] 29))
  (try simp only [World.size_alloc] at hx hl)
  have HX := Lib.hid hx
  have HL := Lib.hid hl
  clear hx hl
  unfold cfgL at *
  generalize (w.alloc _).alloc _ = V at *
  refine (signOf_slots c V HC.out).mono ?_
  rintro e w1 ⟨rfl, hb⟩
  have HX := Lib.hid (HX.out.below hb)
  have HL := Lib.hid (HL.out.below hb)
  have HB := Lib.hid (keepB hb HB.out)
  clear hb
  have y0 := HL.out.c 0 rfl
  have y1 := HL.out.c 1 rfl
  have y2 := HL.out.c 2 rfl
  have y3 := HL.out.c 3 rfl
  go_wp2_with fail
  clear y0 y1 y2 y3
  refine (marks_full c l0 la l2 l3 w1).mono ?_
  rintro e w2 ⟨rfl, hb⟩
  have HB := Lib.hid (keepB hb HB.out)
  clear hb
  go_wp2_with fail
  go_ret2
  exact ⟨rfl, HB.out⟩

set_option maxRecDepth 100000 in
set_option maxHeartbeats 1600000 in
theorem sgMany_slots (c : Cfg)  (w : World) (hc : c.Slots) : Calls Tryd.prog 22 #[.agg #[.int .u8 c.ob, .int .i64 c.inst, .int .i64 c.thr, .int .u8 c.kd, .int .i64 c.str, .int .i64 c.bits, .int .i64 c.cap, .int .i64 c.node, .int .i64 c.bat, .int .i64 c.chk, .int .u64 c.lim, .int .u64 c.most]] w fun e w' => e = .returned (.tuple #[.int .i64 c.thr, .int .i64 0]) ∧ Below w.heap.size w w' := by
  have HC := Lib.hid hc
  clear hc
  go_enter Tryd.func22, Tryd.ntmps22
  go_wp2_with fail
  have hx := (Box.new w 24 (cfgL c))
  have HB := Lib.hid (moreB (Below.refl w.heap.size w) (.cells ⟨cfgL c⟩ 24))
  (try simp only [World.size_alloc] at hx)
  have HX := Lib.hid hx
  clear hx
  unfold cfgL at *
  generalize w.alloc _ = V at *
  refine (signOf_slots c V HC.out).mono ?_
  rintro e w1 ⟨rfl, hb⟩
  have HX := Lib.hid (HX.out.below hb)
  have HB := Lib.hid (keepB hb HB.out)
  clear hb
  go_wp2_with fail
  refine (marks_many c w1).mono ?_
  rintro e w2 ⟨rfl, hb⟩
  have HB := Lib.hid (keepB hb HB.out)
  clear hb
  go_wp2_with fail
  go_ret2
  exact ⟨rfl, HB.out⟩

set_option maxRecDepth 100000 in
set_option maxHeartbeats 1600000 in
theorem sgArrive_strs (c : Cfg) (v t : Int) (w : World) (hp : Pw w) (hc : c.Strs) : Calls Tryd.prog 47 #[.agg #[.int .u8 c.ob, .int .i64 c.inst, .int .i64 c.thr, .int .u8 c.kd, .int .i64 c.str, .int .i64 c.bits, .int .i64 c.cap, .int .i64 c.node, .int .i64 c.bat, .int .i64 c.chk, .int .u64 c.lim, .int .u64 c.most], .int .i64 v, .int .i64 t] w fun e w' => e = .returned (.tuple #[accV (stA c (sideK 1) v t), .int .i64 (stE c v t)]) ∧ Below w.heap.size w w' := by
  have HP := Lib.hid hp
  have HC := Lib.hid hc
  clear hp hc
  go_enter Tryd.func47, Tryd.ntmps47
  go_wp2_with fail
  have hx := ((Box.new w 24 (cfgL c)).alloc (.cells ⟨[.int .u8 0, .int .i64 0, .int .u64 0, .int .u64 0, .int .u64 0, .int .u64 0, .int .u64 0, .int .u64 0, .int .u64 0, .int .u64 0]⟩ 31))
  have hr := (Box.new (w.alloc (.cells ⟨cfgL c⟩ 24)) 31 [.int .u8 0, .int .i64 0, .int .u64 0, .int .u64 0, .int .u64 0, .int .u64 0, .int .u64 0, .int .u64 0, .int .u64 0, .int .u64 0])
  have HB := Lib.hid (moreB (moreB (Below.refl w.heap.size w) (.cells ⟨cfgL c⟩ 24)) (.cells ⟨[.int .u8 0, .int .i64 0, .int .u64 0, .int .u64 0, .int .u64 0, .int .u64 0, .int .u64 0, .int .u64 0, .int .u64 0, .int .u64 0]⟩ 31))
  (try simp only [World.size_alloc] at hx hr)
  have HX := Lib.hid hx
  have HR := Lib.hid hr
  clear hx hr
  unfold cfgL at *
  generalize (w.alloc _).alloc _ = V at *
  refine (signOf_strs c V HC.out).mono ?_
  rintro e w1 ⟨rfl, hb⟩
  have HX := Lib.hid (HX.out.below hb)
  have HR := Lib.hid (HR.out.below hb)
  have HB := Lib.hid (keepB hb HB.out)
  clear hb
  go_wp2_with fail
  refine (counts_arrive c v t w1 (HP.out.more HB.out)).mono ?_
  rintro e w2 ⟨rfl, hb⟩
  have HB := Lib.hid (keepB hb HB.out)
  have HR := Lib.hid (HR.out.below hb)
  clear hb
  generalize hY : stA c (sideK 1) v t = y
  generalize hE : stE c v t = E
  have HY := Lib.hid hY; have HE := Lib.hid hE
  clear hY hE
  rw [accV_form]
  have hr := HR.out
  have r0 := hr.c 0 rfl
  have r1 := hr.c 1 rfl
  have r2 := hr.c 2 rfl
  have r3 := hr.c 3 rfl
  have r4 := hr.c 4 rfl
  have r5 := hr.c 5 rfl
  have r6 := hr.c 6 rfl
  have r7 := hr.c 7 rfl
  have r8 := hr.c 8 rfl
  have r9 := hr.c 9 rfl
  have g0 := hr.f 0
  have g1 := hr.f 1
  have g2 := hr.f 2
  have g3 := hr.f 3
  have g4 := hr.f 4
  have g5 := hr.f 5
  have g6 := hr.f 6
  have g7 := hr.f 7
  have g8 := hr.f 8
  have g9 := hr.f 9
  clear hr
  go_wp2_with fail
  refine bodyPost_ret (v := .tuple #[.agg ⟨[.int .u8 y.k, .int .i64 y.at', .int .u64 y.old.t, .int .u64 y.old.a, .int .u64 y.old.b, .int .u64 y.old.c, .int .u64 y.new.t, .int .u64 y.new.a, .int .u64 y.new.b, .int .u64 y.new.c]⟩, .int .i64 E]) ?_ rfl ⟨by first | (rw [HY.out, HE.out]; rfl) | rfl, below_acc HB.out (by omega) _ _ _ _ _ _ _ _ _ _⟩
  exact (HR.out.acc _ _ _ _ _ _ _ _ _ _).results2 (t := 31) rfl (fun _ => by kernel_rfl) (fun _ => by kernel_rfl) rfl rfl

set_option maxRecDepth 100000 in
set_option maxHeartbeats 1600000 in
theorem sgDepart_strs (c : Cfg) (v t : Int) (w : World) (hp : Pw w) (hc : c.Strs) : Calls Tryd.prog 48 #[.agg #[.int .u8 c.ob, .int .i64 c.inst, .int .i64 c.thr, .int .u8 c.kd, .int .i64 c.str, .int .i64 c.bits, .int .i64 c.cap, .int .i64 c.node, .int .i64 c.bat, .int .i64 c.chk, .int .u64 c.lim, .int .u64 c.most], .int .i64 v, .int .i64 t] w fun e w' => e = .returned (.tuple #[accV (stA c (sideK 0) v t), .int .i64 (stE c v t)]) ∧ Below w.heap.size w w' := by
  have HP := Lib.hid hp
  have HC := Lib.hid hc
  clear hp hc
  go_enter Tryd.func48, Tryd.ntmps48
  go_wp2_with fail
  have hx := ((Box.new w 24 (cfgL c)).alloc (.cells ⟨[.int .u8 0, .int .i64 0, .int .u64 0, .int .u64 0, .int .u64 0, .int .u64 0, .int .u64 0, .int .u64 0, .int .u64 0, .int .u64 0]⟩ 31))
  have hr := (Box.new (w.alloc (.cells ⟨cfgL c⟩ 24)) 31 [.int .u8 0, .int .i64 0, .int .u64 0, .int .u64 0, .int .u64 0, .int .u64 0, .int .u64 0, .int .u64 0, .int .u64 0, .int .u64 0])
  have HB := Lib.hid (moreB (moreB (Below.refl w.heap.size w) (.cells ⟨cfgL c⟩ 24)) (.cells ⟨[.int .u8 0, .int .i64 0, .int .u64 0, .int .u64 0, .int .u64 0, .int .u64 0, .int .u64 0, .int .u64 0, .int .u64 0, .int .u64 0]⟩ 31))
  (try simp only [World.size_alloc] at hx hr)
  have HX := Lib.hid hx
  have HR := Lib.hid hr
  clear hx hr
  unfold cfgL at *
  generalize (w.alloc _).alloc _ = V at *
  refine (signOf_strs c V HC.out).mono ?_
  rintro e w1 ⟨rfl, hb⟩
  have HX := Lib.hid (HX.out.below hb)
  have HR := Lib.hid (HR.out.below hb)
  have HB := Lib.hid (keepB hb HB.out)
  clear hb
  go_wp2_with fail
  refine (counts_depart c v t w1 (HP.out.more HB.out)).mono ?_
  rintro e w2 ⟨rfl, hb⟩
  have HB := Lib.hid (keepB hb HB.out)
  have HR := Lib.hid (HR.out.below hb)
  clear hb
  generalize hY : stA c (sideK 0) v t = y
  generalize hE : stE c v t = E
  have HY := Lib.hid hY; have HE := Lib.hid hE
  clear hY hE
  rw [accV_form]
  have hr := HR.out
  have r0 := hr.c 0 rfl
  have r1 := hr.c 1 rfl
  have r2 := hr.c 2 rfl
  have r3 := hr.c 3 rfl
  have r4 := hr.c 4 rfl
  have r5 := hr.c 5 rfl
  have r6 := hr.c 6 rfl
  have r7 := hr.c 7 rfl
  have r8 := hr.c 8 rfl
  have r9 := hr.c 9 rfl
  have g0 := hr.f 0
  have g1 := hr.f 1
  have g2 := hr.f 2
  have g3 := hr.f 3
  have g4 := hr.f 4
  have g5 := hr.f 5
  have g6 := hr.f 6
  have g7 := hr.f 7
  have g8 := hr.f 8
  have g9 := hr.f 9
  clear hr
  go_wp2_with fail
  refine bodyPost_ret (v := .tuple #[.agg ⟨[.int .u8 y.k, .int .i64 y.at', .int .u64 y.old.t, .int .u64 y.old.a, .int .u64 y.old.b, .int .u64 y.old.c, .int .u64 y.new.t, .int .u64 y.new.a, .int .u64 y.new.b, .int .u64 y.new.c]⟩, .int .i64 E]) ?_ rfl ⟨by first | (rw [HY.out, HE.out]; rfl) | rfl, below_acc HB.out (by omega) _ _ _ _ _ _ _ _ _ _⟩
  exact (HR.out.acc _ _ _ _ _ _ _ _ _ _).results2 (t := 31) rfl (fun _ => by kernel_rfl) (fun _ => by kernel_rfl) rfl rfl

set_option maxRecDepth 100000 in
set_option maxHeartbeats 1600000 in
theorem sgLook_strs (c : Cfg) (v tg i sm : Int) (w : World) (hp : Pw w) (hi : i ≤ 9223372036854775807) (hc : c.Strs) : Calls Tryd.prog 49 #[.agg #[.int .u8 c.ob, .int .i64 c.inst, .int .i64 c.thr, .int .u8 c.kd, .int .i64 c.str, .int .i64 c.bits, .int .i64 c.cap, .int .i64 c.node, .int .i64 c.bat, .int .i64 c.chk, .int .u64 c.lim, .int .u64 c.most], .int .i64 v, .agg #[.int .u64 tg, .int .i64 i, .int .u64 sm]] w fun e w' => e = .returned (.tuple #[accV (lkA c v i), .int .i64 (lkE c v i)]) ∧ Below w.heap.size w w' := by
  have HP := Lib.hid hp
  have HI := Lib.hid hi
  have HC := Lib.hid hc
  clear hp hi hc
  go_enter Tryd.func49, Tryd.ntmps49
  go_wp2_with fail
  have hx := (((Box.new w 24 (cfgL c)).alloc (.cells #[.int .u64 tg, .int .i64 i, .int .u64 sm] 104)).alloc (.cells ⟨[.int .u8 0, .int .i64 0, .int .u64 0, .int .u64 0, .int .u64 0, .int .u64 0, .int .u64 0, .int .u64 0, .int .u64 0, .int .u64 0]⟩ 31))
  have hk := ((Box.new (w.alloc (.cells ⟨cfgL c⟩ 24)) 104 [.int .u64 tg, .int .i64 i, .int .u64 sm]).alloc (.cells ⟨[.int .u8 0, .int .i64 0, .int .u64 0, .int .u64 0, .int .u64 0, .int .u64 0, .int .u64 0, .int .u64 0, .int .u64 0, .int .u64 0]⟩ 31))
  have hr := (Box.new ((w.alloc (.cells ⟨cfgL c⟩ 24)).alloc (.cells #[.int .u64 tg, .int .i64 i, .int .u64 sm] 104)) 31 [.int .u8 0, .int .i64 0, .int .u64 0, .int .u64 0, .int .u64 0, .int .u64 0, .int .u64 0, .int .u64 0, .int .u64 0, .int .u64 0])
  have HB := Lib.hid (moreB (moreB (moreB (Below.refl w.heap.size w) (.cells ⟨cfgL c⟩ 24)) (.cells #[.int .u64 tg, .int .i64 i, .int .u64 sm] 104)) (.cells ⟨[.int .u8 0, .int .i64 0, .int .u64 0, .int .u64 0, .int .u64 0, .int .u64 0, .int .u64 0, .int .u64 0, .int .u64 0, .int .u64 0]⟩ 31))
  (try simp only [World.size_alloc] at hx hk hr)
  have HX := Lib.hid hx
  have HK := Lib.hid hk
  have HR := Lib.hid hr
  clear hx hk hr
  unfold cfgL at *
  generalize ((w.alloc _).alloc _).alloc _ = V at *
  refine (signOf_strs c V HC.out).mono ?_
  rintro e w1 ⟨rfl, hb⟩
  have HX := Lib.hid (HX.out.below hb)
  have HK := Lib.hid (HK.out.below hb)
  have HR := Lib.hid (HR.out.below hb)
  have HB := Lib.hid (keepB hb HB.out)
  clear hb
  have k0 := HK.out.c 0 rfl
  have k1 := HK.out.c 1 rfl
  have k2 := HK.out.c 2 rfl
  go_wp2_with fail
  clear k0 k1 k2
  refine (counts_look c v tg i sm w1 (HP.out.more HB.out) HI.out).mono ?_
  rintro e w2 ⟨rfl, hb⟩
  have HB := Lib.hid (keepB hb HB.out)
  have HR := Lib.hid (HR.out.below hb)
  clear hb
  generalize hY : lkA c v i = y
  generalize hE : lkE c v i = E
  have HY := Lib.hid hY; have HE := Lib.hid hE
  clear hY hE
  rw [accV_form]
  have hr := HR.out
  have r0 := hr.c 0 rfl
  have r1 := hr.c 1 rfl
  have r2 := hr.c 2 rfl
  have r3 := hr.c 3 rfl
  have r4 := hr.c 4 rfl
  have r5 := hr.c 5 rfl
  have r6 := hr.c 6 rfl
  have r7 := hr.c 7 rfl
  have r8 := hr.c 8 rfl
  have r9 := hr.c 9 rfl
  have g0 := hr.f 0
  have g1 := hr.f 1
  have g2 := hr.f 2
  have g3 := hr.f 3
  have g4 := hr.f 4
  have g5 := hr.f 5
  have g6 := hr.f 6
  have g7 := hr.f 7
  have g8 := hr.f 8
  have g9 := hr.f 9
  clear hr
  go_wp2_with fail
  refine bodyPost_ret (v := .tuple #[.agg ⟨[.int .u8 y.k, .int .i64 y.at', .int .u64 y.old.t, .int .u64 y.old.a, .int .u64 y.old.b, .int .u64 y.old.c, .int .u64 y.new.t, .int .u64 y.new.a, .int .u64 y.new.b, .int .u64 y.new.c]⟩, .int .i64 E]) ?_ rfl ⟨by first | (rw [HY.out, HE.out]; rfl) | rfl, below_acc HB.out (by omega) _ _ _ _ _ _ _ _ _ _⟩
  exact (HR.out.acc _ _ _ _ _ _ _ _ _ _).results2 (t := 31) rfl (fun _ => by kernel_rfl) (fun _ => by kernel_rfl) rfl rfl

set_option maxRecDepth 100000 in
set_option maxHeartbeats 1600000 in
theorem sgSeen_strs (c : Cfg) (tg i sm l0 la l2 l3 : Int) (na nn ns : Int) (em : Bool) (er : Int) (w : World) (hh : i ≤ 9223372036854775807 ∧ ssR c tg i sm la = .tuple #[.agg #[.int .u64 na, .int .i64 nn, .int .u64 ns], .bool em, .int .i64 er]) (hc : c.Strs) : Calls Tryd.prog 50 #[.agg #[.int .u8 c.ob, .int .i64 c.inst, .int .i64 c.thr, .int .u8 c.kd, .int .i64 c.str, .int .i64 c.bits, .int .i64 c.cap, .int .i64 c.node, .int .i64 c.bat, .int .i64 c.chk, .int .u64 c.lim, .int .u64 c.most], .agg #[.int .u64 tg, .int .i64 i, .int .u64 sm], .agg #[.int .u64 l0, .int .u64 la, .int .u64 l2, .int .u64 l3]] w fun e w' => e = .returned (.tuple #[.agg #[.int .u64 na, .int .i64 nn, .int .u64 ns], .bool em, .int .i64 er]) ∧ Below w.heap.size w w' := by
  have HH := Lib.hid hh
  have HC := Lib.hid hc
  clear hh hc
  go_enter Tryd.func50, Tryd.ntmps50
  go_wp2_with fail
  have hx := ((((Box.new w 24 (cfgL c)).alloc (.cells #[.int .u64 tg, .int .i64 i, .int .u64 sm] 104)).alloc (.cells #[.int .u64 l0, .int .u64 la, .int .u64 l2, .int .u64 l3] 29)).alloc (.cells #[.int .u64 0, .int .i64 0, .int .u64 0] 104))
  have hk := (((Box.new (w.alloc (.cells ⟨cfgL c⟩ 24)) 104 [.int .u64 tg, .int .i64 i, .int .u64 sm]).alloc (.cells #[.int .u64 l0, .int .u64 la, .int .u64 l2, .int .u64 l3] 29)).alloc (.cells #[.int .u64 0, .int .i64 0, .int .u64 0] 104))
  have hl := ((Box.new ((w.alloc (.cells ⟨cfgL c⟩ 24)).alloc (.cells #[.int .u64 tg, .int .i64 i, .int .u64 sm] 104)) 29 [.int .u64 l0, .int .u64 la, .int .u64 l2, .int .u64 l3]).alloc (.cells #[.int .u64 0, .int .i64 0, .int .u64 0] 104))
  have hr := (Box.new (((w.alloc (.cells ⟨cfgL c⟩ 24)).alloc (.cells #[.int .u64 tg, .int .i64 i, .int .u64 sm] 104)).alloc (.cells #[.int .u64 l0, .int .u64 la, .int .u64 l2, .int .u64 l3] 29)) 104 [.int .u64 0, .int .i64 0, .int .u64 0])
  have HB := Lib.hid (moreB (moreB (moreB (moreB (Below.refl w.heap.size w) (.cells ⟨cfgL c⟩ 24)) (.cells #[.int .u64 tg, .int .i64 i, .int .u64 sm] 104)) (.cells #[.int .u64 l0, .int .u64 la, .int .u64 l2, .int .u64 l3] 29)) (.cells #[.int .u64 0, .int .i64 0, .int .u64 0] 104))
  (try simp only [World.size_alloc] at hx hk hl hr)
  have HX := Lib.hid hx
  have HK := Lib.hid hk
  have HL := Lib.hid hl
  have HR := Lib.hid hr
  clear hx hk hl hr
  unfold cfgL at *
  generalize (((w.alloc _).alloc _).alloc _).alloc _ = V at *
  refine (signOf_strs c V HC.out).mono ?_
  rintro e w1 ⟨rfl, hb⟩
  have HX := Lib.hid (HX.out.below hb)
  have HK := Lib.hid (HK.out.below hb)
  have HL := Lib.hid (HL.out.below hb)
  have HR := Lib.hid (HR.out.below hb)
  have HB := Lib.hid (keepB hb HB.out)
  clear hb
  have k0 := HK.out.c 0 rfl
  have k1 := HK.out.c 1 rfl
  have k2 := HK.out.c 2 rfl
  have y0 := HL.out.c 0 rfl
  have y1 := HL.out.c 1 rfl
  have y2 := HL.out.c 2 rfl
  have y3 := HL.out.c 3 rfl
  go_wp2_with fail
  clear k0 k1 k2
  clear y0 y1 y2 y3
  refine (counts_seen c tg i sm l0 la l2 l3 na nn ns em er w1 HH.out).mono ?_
  rintro e w2 ⟨rfl, hb⟩
  have HB := Lib.hid (keepB hb HB.out)
  have HR := Lib.hid (HR.out.below hb)
  clear hb
  have hr := HR.out
  have r0 := hr.c 0 rfl
  have r1 := hr.c 1 rfl
  have r2 := hr.c 2 rfl
  have g0 := hr.f 0
  have g1 := hr.f 1
  have g2 := hr.f 2
  clear hr
  go_wp2_with fail
  refine bodyPost_ret (v := .tuple #[.agg ⟨[.int .u64 na, .int .i64 nn, .int .u64 ns]⟩, .bool em, .int .i64 er]) ?_ rfl ⟨rfl, below_look HB.out (by omega) _ _ _⟩
  exact (HR.out.look _ _ _).resultsL (t := 104) rfl (fun _ => by kernel_rfl) (fun _ => by kernel_rfl) rfl rfl rfl

set_option maxRecDepth 100000 in
set_option maxHeartbeats 1600000 in
theorem sgFull_strs (c : Cfg) (l0 la l2 l3 : Int) (w : World) (hc : c.Strs) : Calls Tryd.prog 44 #[.agg #[.int .u8 c.ob, .int .i64 c.inst, .int .i64 c.thr, .int .u8 c.kd, .int .i64 c.str, .int .i64 c.bits, .int .i64 c.cap, .int .i64 c.node, .int .i64 c.bat, .int .i64 c.chk, .int .u64 c.lim, .int .u64 c.most], .agg #[.int .u64 l0, .int .u64 la, .int .u64 l2, .int .u64 l3]] w fun e w' => e = .returned (.tuple #[.bool (fullB c la), .int .i64 (fullE c)]) ∧ Below w.heap.size w w' := by
  have HC := Lib.hid hc
  clear hc
  go_enter Tryd.func44, Tryd.ntmps44
  go_wp2_with fail
  have hx := ((Box.new w 24 (cfgL c)).alloc (.cells #[.int .u64 l0, .int .u64 la, .int .u64 l2, .int .u64 l3] 29))
  have hl := (Box.new (w.alloc (.cells ⟨cfgL c⟩ 24)) 29 [.int .u64 l0, .int .u64 la, .int .u64 l2, .int .u64 l3])
  have HB := Lib.hid (moreB (moreB (Below.refl w.heap.size w) (.cells ⟨cfgL c⟩ 24)) (.cells #[.int .u64 l0, .int .u64 la, .int .u64 l2, .int .u64 l3] 29))
  (try simp only [World.size_alloc] at hx hl)
  have HX := Lib.hid hx
  have HL := Lib.hid hl
  clear hx hl
  unfold cfgL at *
  generalize (w.alloc _).alloc _ = V at *
  refine (signOf_strs c V HC.out).mono ?_
  rintro e w1 ⟨rfl, hb⟩
  have HX := Lib.hid (HX.out.below hb)
  have HL := Lib.hid (HL.out.below hb)
  have HB := Lib.hid (keepB hb HB.out)
  clear hb
  have y0 := HL.out.c 0 rfl
  have y1 := HL.out.c 1 rfl
  have y2 := HL.out.c 2 rfl
  have y3 := HL.out.c 3 rfl
  go_wp2_with fail
  clear y0 y1 y2 y3
  refine (counts_full c l0 la l2 l3 w1).mono ?_
  rintro e w2 ⟨rfl, hb⟩
  have HB := Lib.hid (keepB hb HB.out)
  clear hb
  go_wp2_with fail
  go_ret2
  exact ⟨rfl, HB.out⟩

set_option maxRecDepth 100000 in
set_option maxHeartbeats 1600000 in
theorem sgMany_strs (c : Cfg) (m : Int) (w : World) (hm : IntKind.i64.wrap (2 * c.str) = m) (hc : c.Strs) : Calls Tryd.prog 22 #[.agg #[.int .u8 c.ob, .int .i64 c.inst, .int .i64 c.thr, .int .u8 c.kd, .int .i64 c.str, .int .i64 c.bits, .int .i64 c.cap, .int .i64 c.node, .int .i64 c.bat, .int .i64 c.chk, .int .u64 c.lim, .int .u64 c.most]] w fun e w' => e = .returned (.tuple #[.int .i64 m, .int .i64 0]) ∧ Below w.heap.size w w' := by
  have HM := Lib.hid hm
  have HC := Lib.hid hc
  clear hm hc
  go_enter Tryd.func22, Tryd.ntmps22
  go_wp2_with fail
  have hx := (Box.new w 24 (cfgL c))
  have HB := Lib.hid (moreB (Below.refl w.heap.size w) (.cells ⟨cfgL c⟩ 24))
  (try simp only [World.size_alloc] at hx)
  have HX := Lib.hid hx
  clear hx
  unfold cfgL at *
  generalize w.alloc _ = V at *
  refine (signOf_strs c V HC.out).mono ?_
  rintro e w1 ⟨rfl, hb⟩
  have HX := Lib.hid (HX.out.below hb)
  have HB := Lib.hid (keepB hb HB.out)
  clear hb
  go_wp2_with fail
  refine (counts_many c m w1 HM.out).mono ?_
  rintro e w2 ⟨rfl, hb⟩
  have HB := Lib.hid (keepB hb HB.out)
  clear hb
  go_wp2_with fail
  go_ret2
  exact ⟨rfl, HB.out⟩

set_option maxRecDepth 100000 in
set_option maxHeartbeats 1600000 in
theorem sgMany_no (c : Cfg) (w : World) (hc : ¬ c.May) : Calls Tryd.prog 22 #[.agg #[.int .u8 c.ob, .int .i64 c.inst, .int .i64 c.thr, .int .u8 c.kd, .int .i64 c.str, .int .i64 c.bits, .int .i64 c.cap, .int .i64 c.node, .int .i64 c.bat, .int .i64 c.chk, .int .u64 c.lim, .int .u64 c.most]] w fun e w' => e = .returned (.tuple #[.int .i64 0, .int .i64 40]) ∧ Below w.heap.size w w' := by
  have HC := Lib.hid hc
  clear hc
  go_enter Tryd.func22, Tryd.ntmps22
  go_wp2_with fail
  have HB := Lib.hid (newB w (.cells ⟨cfgL c⟩ 24))
  unfold cfgL at *
  generalize w.alloc _ = V at *
  refine (signOf_no c V HC.out).mono ?_
  rintro e w1 ⟨rfl, hb⟩
  have HB := Lib.hid (keepB hb HB.out)
  clear hb
  go_wp2_with fail
  go_ret2
  exact ⟨rfl, HB.out⟩

end Go.Proofs.YtecjbgddjejjdaaDoor

namespace Go.Proofs.YtecjbgddjejjdaaDoor
open Go.RowKit

theorem calls_same {f : FuncId} {a : Array Value} {w : World} {v v' : Value} (e : v = v') (h : Calls Tryd.prog f a w fun e w' => e = .returned v ∧ Below w.heap.size w w') : Calls Tryd.prog f a w fun e w' => e = .returned v' ∧ Below w.heap.size w w' := by
  subst e; exact h
theorem sgArr_any (c : Cfg) (v t : Nat) (w : World) (hm : c.May) (hp : Pw w) (hv : v < 2) (ht : t < c.shp.thr) : Calls Tryd.prog 47 #[.agg #[.int .u8 c.ob, .int .i64 c.inst, .int .i64 c.thr, .int .u8 c.kd, .int .i64 c.str, .int .i64 c.bits, .int .i64 c.cap, .int .i64 c.node, .int .i64 c.bat, .int .i64 c.chk, .int .u64 c.lim, .int .u64 c.most], .int .i64 (v : Int), .int .i64 (t : Int)] w fun e w' => e = .returned (.tuple #[accV (arrX c v t), .int .i64 0]) ∧ Below w.heap.size w w' := by
  have hk : (t : Int) < c.thr := by have := thr_pos hm; omega
  rcases hm.two with h1 | h1
  · obtain ⟨e1, e2⟩ := arr_at h1 hv hk
    exact calls_same (by rw [e1, e2]; unfold arrX; rw [if_pos h1.2]; rfl) (sgArrive_slots c v t w hp h1)
  · obtain ⟨e1, e2⟩ := sarr_at h1 hv hk
    exact calls_same (by rw [e1, e2]; unfold arrX; rw [if_neg h1.kd1]; rfl) (sgArrive_strs c v t w hp h1)
theorem sgDep_any (c : Cfg) (v t : Nat) (w : World) (hm : c.May) (hp : Pw w) (hv : v < 2) (ht : t < c.shp.thr) : Calls Tryd.prog 48 #[.agg #[.int .u8 c.ob, .int .i64 c.inst, .int .i64 c.thr, .int .u8 c.kd, .int .i64 c.str, .int .i64 c.bits, .int .i64 c.cap, .int .i64 c.node, .int .i64 c.bat, .int .i64 c.chk, .int .u64 c.lim, .int .u64 c.most], .int .i64 (v : Int), .int .i64 (t : Int)] w fun e w' => e = .returned (.tuple #[accV (depX c v t), .int .i64 0]) ∧ Below w.heap.size w w' := by
  have hk : (t : Int) < c.thr := by have := thr_pos hm; omega
  rcases hm.two with h1 | h1
  · obtain ⟨e1, e2⟩ := dep_at h1 hv hk
    exact calls_same (by rw [e1, e2]; unfold depX; rw [if_pos h1.2]; rfl) (sgDepart_slots c v t w hp h1)
  · obtain ⟨e1, e2⟩ := sdep_at h1 hv hk
    exact calls_same (by rw [e1, e2]; unfold depX; rw [if_neg h1.kd1]; rfl) (sgDepart_strs c v t w hp h1)
theorem sgLk_any (c : Cfg) (v a S : Nat) (w : World) (hm : c.May) (hp : Pw w) (hv : v < 2) (ha : a < manyN c) : Calls Tryd.prog 49 #[.agg #[.int .u8 c.ob, .int .i64 c.inst, .int .i64 c.thr, .int .u8 c.kd, .int .i64 c.str, .int .i64 c.bits, .int .i64 c.cap, .int .i64 c.node, .int .i64 c.bat, .int .i64 c.chk, .int .u64 c.lim, .int .u64 c.most], .int .i64 (v : Int), .agg #[.int .u64 0, .int .i64 (a : Int), .int .u64 (S : Int)]] w fun e w' => e = .returned (.tuple #[accV (lkX c v a), .int .i64 0]) ∧ Below w.heap.size w w' := by
  unfold manyN at ha
  rcases hm.two with h1 | h1
  · rw [if_pos h1.2] at ha
    obtain ⟨e1, e2⟩ := look_at h1 hv (show (a : Int) < c.thr by have := thr_pos hm; omega)
    exact calls_same (by rw [e1, e2]; unfold lkX lkP; rw [if_pos h1.2]; rfl) (sgLook_slots c v 0 a S w hp h1)
  · rw [if_neg h1.kd1] at ha
    obtain ⟨e1, e2⟩ := slook_at h1 hv ha
    exact calls_same (by rw [e1, e2]; unfold lkX lkP; rw [if_neg h1.kd1]; rfl) (sgLook_strs c v 0 a S w hp (by have := str_cast h1; omega) h1)
theorem sgSn_any (c : Cfg) (a S : Nat) (x : Cel) (w : World) (hm : c.May) (ha : a < manyN c) (hx : x.a ≤ 1000000) : Calls Tryd.prog 50 #[.agg #[.int .u8 c.ob, .int .i64 c.inst, .int .i64 c.thr, .int .u8 c.kd, .int .i64 c.str, .int .i64 c.bits, .int .i64 c.cap, .int .i64 c.node, .int .i64 c.bat, .int .i64 c.chk, .int .u64 c.lim, .int .u64 c.most], .agg #[.int .u64 0, .int .i64 (a : Int), .int .u64 (S : Int)], .agg #[.int .u64 x.t, .int .u64 x.a, .int .u64 x.b, .int .u64 x.c]] w fun e w' =>
    e = .returned (.tuple #[.agg #[.int .u64 0, .int .i64 ((seenX c a S x.a).1 : Nat), .int .u64 ((seenX c a S x.a).2.1 : Nat)], .bool (seenX c a S x.a).2.2, .int .i64 0]) ∧ Below w.heap.size w w' := by
  unfold manyN at ha
  rcases hm.two with h1 | h1
  · rw [if_pos h1.2] at ha
    have ht := thr_pos hm
    have h0 := mkE_in h1 (v := 0) (t := (a : Int)) ⟨by omega, by omega, by omega, by omega⟩
    refine sgSeen_slots c 0 a S x.t x.a x.b x.c 0 _ _ _ 0 w ?_ h1
    rw [seenR_yes h0]
    unfold seenX seenN
    rw [if_pos h1.2]
    by_cases e : x.a = 0
    · rw [if_pos e, if_pos (by omega)]
      have : ((a : Int) + 1 == c.thr) = (a + 1 == c.shp.thr) := by
        rw [ht.1, Bool.eq_iff_iff, beq_iff_eq, beq_iff_eq]; omega
      rw [this]
      rfl
    · rw [if_neg e, if_neg (by omega)]
      have : ((a : Int) == c.thr) = false := by rw [beq_eq_false_iff_ne]; omega
      rw [this]
      rfl
  · rw [if_neg h1.kd1] at ha
    have hs := str_cast h1
    obtain ⟨na, nS, em, e1, e2⟩ := sseen_at h1 (a := a) (S := S) hx ha
    refine sgSeen_strs c 0 a S x.t x.a x.b x.c 0 _ _ _ 0 w ⟨by omega, ?_⟩ h1
    rw [e1]
    unfold seenX
    rw [if_neg h1.kd1]
    have hz := sumZ_at h1 (a := a) (S := S) hx
    rcases e2 with ⟨g1, rfl, rfl, rfl⟩ | ⟨g1, g2, rfl⟩ | ⟨g1, g2, rfl, rfl, rfl⟩
    · rw [if_pos g1]
    · rw [if_neg (by omega), if_pos g2]
      have e3 := ssR_end h1 (i := (a : Int)) ⟨by omega, by omega⟩ 0 (sm := (S : Int)) (la := (x.a : Int)) (by rw [hz, g2]; rfl)
      rw [e3] at e1
      exact e1.symm
    · rw [if_neg (by omega), if_neg g2]
theorem sgMn_any (c : Cfg) (w : World) (hm : c.May) : Calls Tryd.prog 22 #[.agg #[.int .u8 c.ob, .int .i64 c.inst, .int .i64 c.thr, .int .u8 c.kd, .int .i64 c.str, .int .i64 c.bits, .int .i64 c.cap, .int .i64 c.node, .int .i64 c.bat, .int .i64 c.chk, .int .u64 c.lim, .int .u64 c.most]] w fun e w' => e = .returned (.tuple #[.int .i64 (manyN c : Nat), .int .i64 0]) ∧ Below w.heap.size w w' := by
  unfold manyN
  rcases hm.two with h1 | h1
  · rw [if_pos h1.2]
    exact calls_same (by rw [(thr_pos hm).1]) (sgMany_slots c w h1)
  · rw [if_neg h1.kd1]
    refine sgMany_strs c _ w ?_ h1
    have := str_cast h1
    rw [IntKind.wrap_i64]; omega

end Go.Proofs.YtecjbgddjejjdaaDoor

namespace Go.Proofs.YtecjbgddjejjdaaDoor
open Go.RowKit

theorem below_grown {U V : World} (hb : Below U.heap.size U V) (row : Option Nat) : U.grownBy V row := ⟨hb.os, hb.tape, hb.output, hb.size, fun k hk _ => hb.block k hk⟩
theorem Pw.grown {U V : World} {row : Option Nat} (h : Pw U) (hg : U.grownBy V row) (hr : row ≠ some 2) : Pw V := fun i hi j hj =>
  (World.cell?_of_block (hg.block 2 h.pos (fun e => hr e.symm))).trans (h i hi j hj)
/-- The config, a memory, and other blocks that are new. -/
structure CaW (w : World) (c : Cfg) (p B n : Nat) (av : Option Addr) (cv : Nat) (fs : List (Nat × List Value)) (l : List Cel) (U : World) : Prop where
  g : w.grownBy U (Value.slice av n cv).ownBlock
  pw : Pw U
  fg : (Value.slice av n cv).ownBlock ≠ some 2
  pg : 2 < w.heap.size
  cfg : Box U w.heap.size (cfgL c)
  mem : Box U p [.slice av n cv]
  own : Own U B (.slice av n cv) l
  bx : ∀ x ∈ fs, Box U x.1 x.2
  fc : (Value.slice av n cv).ownBlock ≠ some w.heap.size
  fp : (Value.slice av n cv).ownBlock ≠ some p
  ff : ∀ x ∈ fs, (Value.slice av n cv).ownBlock ≠ some x.1
  len : l.length = n
  pl : p < w.heap.size

variable {w U V : World} {c : Cfg} {p B n cv : Nat} {av : Option Addr} {fs : List (Nat × List Value)} {l l' : List Cel}

theorem CaW.enter (hm : Box w p [.slice av n cv]) (ho : Own w B (.slice av n cv) l) (hp : Pw w) (hfg : (Value.slice av n cv).ownBlock ≠ some 2) (hfp : (Value.slice av n cv).ownBlock ≠ some p) (hn : l.length = n) (c : Cfg) :
    CaW w c p B n av cv [] l (w.alloc (.cells ⟨cfgL c⟩ 24)) :=
  ⟨World.grownBy_alloc _ _ _, hp.more (newB w _), hfg, hp.pos, Box.new w 24 (cfgL c), hm.alloc _, World.ownsRow.alloc ho _, by simp, fun e => (by have := (World.ownsRow.lt ho _ e).2; omega), hfp, by simp, hn, hm.lt⟩
theorem CaW.next (h : CaW w c p B n av cv fs l U) (hb : Below U.heap.size U V) : CaW w c p B n av cv fs l V :=
  ⟨h.g.trans (below_grown hb _), h.pw.more hb, h.fg, h.pg, h.cfg.below hb, h.mem.below hb, own_below h.own hb, fun x hx => (h.bx x hx).below hb, h.fc, h.fp, h.ff, h.len, h.pl⟩
theorem CaW.alloc (h : CaW w c p B n av cv fs l U) (o : Obj) : CaW w c p B n av cv fs l (U.alloc o) := h.next (newB U o)
theorem CaW.new (h : CaW w c p B n av cv fs l U) (t : TypeId) (cs : List Value) : CaW w c p B n av cv ((U.heap.size, cs) :: fs) l (U.alloc (.cells ⟨cs⟩ t)) := by
  have h' := h.alloc (.cells ⟨cs⟩ t)
  have hn : (Value.slice av n cv).ownBlock ≠ some U.heap.size := fun e => by
    have := (World.ownsRow.lt h.own _ e).2
    omega
  refine ⟨h'.g, h'.pw, h'.fg, h'.pg, h'.cfg, h'.mem, h'.own, fun x hx => ?_, h'.fc, h'.fp, fun x hx => ?_, h'.len, h'.pl⟩
  · rcases List.mem_cons.1 hx with rfl | hx
    · exact Box.new U t cs
    · exact h'.bx x hx
  · rcases List.mem_cons.1 hx with rfl | hx
    · exact hn
    · exact h'.ff x hx
theorem CaW.with (h : CaW w c p B n av cv fs l U) {gs : List (Nat × List Value)} (hb : ∀ x ∈ gs, Box U x.1 x.2) (hn : ∀ x ∈ gs, (Value.slice av n cv).ownBlock ≠ some x.1) : CaW w c p B n av cv gs l U :=
  ⟨h.g, h.pw, h.fg, h.pg, h.cfg, h.mem, h.own, hb, h.fc, h.fp, hn, h.len, h.pl⟩
/-- Behind what turned the memory. -/
theorem CaW.turn (h : CaW w c p B n av cv fs l U) (ho : Own V B (.slice av n cv) l') (hg : U.grownBy V (Value.slice av n cv).ownBlock) (hl : l'.length = n) : CaW w c p B n av cv fs l' V :=
  ⟨h.g.trans hg, h.pw.grown hg h.fg, h.fg, h.pg, h.cfg.grown hg h.fc, h.mem.grown hg h.fp, ho, fun x hx => (h.bx x hx).grown hg (h.ff x hx), h.fc, h.fp, h.ff, hl, h.pl⟩
theorem CaW.did (h : CaW w c p B n av cv fs l U) {x : Acc} (ho : Own V B (.slice av n cv) (doL l x)) (hg : U.grownBy V (Value.slice av n cv).ownBlock) : CaW w c p B n av cv fs (doL l x) V :=
  h.turn ho hg (by rw [doL_len, h.len])
/-- A store into one of the blocks. -/
theorem CaW.putAt {f1 f2 : List (Nat × List Value)} {g : Nat} {cs : List Value} (h : CaW w c p B n av cv (f1 ++ (g, cs) :: f2) l U) (i : Nat) (u : Value) (hg : w.heap.size < g) (h1 : ∀ x ∈ f1, x.1 ≠ g) (h2 : ∀ x ∈ f2, x.1 ≠ g) :
    CaW w c p B n av cv (f1 ++ (g, cs.set i u) :: f2) l (U.setCell ⟨g, i, none⟩ u) := by
  have hn := h.ff (g, cs) (by simp)
  refine ⟨grown_new h.g (by omega) u, fun j hj k hk => ?_, h.fg, h.pg, h.cfg.far (a := ⟨g, i, none⟩) (Nat.ne_of_lt hg) u, h.mem.far (a := ⟨g, i, none⟩) (by have := h.pl; simp only; omega) u, own_far h.own hn u, fun x hx => ?_, h.fc, h.fp, fun x hx => ?_, h.len, h.pl⟩
  · rw [World.cell?_setCell_far U ⟨g, i, none⟩ ⟨2, j * 5 + k, none⟩ u (by have := h.pg; simp only; omega)]
    exact h.pw j hj k hk
  · rcases List.mem_append.1 hx with hx | hx
    · exact (h.bx x (List.mem_append.2 (.inl hx))).far (a := ⟨g, i, none⟩) (h1 x hx) u
    · rcases List.mem_cons.1 hx with rfl | hx
      · exact (h.bx (g, cs) (by simp)).set i u
      · exact (h.bx x (List.mem_append.2 (.inr (List.mem_cons_of_mem _ hx)))).far (a := ⟨g, i, none⟩) (h2 x hx) u
  · rcases List.mem_append.1 hx with hx | hx
    · exact h.ff x (List.mem_append.2 (.inl hx))
    · rcases List.mem_cons.1 hx with rfl | hx
      · exact hn
      · exact h.ff x (List.mem_append.2 (.inr (List.mem_cons_of_mem _ hx)))
theorem CaW.acc {g : Nat} {c0 c1 c2 c3 c4 c5 c6 c7 c8 c9 : Value} (h : CaW w c p B n av cv ((g, [c0, c1, c2, c3, c4, c5, c6, c7, c8, c9]) :: fs) l U) (v0 v1 v2 v3 v4 v5 v6 v7 v8 v9 : Value) (hg : w.heap.size < g) (h2 : ∀ x ∈ fs, x.1 ≠ g) :
    CaW w c p B n av cv ((g, [v0, v1, v2, v3, v4, v5, v6, v7, v8, v9]) :: fs) l ((((((((((U.setCell ⟨g, 0, none⟩ v0).setCell ⟨g, 1, none⟩ v1).setCell ⟨g, 2, none⟩ v2).setCell ⟨g, 3, none⟩ v3).setCell ⟨g, 4, none⟩ v4).setCell ⟨g, 5, none⟩ v5).setCell ⟨g, 6, none⟩ v6).setCell ⟨g, 7, none⟩ v7).setCell ⟨g, 8, none⟩ v8).setCell ⟨g, 9, none⟩ v9) :=
  (CaW.putAt (f1 := []) (CaW.putAt (f1 := []) (CaW.putAt (f1 := []) (CaW.putAt (f1 := []) (CaW.putAt (f1 := []) (CaW.putAt (f1 := []) (CaW.putAt (f1 := []) (CaW.putAt (f1 := []) (CaW.putAt (f1 := []) (CaW.putAt (f1 := []) h 0 v0 hg (by simp) h2) 1 v1 hg (by simp) h2) 2 v2 hg (by simp) h2) 3 v3 hg (by simp) h2) 4 v4 hg (by simp) h2) 5 v5 hg (by simp) h2) 6 v6 hg (by simp) h2) 7 v7 hg (by simp) h2) 8 v8 hg (by simp) h2) 9 v9 hg (by simp) h2)
/-- The same of the world of a function whose memory is its own. -/
theorem DrW.turn (h : DrW w c p B n av cv fs l U) (ho : Own V B (.slice av n cv) l') (hg : U.grownBy V (Value.slice av n cv).ownBlock) (hl : l'.length = n) : DrW w c p B n av cv fs l' V :=
  ⟨h.below.grown hg h.below.size (fun r e => Nat.le_of_lt (Nat.lt_of_lt_of_le h.lt (World.ownsRow.lt h.own r e).1)), h.cfg.grown hg h.fc, h.mem.grown hg h.fp, ho, fun x hx => (h.bx x hx).grown hg (h.ff x hx), h.fc, h.fp, h.ff, hl, h.lt⟩
theorem DrW.fg (h : DrW w c p B n av cv fs l U) (hp : Pw w) : (Value.slice av n cv).ownBlock ≠ some 2 := fun e => by
  have h1 := (World.ownsRow.lt h.own _ e).1
  have h2 := hp.pos
  have h3 := h.lt
  omega

end Go.Proofs.YtecjbgddjejjdaaDoor

namespace Go.Proofs.YtecjbgddjejjdaaDoor
open Go.RowKit

/-- Behind a callee that works on a memory. -/
def CamePost (w : World) (B n : Nat) (av : Option Addr) (cv : Nat) (l : List Cel) (e : Ending) (w' : World) : Prop :=
  e = .returned (.bool true) ∧ Own w' B (.slice av n cv) l ∧ w.grownBy w' (Value.slice av n cv).ownBlock

set_option maxRecDepth 100000 in
set_option maxHeartbeats 6400000 in
theorem came_arr (c : Cfg) (v t p B n : Nat) (av : Option Addr) (cv : Nat) (l : List Cel) (w : World) (hc : c.May) (hv : v < 2) (ht : t < c.shp.thr) (hm : Box w p [.slice av n cv]) (ho : Own w B (.slice av n cv) l) (hp : Pw w) (hfg : (Value.slice av n cv).ownBlock ≠ some 2) (hfp : (Value.slice av n cv).ownBlock ≠ some p) (hn : l.length = n) (he : doE l (arrX c v t) = 0) :
    Calls Tryd.prog 24 #[.agg #[.int .u8 c.ob, .int .i64 c.inst, .int .i64 c.thr, .int .u8 c.kd, .int .i64 c.str, .int .i64 c.bits, .int .i64 c.cap, .int .i64 c.node, .int .i64 c.bat, .int .i64 c.chk, .int .u64 c.lim, .int .u64 c.most], .pointer (some ⟨p, 0, none⟩), .int .i64 (v : Int), .int .i64 (t : Int), .bool false] w (CamePost w B n av cv (doL l (arrX c v t))) := by
  have HD := Lib.hid (CaW.enter hm ho hp hfg hfp hn c)
  have HC := Lib.hid hc; have HV := Lib.hid hv; have HT := Lib.hid ht; have HE := Lib.hid he
  clear hm ho hp hfg hfp hn hc hv ht he
  go_enter Tryd.func24, Tryd.ntmps24
  go_wp2_with fail
  unfold cfgL at HD
  generalize w.alloc _ = V at *
  refine (sgArr_any c v t V HC.out HD.out.pw HV.out HT.out).mono ?_
  rintro e u1 ⟨rfl, hb⟩
  have HD := Lib.hid (HD.out.next hb)
  clear hb
  generalize arrX c v t = y at *
  rw [accV_form]
  go_wp2_with fail
  have HD := Lib.hid (HD.out.alloc (.cells ⟨[.int .u8 y.k, .int .i64 y.at', .int .u64 y.old.t, .int .u64 y.old.a, .int .u64 y.old.b, .int .u64 y.old.c, .int .u64 y.new.t, .int .u64 y.new.a, .int .u64 y.new.b, .int .u64 y.new.c]⟩ 31))
  generalize u1.alloc _ = v1 at *
  refine (Do_len p cv B n av l y v1 HD.out.len HD.out.mem HD.out.own HD.out.fp).mono ?_
  rintro e u2 ⟨rfl, ho, hg⟩
  have HD := Lib.hid (HD.out.did ho hg)
  rw [HE.out]
  generalize doS l _ = sv at *
  clear ho hg
  go_wp2_with fail
  go_ret
  have h := HD.out.alloc (.cells #[.int .u64 sv.1.t, .int .u64 sv.1.a, .int .u64 sv.1.b, .int .u64 sv.1.c, .bool sv.2] 81)
  exact ⟨rfl, h.own, h.g⟩

set_option maxRecDepth 100000 in
set_option maxHeartbeats 6400000 in
theorem came_dep (c : Cfg) (v t p B n : Nat) (av : Option Addr) (cv : Nat) (l : List Cel) (w : World) (hc : c.May) (hv : v < 2) (ht : t < c.shp.thr) (hm : Box w p [.slice av n cv]) (ho : Own w B (.slice av n cv) l) (hp : Pw w) (hfg : (Value.slice av n cv).ownBlock ≠ some 2) (hfp : (Value.slice av n cv).ownBlock ≠ some p) (hn : l.length = n) (he : doE l (depX c v t) = 0) :
    Calls Tryd.prog 24 #[.agg #[.int .u8 c.ob, .int .i64 c.inst, .int .i64 c.thr, .int .u8 c.kd, .int .i64 c.str, .int .i64 c.bits, .int .i64 c.cap, .int .i64 c.node, .int .i64 c.bat, .int .i64 c.chk, .int .u64 c.lim, .int .u64 c.most], .pointer (some ⟨p, 0, none⟩), .int .i64 (v : Int), .int .i64 (t : Int), .bool true] w (CamePost w B n av cv (doL l (depX c v t))) := by
  have HD := Lib.hid (CaW.enter hm ho hp hfg hfp hn c)
  have HC := Lib.hid hc; have HV := Lib.hid hv; have HT := Lib.hid ht; have HE := Lib.hid he
  clear hm ho hp hfg hfp hn hc hv ht he
  go_enter Tryd.func24, Tryd.ntmps24
  go_wp2_with fail
  unfold cfgL at HD
  generalize w.alloc _ = V at *
  refine (sgArr_any c v t V HC.out HD.out.pw HV.out HT.out).mono ?_
  rintro e u1 ⟨rfl, hb⟩
  have HD := Lib.hid (HD.out.next hb)
  clear hb
  generalize arrX c v t = y at *
  rw [accV_form]
  have hx := HD.out.cfg
  unfold cfgL at hx
  have x0 := fun (o : Obj) => (hx.alloc o).c 0 rfl
  have x1 := fun (o : Obj) => (hx.alloc o).c 1 rfl
  have x2 := fun (o : Obj) => (hx.alloc o).c 2 rfl
  have x3 := fun (o : Obj) => (hx.alloc o).c 3 rfl
  have x4 := fun (o : Obj) => (hx.alloc o).c 4 rfl
  have x5 := fun (o : Obj) => (hx.alloc o).c 5 rfl
  have x6 := fun (o : Obj) => (hx.alloc o).c 6 rfl
  have x7 := fun (o : Obj) => (hx.alloc o).c 7 rfl
  have x8 := fun (o : Obj) => (hx.alloc o).c 8 rfl
  have x9 := fun (o : Obj) => (hx.alloc o).c 9 rfl
  have x10 := fun (o : Obj) => (hx.alloc o).c 10 rfl
  have x11 := fun (o : Obj) => (hx.alloc o).c 11 rfl
  have hwA := hx.lt
  clear hx
  go_wp2_with fail
  have HD := Lib.hid (HD.out.new 31 [.int .u8 y.k, .int .i64 y.at', .int .u64 y.old.t, .int .u64 y.old.a, .int .u64 y.old.b, .int .u64 y.old.c, .int .u64 y.new.t, .int .u64 y.new.a, .int .u64 y.new.b, .int .u64 y.new.c])
  clear x0 x1 x2 x3 x4 x5 x6 x7 x8 x9 x10 x11
  generalize u1.alloc _ = v1 at *
  generalize u1.heap.size = A at *
  refine (sgDep_any c v t v1 HC.out HD.out.pw HV.out HT.out).mono ?_
  rintro e u2 ⟨rfl, hb⟩
  have HD := Lib.hid (HD.out.next hb)
  clear hb
  generalize depX c v t = z at *
  rw [accV_form]
  have hA := HD.out.bx (A, [.int .u8 y.k, .int .i64 y.at', .int .u64 y.old.t, .int .u64 y.old.a, .int .u64 y.old.b, .int .u64 y.old.c, .int .u64 y.new.t, .int .u64 y.new.a, .int .u64 y.new.b, .int .u64 y.new.c]) (by simp)
  have r0 := hA.c 0 rfl
  have r1 := hA.c 1 rfl
  have r2 := hA.c 2 rfl
  have r3 := hA.c 3 rfl
  have r4 := hA.c 4 rfl
  have r5 := hA.c 5 rfl
  have r6 := hA.c 6 rfl
  have r7 := hA.c 7 rfl
  have r8 := hA.c 8 rfl
  have r9 := hA.c 9 rfl
  have g0 := hA.f 0
  have g1 := hA.f 1
  have g2 := hA.f 2
  have g3 := hA.f 3
  have g4 := hA.f 4
  have g5 := hA.f 5
  have g6 := hA.f 6
  have g7 := hA.f 7
  have g8 := hA.f 8
  have g9 := hA.f 9
  clear hA
  go_wp2_with fail
  have HD := Lib.hid (HD.out.acc (.int .u8 z.k) (.int .i64 z.at') (.int .u64 z.old.t) (.int .u64 z.old.a) (.int .u64 z.old.b) (.int .u64 z.old.c) (.int .u64 z.new.t) (.int .u64 z.new.a) (.int .u64 z.new.b) (.int .u64 z.new.c) hwA (by simp))
  clear r0 r1 r2 r3 r4 r5 r6 r7 r8 r9 g0 g1 g2 g3 g4 g5 g6 g7 g8 g9
  generalize World.setCell _ _ _ = Z at *
  refine (Do_len p cv B n av l z Z HD.out.len HD.out.mem HD.out.own HD.out.fp).mono ?_
  rintro e u3 ⟨rfl, ho, hg⟩
  have HD := Lib.hid (HD.out.did ho hg)
  rw [HE.out]
  generalize doS l _ = sv at *
  clear ho hg
  go_wp2_with fail
  go_ret
  have h := HD.out.alloc (.cells #[.int .u64 sv.1.t, .int .u64 sv.1.a, .int .u64 sv.1.b, .int .u64 sv.1.c, .bool sv.2] 81)
  exact ⟨rfl, h.own, h.g⟩

/-- Behind a drain. -/
def DrainPost (w : World) (B n : Nat) (av : Option Addr) (cv : Nat) (l : List Cel) (r : Int) (e : Ending) (w' : World) : Prop :=
  e = .returned (.int .i64 r) ∧ Own w' B (.slice av n cv) l ∧ w.grownBy w' (Value.slice av n cv).ownBlock

set_option maxRecDepth 100000 in
set_option maxHeartbeats 12800000 in
theorem drained_any (c : Cfg) (v m k0 p B n : Nat) (av : Option Addr) (cv : Nat) (l : List Cel) (hs : List Bool) (w : World) (hc : c.May) (hv : v < 2) (hi : Ind c v l hs k0) (hk : k0 ≤ 1000000) (hmm : manyN c ≤ m) (hm9 : m ≤ 1000) (hm : Box w p [.slice av n cv]) (ho : Own w B (.slice av n cv) l) (hp : Pw w) (hfg : (Value.slice av n cv).ownBlock ≠ some 2) (hfp : (Value.slice av n cv).ownBlock ≠ some p) (hn : l.length = n) :
    Calls Tryd.prog 25 #[.agg #[.int .u8 c.ob, .int .i64 c.inst, .int .i64 c.thr, .int .u8 c.kd, .int .i64 c.str, .int .i64 c.bits, .int .i64 c.cap, .int .i64 c.node, .int .i64 c.bat, .int .i64 c.chk, .int .u64 c.lim, .int .u64 c.most], .pointer (some ⟨p, 0, none⟩), .int .i64 (v : Int), .int .i64 (m : Int)] w (DrainPost w B n av cv l (drR c hs)) := by
  have HD := Lib.hid (CaW.enter hm ho hp hfg hfp hn c)
  have HC := Lib.hid hc; have HV := Lib.hid hv; have HI := Lib.hid hi; have HK := Lib.hid hk; have HMM := Lib.hid hmm; have HM9 := Lib.hid hm9
  clear hm ho hp hfg hfp hn hc hv hi hk hmm hm9
  go_enter Tryd.func25, Tryd.ntmps25
  go_wp2_with fail
  have hKw := HD.out.cfg.lt
  have HD := Lib.hid (HD.out.new 104 [.int .u64 0, .int .i64 0, .int .u64 0])
  unfold cfgL at HD
  generalize (w.alloc _).alloc _ = Z1 at *
  have hK1 : w.heap.size < (w.alloc (.cells ⟨cfgL c⟩ 24)).heap.size := hKw
  unfold cfgL at hK1
  rw [World.size_alloc] at *
  generalize hKK : w.heap.size + 1 = K at *
  have HKK := Lib.hid hKK
  clear hKw hKK hK1
  go_loopw [10] (fun i wr => ∃ (q a S : Nat), i = .int .i64 (q + 1 : Nat) ∧ q ≤ m ∧ CaW w c p B n av cv [(K, [.int .u64 0, .int .i64 (a : Nat), .int .u64 (S : Nat)])] l wr ∧ DrP c hs v l a S q) (fun i _ => m + 1 - (intOf i).toNat)
  case atStart => exact ⟨0, 0, 0, rfl, Nat.zero_le _, HD.out, DrP.start HC.out _ _ _⟩
  case round =>
    obtain ⟨q, a, S, rfl, hq, hD, hP⟩ := hrel
    have HD := Lib.hid hD; have HDP := Lib.hid hP
    have hx := hD.cfg
    unfold cfgL at hx
    have x0 := hx.c 0 rfl
    have x1 := hx.c 1 rfl
    have x2 := hx.c 2 rfl
    have x3 := hx.c 3 rfl
    have x4 := hx.c 4 rfl
    have x5 := hx.c 5 rfl
    have x6 := hx.c 6 rfl
    have x7 := hx.c 7 rfl
    have x8 := hx.c 8 rfl
    have x9 := hx.c 9 rfl
    have x10 := hx.c 10 rfl
    have x11 := hx.c 11 rfl
    have hk := hD.bx (K, [.int .u64 0, .int .i64 (a : Nat), .int .u64 (S : Nat)]) (by simp)
    have k0 := hk.c 0 rfl
    have k1 := hk.c 1 rfl
    have k2 := hk.c 2 rfl
    clear hD hP hx hk
    by_cases hlt : q + 1 ≤ m
    · have i1 : ((q + 1 : Nat) : Int) ≤ (m : Int) := by omega
      go_wp2_with fail
      refine (sgLk_any c v a S wr HC.out HD.out.pw HV.out HDP.out.lt).mono ?_
      rintro e u1 ⟨rfl, hb⟩
      have HD := Lib.hid (HD.out.next hb)
      obtain ⟨d1, d2, d3⟩ := look_do HC.out HV.out HDP.out.lt HI.out.len.1
      have hsm := HI.out.small HK.out HDP.out.lt
      have hst := HDP.out.step HI.out HK.out
      have HALT := Lib.hid HDP.out.lt
      have HD1 := Lib.hid d1; have HD2 := Lib.hid d2; have HD3 := Lib.hid d3
      have HSM := Lib.hid hsm; have HST := Lib.hid hst
      clear x0 x1 x2 x3 x4 x5 x6 x7 x8 x9 x10 x11 k0 k1 k2 hb d1 d2 d3 hsm hst
      generalize lkX c v a = y at *
      generalize l.getD (lkP c v a) .zero = x at *
      rw [accV_form]
      go_wp2_with fail
      have HD := Lib.hid (HD.out.alloc (.cells ⟨[.int .u8 y.k, .int .i64 y.at', .int .u64 y.old.t, .int .u64 y.old.a, .int .u64 y.old.b, .int .u64 y.old.c, .int .u64 y.new.t, .int .u64 y.new.a, .int .u64 y.new.b, .int .u64 y.new.c]⟩ 31))
      generalize u1.alloc _ = v1 at *
      refine (Do_len p cv B n av l y v1 HD.out.len HD.out.mem HD.out.own HD.out.fp).mono ?_
      rintro e u2 ⟨rfl, ho, hg⟩
      have HD := Lib.hid (HD.out.did ho hg)
      rw [HD2.out, HD3.out]
      rw [HD1.out] at HD
      clear ho hg
      have hx := HD.out.cfg
      unfold cfgL at hx
      have x0 := fun (o : Obj) => (hx.alloc o).c 0 rfl
      have x1 := fun (o : Obj) => (hx.alloc o).c 1 rfl
      have x2 := fun (o : Obj) => (hx.alloc o).c 2 rfl
      have x3 := fun (o : Obj) => (hx.alloc o).c 3 rfl
      have x4 := fun (o : Obj) => (hx.alloc o).c 4 rfl
      have x5 := fun (o : Obj) => (hx.alloc o).c 5 rfl
      have x6 := fun (o : Obj) => (hx.alloc o).c 6 rfl
      have x7 := fun (o : Obj) => (hx.alloc o).c 7 rfl
      have x8 := fun (o : Obj) => (hx.alloc o).c 8 rfl
      have x9 := fun (o : Obj) => (hx.alloc o).c 9 rfl
      have x10 := fun (o : Obj) => (hx.alloc o).c 10 rfl
      have x11 := fun (o : Obj) => (hx.alloc o).c 11 rfl
      have k0 := fun (o : Obj) => ((HD.out.bx (K, [.int .u64 0, .int .i64 (a : Nat), .int .u64 (S : Nat)]) (by simp)).alloc o).c 0 rfl
      have k1 := fun (o : Obj) => ((HD.out.bx (K, [.int .u64 0, .int .i64 (a : Nat), .int .u64 (S : Nat)]) (by simp)).alloc o).c 1 rfl
      have k2 := fun (o : Obj) => ((HD.out.bx (K, [.int .u64 0, .int .i64 (a : Nat), .int .u64 (S : Nat)]) (by simp)).alloc o).c 2 rfl
      clear hx
      go_wp2_with fail
      have HD := Lib.hid (HD.out.alloc (.cells ⟨[.int .u64 x.t, .int .u64 x.a, .int .u64 x.b, .int .u64 x.c, .bool true]⟩ 81))
      clear x0 x1 x2 x3 x4 x5 x6 x7 x8 x9 x10 x11 k0 k1 k2
      generalize u2.alloc _ = u2' at *
      refine (sgSn_any c a S x u2' HC.out HALT.out HSM.out).mono ?_
      rintro e u3 ⟨rfl, hb⟩
      have HD := Lib.hid (HD.out.next hb)
      clear hb
      generalize seenX c a S x.a = r at *
      obtain ⟨na, nS, em⟩ := r
      have k0 := fun (o : Obj) => ((HD.out.bx (K, [.int .u64 0, .int .i64 (a : Nat), .int .u64 (S : Nat)]) (by simp)).alloc o).c 0 rfl
      have k1 := fun (o : Obj) => ((HD.out.bx (K, [.int .u64 0, .int .i64 (a : Nat), .int .u64 (S : Nat)]) (by simp)).alloc o).c 1 rfl
      have k2 := fun (o : Obj) => ((HD.out.bx (K, [.int .u64 0, .int .i64 (a : Nat), .int .u64 (S : Nat)]) (by simp)).alloc o).c 2 rfl
      have f0 := fun (o : Obj) => ((HD.out.bx (K, [.int .u64 0, .int .i64 (a : Nat), .int .u64 (S : Nat)]) (by simp)).alloc o).f 0
      have f1 := fun (o : Obj) => ((HD.out.bx (K, [.int .u64 0, .int .i64 (a : Nat), .int .u64 (S : Nat)]) (by simp)).alloc o).f 1
      have f2 := fun (o : Obj) => ((HD.out.bx (K, [.int .u64 0, .int .i64 (a : Nat), .int .u64 (S : Nat)]) (by simp)).alloc o).f 2
      have hlong : m ≤ 1000 := HM9.out
      have hK1 : w.heap.size < K := by have := HKK.out; omega
      cases em with
      | false =>
        go_wp2_with fail
        have HDZ := Lib.hid (CaW.putAt (f1 := []) (CaW.putAt (f1 := []) (CaW.putAt (f1 := []) (HD.out.alloc (.cells #[.int .u64 0, .int .i64 (na : Nat), .int .u64 (nS : Nat)] 104)) 0 (.int .u64 0) hK1 (by simp) (by simp)) 1 (.int .i64 (na : Nat)) hK1 (by simp) (by simp)) 2 (.int .u64 (nS : Nat)) hK1 (by simp) (by simp))
        rcases HST.out with ⟨h, _⟩ | ⟨_, h⟩
        · cases h
        · refine ⟨⟨q + 1, na, nS, congrArg (Value.int .i64) (by omega), by omega, HDZ.out, h⟩, ?_⟩
          simp [intOf]; omega
      | true =>
        go_wp2_with fail
        go_ret
        rcases HST.out with ⟨_, h1, h2⟩ | ⟨h, _⟩
        · have h := HD.out.alloc (.cells #[.int .u64 0, .int .i64 (na : Nat), .int .u64 (nS : Nat)] 104)
          refine ⟨?_, h.own, h.g⟩
          unfold drR
          rw [anyH_no h2, if_neg (by simp), ← h1]
          first | rfl | simp
        · cases h
    · obtain rfl : q = m := by omega
      have i1 : (q : Int) < ((q + 1 : Nat) : Int) := by omega
      go_wp2_with fail
      go_ret
      refine ⟨?_, HD.out.own, HD.out.g⟩
      unfold drR
      rw [if_pos (anyH_yes.2 (HDP.out.stuck HMM.out))]
      first | rfl | simp

end Go.Proofs.YtecjbgddjejjdaaDoor

namespace Go.Proofs.YtecjbgddjejjdaaDoor
open Go.RowKit

def ex21a : Cfg := ⟨3, 2, 3, 1, 0, 0, 4, 0, 2, 0, 131072, 0⟩
def ex21b : Cfg := ⟨3, 2, 3, 2, 2, 0, 4, 0, 2, 0, 131072, 9⟩
theorem ex21a_s : ex21a.Slots := ⟨by decide, rfl⟩
theorem ex21b_s : ex21b.Strs := ⟨by decide, rfl⟩

set_option maxRecDepth 100000 in
theorem conf21a_any (w : World) : Calls Tryd.prog 42 #[] w fun e w' => e = .returned (.agg #[.int .u8 3, .int .i64 2, .int .i64 3, .int .u8 1, .int .i64 0, .int .i64 0, .int .i64 4, .int .i64 0, .int .i64 2, .int .i64 0, .int .u64 131072, .int .u64 0]) ∧ Below w.heap.size w w' := by
  go_enter Tryd.func42, Tryd.ntmps42
  go_wp2_with fail
  exact bodyPost_ret (v := .agg #[.int .u8 3, .int .i64 2, .int .i64 3, .int .u8 1, .int .i64 0, .int .i64 0, .int .i64 4, .int .i64 0, .int .i64 2, .int .i64 0, .int .u64 131072, .int .u64 0]) ((Box.new w 24 [.int .u8 3, .int .i64 2, .int .i64 3, .int .u8 1, .int .i64 0, .int .i64 0, .int .i64 4, .int .i64 0, .int .i64 2, .int .i64 0, .int .u64 131072, .int .u64 0]).results rfl (fun _ => by kernel_rfl) (fun _ => by kernel_rfl) rfl) rfl ⟨rfl, newB w _⟩

set_option maxRecDepth 100000 in
theorem conf21b_any (w : World) : Calls Tryd.prog 43 #[] w fun e w' => e = .returned (.agg #[.int .u8 3, .int .i64 2, .int .i64 3, .int .u8 2, .int .i64 2, .int .i64 0, .int .i64 4, .int .i64 0, .int .i64 2, .int .i64 0, .int .u64 131072, .int .u64 9]) ∧ Below w.heap.size w w' := by
  go_enter Tryd.func43, Tryd.ntmps43
  go_wp2_with fail
  exact bodyPost_ret (v := .agg #[.int .u8 3, .int .i64 2, .int .i64 3, .int .u8 2, .int .i64 2, .int .i64 0, .int .i64 4, .int .i64 0, .int .i64 2, .int .i64 0, .int .u64 131072, .int .u64 9]) ((Box.new w 24 [.int .u8 3, .int .i64 2, .int .i64 3, .int .u8 2, .int .i64 2, .int .i64 0, .int .i64 4, .int .i64 0, .int .i64 2, .int .i64 0, .int .u64 131072, .int .u64 9]).results rfl (fun _ => by kernel_rfl) (fun _ => by kernel_rfl) rfl) rfl ⟨rfl, newB w _⟩

theorem many21a (w : World) : Calls Tryd.prog 22 #[.agg #[.int .u8 3, .int .i64 2, .int .i64 3, .int .u8 1, .int .i64 0, .int .i64 0, .int .i64 4, .int .i64 0, .int .i64 2, .int .i64 0, .int .u64 131072, .int .u64 0]] w fun e w' => e = .returned (.tuple #[.int .i64 3, .int .i64 0]) ∧ Below w.heap.size w w' := sgMany_slots ex21a w ex21a_s
theorem many21b (w : World) : Calls Tryd.prog 22 #[.agg #[.int .u8 3, .int .i64 2, .int .i64 3, .int .u8 2, .int .i64 2, .int .i64 0, .int .i64 4, .int .i64 0, .int .i64 2, .int .i64 0, .int .u64 131072, .int .u64 9]] w fun e w' => e = .returned (.tuple #[.int .i64 4, .int .i64 0]) ∧ Below w.heap.size w w' := sgMany_strs ex21b 4 w (by kernel_rfl) ex21b_s
theorem full21a (w : World) : Calls Tryd.prog 44 #[.agg #[.int .u8 3, .int .i64 2, .int .i64 3, .int .u8 1, .int .i64 0, .int .i64 0, .int .i64 4, .int .i64 0, .int .i64 2, .int .i64 0, .int .u64 131072, .int .u64 0], .agg #[.int .u64 0, .int .u64 9, .int .u64 0, .int .u64 0]] w fun e w' => e = .returned (.tuple #[.bool false, .int .i64 0]) ∧ Below w.heap.size w w' := sgFull_slots ex21a 0 9 0 0 w ex21a_s
theorem full21b (w : World) : Calls Tryd.prog 44 #[.agg #[.int .u8 3, .int .i64 2, .int .i64 3, .int .u8 2, .int .i64 2, .int .i64 0, .int .i64 4, .int .i64 0, .int .i64 2, .int .i64 0, .int .u64 131072, .int .u64 9], .agg #[.int .u64 0, .int .u64 9, .int .u64 0, .int .u64 0]] w fun e w' => e = .returned (.tuple #[.bool true, .int .i64 0]) ∧ Below w.heap.size w w' := calls_same (by rw [show fullB ex21b 9 = true by kernel_rfl, show fullE ex21b = 0 by kernel_rfl]) (sgFull_strs ex21b 0 9 0 0 w ex21b_s)

set_option maxRecDepth 100000 in
set_option maxHeartbeats 6400000 in
theorem alive21_any (w : World) : Calls Tryd.prog 21 #[] w fun e w' => e = .returned (.bool true) ∧ Below w.heap.size w w' := by
  go_enter Tryd.func21, Tryd.ntmps21
  go_wp2_with fail
  have HB := Lib.hid (Below.refl w.heap.size w)
  refine (conf21a_any w).mono ?_
  rintro e u1 ⟨rfl, hb⟩
  have HB := Lib.hid (keepB hb HB.out)
  clear hb
  go_wp2_with fail
  refine (many21a u1).mono ?_
  rintro e u2 ⟨rfl, hb⟩
  have HB := Lib.hid (keepB hb HB.out)
  clear hb
  go_wp2_with fail
  refine (conf21b_any u2).mono ?_
  rintro e u3 ⟨rfl, hb⟩
  have HB := Lib.hid (keepB hb HB.out)
  clear hb
  go_wp2_with fail
  refine (many21b u3).mono ?_
  rintro e u4 ⟨rfl, hb⟩
  have HB := Lib.hid (keepB hb HB.out)
  clear hb
  go_wp2_with fail
  refine (conf21a_any u4).mono ?_
  rintro e u5 ⟨rfl, hb⟩
  have HB := Lib.hid (keepB hb HB.out)
  clear hb
  go_wp2_with fail
  refine (full21a u5).mono ?_
  rintro e u6 ⟨rfl, hb⟩
  have HB := Lib.hid (keepB hb HB.out)
  clear hb
  go_wp2_with fail
  refine (conf21b_any u6).mono ?_
  rintro e u7 ⟨rfl, hb⟩
  have HB := Lib.hid (keepB hb HB.out)
  clear hb
  go_wp2_with fail
  refine (full21b u7).mono ?_
  rintro e u8 ⟨rfl, hb⟩
  have HB := Lib.hid (keepB hb HB.out)
  clear hb
  go_wp2_with fail
  go_ret
  exact ⟨rfl, HB.out⟩

end Go.Proofs.YtecjbgddjejjdaaDoor

namespace Go.Proofs.YtecjbgddjejjdaaDoor
open Go.RowKit

/-- A thread's bit. -/
def bitB (x : Int) (u : Nat) : Bool := (x / 2 ^ u).tmod 2 == 1
theorem bitB_no {x : Int} (hx : 0 ≤ x) (u : Nat) : ((x / 2 ^ u).tmod 2 == 0) = !bitB x u := by
  have h1 : 0 ≤ x / 2 ^ u := Int.ediv_nonneg hx (by have : (0 : Int) < 2 ^ u := Int.pow_pos (by decide); omega)
  unfold bitB
  rw [Int.tmod_eq_emod_of_nonneg h1]
  have h2 : x / 2 ^ u % 2 = 0 ∨ x / 2 ^ u % 2 = 1 := by omega
  rcases h2 with h | h <;> rw [h] <;> rfl
theorem noB_drR {c : Cfg} : drR c (noB c) = ((manyN c : Nat) : Int) := by
  unfold drR
  rw [anyH_no (fun t _ => noB_at c t), if_neg (by simp)]

set_option maxRecDepth 100000 in
set_option maxHeartbeats 12800000 in
theorem ends_walk (c : Cfg) (v co st : Int) (w : World) (hp : Pw w) (hco : 0 ≤ co ∧ co ≤ 65535) (hst : 0 ≤ st ∧ st ≤ 65535) :
    Calls Tryd.prog 7 #[.agg #[.int .u8 c.ob, .int .i64 c.inst, .int .i64 c.thr, .int .u8 c.kd, .int .i64 c.str, .int .i64 c.bits, .int .i64 c.cap, .int .i64 c.node, .int .i64 c.bat, .int .i64 c.chk, .int .u64 c.lim, .int .u64 c.most], .int .i64 v, .int .u16 co, .int .u16 st] w fun e w' => e = .returned (.bool true) ∧ Below w.heap.size w w' := by
  have HP := Lib.hid hp; have HCO := Lib.hid hco; have HSTA := Lib.hid hst
  clear hp hco hst
  go_enter Tryd.func7, Tryd.ntmps7
  go_wp2_with fail
  have HX := Lib.hid (Box.new w 24 (cfgL c))
  have HB := Lib.hid (newB w (.cells ⟨cfgL c⟩ 24))
  unfold cfgL at *
  generalize w.alloc _ = V at *
  refine (alive21_any V).mono ?_
  rintro e w1 ⟨rfl, hb⟩
  have HB := Lib.hid (keepB hb HB.out); have HX := Lib.hid (HX.out.below hb); clear hb
  have x0 := HX.out.c 0 rfl; have x1 := HX.out.c 1 rfl; have x2 := HX.out.c 2 rfl; have x3 := HX.out.c 3 rfl; have x4 := HX.out.c 4 rfl; have x5 := HX.out.c 5 rfl; have x6 := HX.out.c 6 rfl; have x7 := HX.out.c 7 rfl; have x8 := HX.out.c 8 rfl; have x9 := HX.out.c 9 rfl; have x10 := HX.out.c 10 rfl; have x11 := HX.out.c 11 rfl
  go_wp2_with fail
  by_cases hm : c.May
  case neg =>
    have HM := Lib.hid hm
    clear hm
    refine (sgMany_no c w1 HM.out).mono ?_
    rintro e w2 ⟨rfl, hb⟩
    clear x0 x1 x2 x3 x4 x5 x6 x7 x8 x9 x10 x11
    have HB := Lib.hid (keepB hb HB.out); have HX := Lib.hid (HX.out.below hb); clear hb
    have x0 := HX.out.c 0 rfl; have x1 := HX.out.c 1 rfl; have x2 := HX.out.c 2 rfl; have x3 := HX.out.c 3 rfl; have x4 := HX.out.c 4 rfl; have x5 := HX.out.c 5 rfl; have x6 := HX.out.c 6 rfl; have x7 := HX.out.c 7 rfl; have x8 := HX.out.c 8 rfl; have x9 := HX.out.c 9 rfl; have x10 := HX.out.c 10 rfl; have x11 := HX.out.c 11 rfl
    go_wp2_with fail
    refine (Fresh_any c _ (HP.out.more HB.out)).mono ?_
    rintro e w3 ⟨fa, fc, rfl, hR, hb⟩
    clear x0 x1 x2 x3 x4 x5 x6 x7 x8 x9 x10 x11
    have HB := Lib.hid (keepB hb HB.out); have HX := Lib.hid (HX.out.below hb); clear hb
    clear hR
    go_wp2_with fail
    go_ret
    exact ⟨rfl, HB.out⟩
  have HM := Lib.hid hm
  clear hm
  refine (sgMn_any c w1 HM.out).mono ?_
  rintro e w2 ⟨rfl, hb⟩
  clear x0 x1 x2 x3 x4 x5 x6 x7 x8 x9 x10 x11
  have HB := Lib.hid (keepB hb HB.out); have HX := Lib.hid (HX.out.below hb); clear hb
  have x0 := HX.out.c 0 rfl; have x1 := HX.out.c 1 rfl; have x2 := HX.out.c 2 rfl; have x3 := HX.out.c 3 rfl; have x4 := HX.out.c 4 rfl; have x5 := HX.out.c 5 rfl; have x6 := HX.out.c 6 rfl; have x7 := HX.out.c 7 rfl; have x8 := HX.out.c 8 rfl; have x9 := HX.out.c 9 rfl; have x10 := HX.out.c 10 rfl; have x11 := HX.out.c 11 rfl
  go_wp2_with fail
  refine (Fresh_any c _ (HP.out.more HB.out)).mono ?_
  rintro e w3 ⟨fa, fc, rfl, hR, hb⟩
  have HR := Lib.hid hR
  clear x0 x1 x2 x3 x4 x5 x6 x7 x8 x9 x10 x11
  have HB := Lib.hid (keepB hb HB.out); have HX := Lib.hid (HX.out.below hb); clear hb
  clear hR
  rw [show checkE c = 0 by simp [checkE, HM.out]]
  by_cases hv0 : v < 0
  · go_wp2_with fail
    go_ret
    exact ⟨rfl, HB.out⟩
  by_cases hv1 : 1 < v
  · have hv0' : 0 ≤ v := by omega
    clear hv0
    go_wp2_with fail
    go_ret
    exact ⟨rfl, HB.out⟩
  obtain ⟨vn, rfl⟩ := Int.eq_ofNat_of_zero_le (show 0 ≤ v by omega)
  have hv0' : (0 : Int) ≤ (vn : Int) := by omega
  have hv1' : (vn : Int) ≤ 1 := by omega
  have HV := Lib.hid (show vn < 2 by omega)
  clear hv0 hv1
  have HT := Lib.hid (thr_pos HM.out)
  have HN := Lib.hid (all_le (May.small HM.out)).1
  have HL := Lib.hid (freshL_len c)
  have hfr : frL c = freshL c := by simp [frL, HM.out]
  have HR := Lib.hid (show Rd w3 fa fc (freshL c) by rw [← hfr]; exact HR.out)
  rw [hfr]
  clear hfr
  go_wp2_with fail
  clear hv0' hv1'
  have HSZ := Lib.hid HX.out.lt
  refine (New_any fa fc (freshL c) _ HR.out (by have := HL.out; have := HN.out; omega)).mono ?_
  rintro e w4 ⟨p, mv, rfl, hm, ho, hpp, hwp, hb⟩
  have HX := Lib.hid (HX.out.below hb)
  have HB := Lib.hid (keepB hb HB.out)
  clear hb
  obtain ⟨av, cv, rfl, _, hav⟩ := own_form ho
  have hD : DrW w c p w3.heap.size (freshL c).length av cv [] (freshL c) w4 := ⟨HB.out, HX.out, hm, ho, by simp, fun e => (by have := (World.ownsRow.lt ho _ e).1; have := HSZ.out; omega), hpp, by simp, rfl, HSZ.out⟩
  have HD := Lib.hid hD
  clear hm ho hpp hwp hav hD
  go_wp2_with fail
  clear HX HB HR
  generalize w3.heap.size = B at *
  generalize hn : (freshL c).length = n at *
  have HI0 := Lib.hid (Ind.start HM.out HV.out)
  have HO0 := Lib.hid (Oth.start HM.out HV.out)
  clear hn
  generalize freshL c = l0 at *
  go_loopw [16] (fun i wr => ∃ (k : Nat) (l : List Cel) (hs : List Bool), i = .int .i64 (k : Nat) ∧ k ≤ c.shp.thr ∧ DrW w c p B n av cv [] l wr ∧ Ind c vn l hs k ∧ Oth c vn l ∧ ∀ u, hs.getD u false = (decide (u < k) && bitB co u)) (fun i _ => c.shp.thr - (intOf i).toNat)
  case atStart => exact ⟨0, l0, noB c, rfl, Nat.zero_le _, HD.out, HI0.out, HO0.out, fun u => by rw [noB_at]; simp⟩
  case round =>
    clear HD
    obtain ⟨k, l, hs, rfl, hk, hD, hI, hO, hZ⟩ := hrel
    have HD := Lib.hid hD; have HI := Lib.hid hI; have HO := Lib.hid hO; have HZ := Lib.hid hZ
    have hx := hD.cfg
    unfold cfgL at hx
    have x0 := hx.c 0 rfl
    have x1 := hx.c 1 rfl
    have x2 := hx.c 2 rfl
    have x3 := hx.c 3 rfl
    have x4 := hx.c 4 rfl
    have x5 := hx.c 5 rfl
    have x6 := hx.c 6 rfl
    have x7 := hx.c 7 rfl
    have x8 := hx.c 8 rfl
    have x9 := hx.c 9 rfl
    have x10 := hx.c 10 rfl
    have x11 := hx.c 11 rfl
    clear hD hI hO hZ hx
    have hthr : c.shp.thr ≤ 16 := HT.out.2.2
    by_cases hlt : k < c.shp.thr
    · have i2 : (k : Int) < c.thr := by rw [HT.out.1]; omega
      --[one
      have HHZ := Lib.hid (show hs.getD k false = false by rw [HZ.out]; simp)
      cases hbit : ((co / 2 ^ k).tmod 2 == 1)
      · have HBT := Lib.hid (show bitB co k = false from hbit)
        go_wp2_with fail
        refine ⟨⟨k + 1, l, hs, congrArg (Value.int .i64) (by omega), by omega, HD.out, HI.out.more (by omega), HO.out, fun u => ?_⟩, ?_⟩
        · rw [HZ.out]
          by_cases e : u = k
          · subst e; rw [HBT.out]; simp
          · rw [show decide (u < k + 1) = decide (u < k) from by simp; omega]
        · simp [intOf]; omega
      · have HBT := Lib.hid (show bitB co k = true from hbit)
        go_wp2_with fail
        refine (came_arr c vn k p B n av cv l wr HM.out HV.out hlt HD.out.mem HD.out.own (HP.out.more HD.out.below) (HD.out.fg HP.out) HD.out.fp HD.out.len (HI.out.arrive HV.out hlt (by omega) HHZ.out).2).mono ?_
        rintro e u1 ⟨rfl, ho, hg⟩
        have HD := Lib.hid (HD.out.turn ho hg (by rw [doL_len, HD.out.len]))
        clear ho hg hbit x0 x1 x2 x3 x4 x5 x6 x7 x8 x9 x10 x11
        go_wp2_with fail
        refine ⟨⟨k + 1, _, hs.set k true, congrArg (Value.int .i64) (by omega), by omega, HD.out, (HI.out.arrive HV.out hlt (by omega) HHZ.out).1, HO.out.arrive HI.out HV.out hlt (by omega), fun u => ?_⟩, ?_⟩
        · rw [getD_set _ _ _ _ _ (by rw [HI.out.len.2]; exact hlt), HZ.out]
          by_cases e : k = u
          · subst e; rw [HBT.out]; simp
          · rw [if_neg e, show decide (u < k + 1) = decide (u < k) from by simp; omega]
        · simp [intOf]; omega
      --]one
    · obtain rfl : k = c.shp.thr := by omega
      have i2 : c.thr ≤ (c.shp.thr : Int) := by rw [HT.out.1]; exact Int.le_refl _
      have hw1 : IntKind.i64.wrap (c.thr - 1) = (c.shp.thr : Int) - 1 := by rw [HT.out.1, IntKind.wrap_i64]; omega
      go_wp2_with fail
      have HI := Lib.hid (HI.out.more hthr)
      have HD1 := HD; have HI1 := HI; have HO1 := HO; have HZ1 := HZ
      clear HD HI HO HZ x0 x1 x2 x3 x4 x5 x6 x7 x8 x9 x10 x11 hw1 i2
      go_loopw [17, 18] (fun b i wr => ∃ (lf : Bool) (j : Int) (l : List Cel) (hs : List Bool), b = .bool lf ∧ i = .int .i64 j ∧ -1 ≤ j ∧ j < (c.shp.thr : Int) ∧ DrW w c p B n av cv [] l wr ∧ Ind c vn l hs 16 ∧ Oth c vn l ∧ (∀ u, u < c.shp.thr → hs.getD u false = (bitB co u && (decide ((u : Int) ≤ j) || bitB st u))) ∧ (lf = true ↔ ∃ u, u < c.shp.thr ∧ j < (u : Int) ∧ bitB co u = true ∧ bitB st u = true)) (fun _ i _ => (intOf i + 1).toNat)
      case atStart =>
        refine ⟨false, _, _, _, rfl, rfl, by have := HT.out; omega, by omega, HD1.out, HI1.out, HO1.out, fun u hu => ?_, ?_⟩
        · rw [HZ1.out, decide_eq_true hu, decide_eq_true (show (u : Int) ≤ (c.shp.thr : Int) - 1 by omega)]; simp
        · constructor
          · intro h; cases h
          · rintro ⟨u, h1, h2, _⟩; omega
      case round =>
        clear HD1 HI1 HO1 HZ1
        obtain ⟨lf, j, l, hs, rfl, rfl, hj1, hj2, hD, hI, hO, hZ, hF⟩ := hrel
        have HD := Lib.hid hD; have HI := Lib.hid hI; have HO := Lib.hid hO; have HZ := Lib.hid hZ; have HF := Lib.hid hF
        have hx := hD.cfg
        unfold cfgL at hx
        have x0 := hx.c 0 rfl
        have x1 := hx.c 1 rfl
        have x2 := hx.c 2 rfl
        have x3 := hx.c 3 rfl
        have x4 := hx.c 4 rfl
        have x5 := hx.c 5 rfl
        have x6 := hx.c 6 rfl
        have x7 := hx.c 7 rfl
        have x8 := hx.c 8 rfl
        have x9 := hx.c 9 rfl
        have x10 := hx.c 10 rfl
        have x11 := hx.c 11 rfl
        clear hD hI hO hZ hF hx
        by_cases hj : 0 ≤ j
        · obtain ⟨k, rfl⟩ := Int.eq_ofNat_of_zero_le hj
          --[two
          have hkt : k < c.shp.thr := by omega
          have hw1 : IntKind.i64.wrap ((k : Int) - 1) = (k : Int) - 1 := by rw [IntKind.wrap_i64]; omega
          have hz0 := bitB_no HCO.out.1 k
          cases hbc : bitB co k
          · rw [hbc] at hz0
            have HBC := Lib.hid hbc
            clear hbc
            have hz0' : ((co / 2 ^ k).tmod 2 == 0) = true := hz0
            clear hz0
            go_wp2_with fail
            refine ⟨⟨lf, (k : Int) - 1, l, hs, rfl, rfl, by omega, by omega, HD.out, HI.out, HO.out, fun u hu => ?_, ?_⟩, ?_⟩
            · rw [HZ.out u hu]
              by_cases e : u = k
              · subst e; rw [HBC.out]; simp
              · rw [show decide ((u : Int) ≤ (k : Int) - 1) = decide ((u : Int) ≤ (k : Int)) from by simp; omega]
            · rw [HF.out]
              constructor
              · rintro ⟨u, h1, h2, h3⟩; exact ⟨u, h1, by omega, h3⟩
              · rintro ⟨u, h1, h2, h3, h4⟩
                refine ⟨u, h1, ?_, h3, h4⟩
                by_cases e : u = k
                · subst e; rw [HBC.out] at h3; cases h3
                · omega
            · simp [intOf]
          · rw [hbc] at hz0
            have HBC := Lib.hid hbc
            clear hbc
            have hz0' : ((co / 2 ^ k).tmod 2 == 0) = false := hz0
            clear hz0
            cases hbs : ((st / 2 ^ k).tmod 2 == 1)
            · have HBS := Lib.hid (show bitB st k = false from hbs)
              have HHK := Lib.hid (show hs.getD k false = true by rw [HZ.out k hkt, HBC.out]; simp)
              go_wp2_with fail
              refine (came_dep c vn k p B n av cv l wr HM.out HV.out hkt HD.out.mem HD.out.own (HP.out.more HD.out.below) (HD.out.fg HP.out) HD.out.fp HD.out.len (HI.out.depart HV.out hkt (by omega) HHK.out).2).mono ?_
              rintro e u1 ⟨rfl, ho, hg⟩
              have HD := Lib.hid (HD.out.turn ho hg (by rw [doL_len, HD.out.len]))
              clear ho hg hbs x0 x1 x2 x3 x4 x5 x6 x7 x8 x9 x10 x11
              go_wp2_with fail
              refine ⟨⟨lf, (k : Int) - 1, _, hs.set k false, rfl, rfl, by omega, by omega, HD.out, (HI.out.depart HV.out hkt (by omega) HHK.out).1, HO.out.depart HI.out HV.out hkt (by omega), fun u hu => ?_, ?_⟩, ?_⟩
              · rw [getD_set _ _ _ _ _ (by rw [HI.out.len.2]; exact hkt)]
                by_cases e : k = u
                · subst e; rw [if_pos rfl, HBS.out, show decide ((k : Int) ≤ (k : Int) - 1) = false from by simp; omega]; simp
                · rw [if_neg e, HZ.out u hu, show decide ((u : Int) ≤ (k : Int) - 1) = decide ((u : Int) ≤ (k : Int)) from by simp; omega]
              · rw [HF.out]
                constructor
                · rintro ⟨u, h1, h2, h3⟩; exact ⟨u, h1, by omega, h3⟩
                · rintro ⟨u, h1, h2, h3, h4⟩
                  refine ⟨u, h1, ?_, h3, h4⟩
                  by_cases e : u = k
                  · subst e; rw [HBS.out] at h4; cases h4
                  · omega
              · simp [intOf]
            · have HBS := Lib.hid (show bitB st k = true from hbs)
              go_wp2_with fail
              refine ⟨⟨true, (k : Int) - 1, l, hs, rfl, rfl, by omega, by omega, HD.out, HI.out, HO.out, fun u hu => ?_, ?_⟩, ?_⟩
              · rw [HZ.out u hu]
                by_cases e : u = k
                · subst e; rw [HBS.out]; simp
                · rw [show decide ((u : Int) ≤ (k : Int) - 1) = decide ((u : Int) ≤ (k : Int)) from by simp; omega]
              · exact ⟨fun _ => ⟨k, hkt, by omega, HBC.out, HBS.out⟩, fun _ => rfl⟩
              · simp [intOf]
          --]two
        · obtain rfl : j = -1 := by omega
          have HAN := Lib.hid (show anyH c hs = lf by
            rw [Bool.eq_iff_iff, anyH_yes, HF.out]
            constructor
            · rintro ⟨u, h1, h2⟩
              rw [HZ.out u h1, decide_eq_false (show ¬ (u : Int) ≤ -1 by omega)] at h2
              simp at h2
              exact ⟨u, h1, by omega, h2.1, h2.2⟩
            · rintro ⟨u, h1, _, h3, h4⟩
              refine ⟨u, h1, ?_⟩
              rw [HZ.out u h1, h3, h4]; simp)
          have HML := Lib.hid (many_le HM.out)
          have HDR := Lib.hid (show drR c hs = if lf = true then -1 else ((manyN c : Nat) : Int) by unfold drR; rw [HAN.out])
          obtain ⟨F, hF⟩ : ∃ F, F = 4 * manyN c := ⟨_, rfl⟩
          have h4 : IntKind.i64.wrap (4 * ((manyN c : Nat) : Int)) = (F : Int) := by have := HML.out; rw [IntKind.wrap_i64]; omega
          have HFF := Lib.hid hF
          clear hF hj hj1 hj2
          go_wp2_with fail
          refine (drained_any c vn F 16 p B n av cv l hs wr HM.out HV.out HI.out (by omega) (by have := HFF.out; omega) (by have := HFF.out; have := HML.out; omega) HD.out.mem HD.out.own (HP.out.more HD.out.below) (HD.out.fg HP.out) HD.out.fp HD.out.len).mono ?_
          rintro e u1 ⟨rfl, ho, hg⟩
          have HD := Lib.hid (HD.out.turn ho hg HD.out.len)
          clear ho hg x0 x1 x2 x3 x4 x5 x6 x7 x8 x9 x10 x11 h4
          have hx := HD.out.cfg
          unfold cfgL at hx
          have x0 := hx.c 0 rfl
          have x1 := hx.c 1 rfl
          have x2 := hx.c 2 rfl
          have x3 := hx.c 3 rfl
          have x4 := hx.c 4 rfl
          have x5 := hx.c 5 rfl
          have x6 := hx.c 6 rfl
          have x7 := hx.c 7 rfl
          have x8 := hx.c 8 rfl
          have x9 := hx.c 9 rfl
          have x10 := hx.c 10 rfl
          have x11 := hx.c 11 rfl
          clear hx
          obtain ⟨vo, hvo⟩ : ∃ vo, vo = 1 - vn := ⟨_, rfl⟩
          have h5 : IntKind.i64.wrap (1 - (vn : Int)) = (vo : Int) := by have := HV.out; rw [IntKind.wrap_i64]; omega
          have HVO := Lib.hid hvo
          clear hvo
          go_wp2_with fail
          refine (drained_any c vo (manyN c) 0 p B n av cv l (noB c) u1 HM.out (by have := HVO.out; omega) (by rw [HVO.out]; exact HO.out.ind (by rw [HI.out.len.1])) (by omega) (Nat.le_refl _) (by have := HML.out; omega) HD.out.mem HD.out.own (HP.out.more HD.out.below) (HD.out.fg HP.out) HD.out.fp HD.out.len).mono ?_
          rintro e u2 ⟨rfl, ho, hg⟩
          have HD := Lib.hid (HD.out.turn ho hg HD.out.len)
          rw [noB_drR, HDR.out]
          clear ho hg x0 x1 x2 x3 x4 x5 x6 x7 x8 x9 x10 x11 h5
          have hml := HML.out
          clear HDR HAN HFF HML
          generalize manyN c = M at *
          have hneg : ¬ ((M : Int) < 0) := by omega
          cases lf with
          | true =>
            rw [if_pos rfl]
            go_wp2_with fail
            go_ret
            exact ⟨rfl, HD.out.below⟩
          | false =>
            rw [if_neg (by simp)]
            go_wp2_with fail
            go_ret
            exact ⟨rfl, HD.out.below⟩

set_option linter.unusedVariables false in
theorem walk_SignEnds (n0_0 n0_1 n0_2 n0_3 n0_4 n0_5 n0_6 n0_7 n0_8 n0_9 n0_10 n0_11 n1 n2 n3 : Int) (w : World) (b0_0 : IntKind.u8.min ≤ n0_0 ∧ n0_0 ≤ IntKind.u8.max) (b0_1 : IntKind.i64.min ≤ n0_1 ∧ n0_1 ≤ IntKind.i64.max) (b0_2 : IntKind.i64.min ≤ n0_2 ∧ n0_2 ≤ IntKind.i64.max) (b0_3 : IntKind.u8.min ≤ n0_3 ∧ n0_3 ≤ IntKind.u8.max) (b0_4 : IntKind.i64.min ≤ n0_4 ∧ n0_4 ≤ IntKind.i64.max) (b0_5 : IntKind.i64.min ≤ n0_5 ∧ n0_5 ≤ IntKind.i64.max) (b0_6 : IntKind.i64.min ≤ n0_6 ∧ n0_6 ≤ IntKind.i64.max) (b0_7 : IntKind.i64.min ≤ n0_7 ∧ n0_7 ≤ IntKind.i64.max) (b0_8 : IntKind.i64.min ≤ n0_8 ∧ n0_8 ≤ IntKind.i64.max) (b0_9 : IntKind.i64.min ≤ n0_9 ∧ n0_9 ≤ IntKind.i64.max) (b0_10 : IntKind.u64.min ≤ n0_10 ∧ n0_10 ≤ IntKind.u64.max) (b0_11 : IntKind.u64.min ≤ n0_11 ∧ n0_11 ≤ IntKind.u64.max) (b1 : IntKind.i64.min ≤ n1 ∧ n1 ≤ IntKind.i64.max) (b2 : IntKind.u16.min ≤ n2 ∧ n2 ≤ IntKind.u16.max) (b3 : IntKind.u16.min ≤ n3 ∧ n3 ≤ IntKind.u16.max) (hL : Pw w) :
    Calls Tryd.prog 7 #[.agg #[.int .u8 n0_0, .int .i64 n0_1, .int .i64 n0_2, .int .u8 n0_3, .int .i64 n0_4, .int .i64 n0_5, .int .i64 n0_6, .int .i64 n0_7, .int .i64 n0_8, .int .i64 n0_9, .int .u64 n0_10, .int .u64 n0_11], .int .i64 n1, .int .u16 n2, .int .u16 n3] w fun e w' => e = .returned (.bool true) ∧ Below w.heap.size w w' := by
  simp [IntKind.min, IntKind.max, IntKind.signed, IntKind.bits] at b2 b3
  exact ends_walk ⟨n0_0, n0_1, n0_2, n0_3, n0_4, n0_5, n0_6, n0_7, n0_8, n0_9, n0_10, n0_11⟩ n1 n2 n3 w hL b2 b3

end Go.Proofs.YtecjbgddjejjdaaDoor

namespace Go.Proofs.YtecjbgddjejjdaaDoor
open Go.RowKit

theorem drR_same {c : Cfg} {hs gs : List Bool} (h : ∀ t, t < c.shp.thr → hs.getD t false = gs.getD t false) : drR c hs = drR c gs := by
  have e : anyH c hs = anyH c gs := by
    rw [Bool.eq_iff_iff, anyH_yes, anyH_yes]
    constructor
    · rintro ⟨t, h1, h2⟩; exact ⟨t, h1, by rw [← h t h1]; exact h2⟩
    · rintro ⟨t, h1, h2⟩; exact ⟨t, h1, by rw [h t h1]; exact h2⟩
  unfold drR
  rw [e]

set_option maxRecDepth 100000 in
set_option maxHeartbeats 12800000 in
theorem leaves_walk (c : Cfg) (v co tt : Int) (w : World) (hp : Pw w) (hco : 0 ≤ co ∧ co ≤ 65535) :
    Calls Tryd.prog 8 #[.agg #[.int .u8 c.ob, .int .i64 c.inst, .int .i64 c.thr, .int .u8 c.kd, .int .i64 c.str, .int .i64 c.bits, .int .i64 c.cap, .int .i64 c.node, .int .i64 c.bat, .int .i64 c.chk, .int .u64 c.lim, .int .u64 c.most], .int .i64 v, .int .u16 co, .int .i64 tt] w fun e w' => e = .returned (.bool true) ∧ Below w.heap.size w w' := by
  have HP := Lib.hid hp; have HCO := Lib.hid hco
  clear hp hco
  go_enter Tryd.func8, Tryd.ntmps8
  go_wp2_with fail
  have HX := Lib.hid (Box.new w 24 (cfgL c))
  have HB := Lib.hid (newB w (.cells ⟨cfgL c⟩ 24))
  unfold cfgL at *
  generalize w.alloc _ = V at *
  refine (alive21_any V).mono ?_
  rintro e w1 ⟨rfl, hb⟩
  have HB := Lib.hid (keepB hb HB.out); have HX := Lib.hid (HX.out.below hb); clear hb
  have x0 := HX.out.c 0 rfl; have x1 := HX.out.c 1 rfl; have x2 := HX.out.c 2 rfl; have x3 := HX.out.c 3 rfl; have x4 := HX.out.c 4 rfl; have x5 := HX.out.c 5 rfl; have x6 := HX.out.c 6 rfl; have x7 := HX.out.c 7 rfl; have x8 := HX.out.c 8 rfl; have x9 := HX.out.c 9 rfl; have x10 := HX.out.c 10 rfl; have x11 := HX.out.c 11 rfl
  go_wp2_with fail
  by_cases hm : c.May
  case neg =>
    have HM := Lib.hid hm
    clear hm
    refine (sgMany_no c w1 HM.out).mono ?_
    rintro e w2 ⟨rfl, hb⟩
    clear x0 x1 x2 x3 x4 x5 x6 x7 x8 x9 x10 x11
    have HB := Lib.hid (keepB hb HB.out); have HX := Lib.hid (HX.out.below hb); clear hb
    have x0 := HX.out.c 0 rfl; have x1 := HX.out.c 1 rfl; have x2 := HX.out.c 2 rfl; have x3 := HX.out.c 3 rfl; have x4 := HX.out.c 4 rfl; have x5 := HX.out.c 5 rfl; have x6 := HX.out.c 6 rfl; have x7 := HX.out.c 7 rfl; have x8 := HX.out.c 8 rfl; have x9 := HX.out.c 9 rfl; have x10 := HX.out.c 10 rfl; have x11 := HX.out.c 11 rfl
    go_wp2_with fail
    refine (Fresh_any c _ (HP.out.more HB.out)).mono ?_
    rintro e w3 ⟨fa, fc, rfl, hR, hb⟩
    clear x0 x1 x2 x3 x4 x5 x6 x7 x8 x9 x10 x11
    have HB := Lib.hid (keepB hb HB.out); have HX := Lib.hid (HX.out.below hb); clear hb
    clear hR
    go_wp2_with fail
    go_ret
    exact ⟨rfl, HB.out⟩
  have HM := Lib.hid hm
  clear hm
  refine (sgMn_any c w1 HM.out).mono ?_
  rintro e w2 ⟨rfl, hb⟩
  clear x0 x1 x2 x3 x4 x5 x6 x7 x8 x9 x10 x11
  have HB := Lib.hid (keepB hb HB.out); have HX := Lib.hid (HX.out.below hb); clear hb
  have x0 := HX.out.c 0 rfl; have x1 := HX.out.c 1 rfl; have x2 := HX.out.c 2 rfl; have x3 := HX.out.c 3 rfl; have x4 := HX.out.c 4 rfl; have x5 := HX.out.c 5 rfl; have x6 := HX.out.c 6 rfl; have x7 := HX.out.c 7 rfl; have x8 := HX.out.c 8 rfl; have x9 := HX.out.c 9 rfl; have x10 := HX.out.c 10 rfl; have x11 := HX.out.c 11 rfl
  go_wp2_with fail
  refine (Fresh_any c _ (HP.out.more HB.out)).mono ?_
  rintro e w3 ⟨fa, fc, rfl, hR, hb⟩
  have HR := Lib.hid hR
  clear x0 x1 x2 x3 x4 x5 x6 x7 x8 x9 x10 x11
  have HB := Lib.hid (keepB hb HB.out); have HX := Lib.hid (HX.out.below hb); clear hb
  clear hR
  rw [show checkE c = 0 by simp [checkE, HM.out]]
  by_cases hv0 : v < 0
  · go_wp2_with fail
    go_ret
    exact ⟨rfl, HB.out⟩
  by_cases hv1 : 1 < v
  · have hv0' : 0 ≤ v := by omega
    clear hv0
    go_wp2_with fail
    go_ret
    exact ⟨rfl, HB.out⟩
  have hv0' : 0 ≤ v := by omega
  have hv1' : v ≤ 1 := by omega
  clear hv0 hv1
  by_cases ht0 : tt < 0
  · go_wp2_with fail
    go_ret
    exact ⟨rfl, HB.out⟩
  have ht0' : 0 ≤ tt := by omega
  clear ht0
  have x0 := HX.out.c 0 rfl; have x1 := HX.out.c 1 rfl; have x2 := HX.out.c 2 rfl; have x3 := HX.out.c 3 rfl; have x4 := HX.out.c 4 rfl; have x5 := HX.out.c 5 rfl; have x6 := HX.out.c 6 rfl; have x7 := HX.out.c 7 rfl; have x8 := HX.out.c 8 rfl; have x9 := HX.out.c 9 rfl; have x10 := HX.out.c 10 rfl; have x11 := HX.out.c 11 rfl
  by_cases ht1 : c.thr ≤ tt
  · go_wp2_with fail
    go_ret
    exact ⟨rfl, HB.out⟩
  have ht1' : tt < c.thr := by omega
  clear ht1
  obtain ⟨vn, rfl⟩ := Int.eq_ofNat_of_zero_le hv0'
  obtain ⟨tn, rfl⟩ := Int.eq_ofNat_of_zero_le ht0'
  have HV := Lib.hid (show vn < 2 by omega)
  have HT := Lib.hid (thr_pos HM.out)
  have HTN := Lib.hid (show tn < c.shp.thr by have := HT.out; omega)
  have HN := Lib.hid (all_le (May.small HM.out)).1
  have HL := Lib.hid (freshL_len c)
  have hfr : frL c = freshL c := by simp [frL, HM.out]
  have HR := Lib.hid (show Rd w3 fa fc (freshL c) by rw [← hfr]; exact HR.out)
  rw [hfr]
  clear hfr
  go_wp2_with fail
  clear hv0' hv1' ht0' ht1'
  clear x0 x1 x2 x3 x4 x5 x6 x7 x8 x9 x10 x11
  have HSZ := Lib.hid HX.out.lt
  refine (New_any fa fc (freshL c) _ HR.out (by have := HL.out; have := HN.out; omega)).mono ?_
  rintro e w4 ⟨p, mv, rfl, hm, ho, hpp, hwp, hb⟩
  have HX := Lib.hid (HX.out.below hb)
  have HB := Lib.hid (keepB hb HB.out)
  clear hb
  obtain ⟨av, cv, rfl, _, hav⟩ := own_form ho
  have hD : DrW w c p w3.heap.size (freshL c).length av cv [] (freshL c) w4 := ⟨HB.out, HX.out, hm, ho, by simp, fun e => (by have := (World.ownsRow.lt ho _ e).1; have := HSZ.out; omega), hpp, by simp, rfl, HSZ.out⟩
  have HD := Lib.hid hD
  clear hm ho hpp hwp hav hD
  go_wp2_with fail
  clear HX HB HR
  generalize w3.heap.size = B at *
  generalize hn : (freshL c).length = n at *
  have HI0 := Lib.hid (Ind.start HM.out HV.out)
  have HO0 := Lib.hid (Oth.start HM.out HV.out)
  clear hn
  generalize freshL c = l0 at *
  go_loopw [16] (fun i wr => ∃ (k : Nat) (l : List Cel) (hs : List Bool), i = .int .i64 (k : Nat) ∧ k ≤ c.shp.thr ∧ DrW w c p B n av cv [] l wr ∧ Ind c vn l hs k ∧ Oth c vn l ∧ ∀ u, hs.getD u false = (decide (u < k) && (bitB co u && !decide (u = tn)))) (fun i _ => c.shp.thr - (intOf i).toNat)
  case atStart => exact ⟨0, l0, noB c, rfl, Nat.zero_le _, HD.out, HI0.out, HO0.out, fun u => by rw [noB_at]; simp⟩
  case round =>
    clear HD
    obtain ⟨k, l, hs, rfl, hk, hD, hI, hO, hZ⟩ := hrel
    have HD := Lib.hid hD; have HI := Lib.hid hI; have HO := Lib.hid hO; have HZ := Lib.hid hZ
    have hx := hD.cfg
    unfold cfgL at hx
    have x0 := hx.c 0 rfl
    have x1 := hx.c 1 rfl
    have x2 := hx.c 2 rfl
    have x3 := hx.c 3 rfl
    have x4 := hx.c 4 rfl
    have x5 := hx.c 5 rfl
    have x6 := hx.c 6 rfl
    have x7 := hx.c 7 rfl
    have x8 := hx.c 8 rfl
    have x9 := hx.c 9 rfl
    have x10 := hx.c 10 rfl
    have x11 := hx.c 11 rfl
    clear hD hI hO hZ hx
    have hthr : c.shp.thr ≤ 16 := HT.out.2.2
    by_cases hlt : k < c.shp.thr
    · have i2 : (k : Int) < c.thr := by rw [HT.out.1]; omega
      --[one
      have HHZ := Lib.hid (show hs.getD k false = false by rw [HZ.out]; simp)
      by_cases hkt : k = tn
      · have HKT := Lib.hid hkt
        have e1 : ((k : Int) != (tn : Int)) = false := by simp [hkt]
        clear hkt
        go_wp2_with fail
        refine ⟨⟨k + 1, l, hs, congrArg (Value.int .i64) (by omega), by omega, HD.out, HI.out.more (by omega), HO.out, fun u => ?_⟩, ?_⟩
        · rw [HZ.out]
          by_cases e : u = k
          · subst e; rw [HKT.out]; simp
          · rw [show decide (u < k + 1) = decide (u < k) from by simp; omega]
        · simp [intOf]; omega
      have HKT := Lib.hid hkt
      have e1 : ((k : Int) != (tn : Int)) = true := by simp; omega
      clear hkt
      cases hbit : ((co / 2 ^ k).tmod 2 == 1)
      · have HBT := Lib.hid (show bitB co k = false from hbit)
        go_wp2_with fail
        refine ⟨⟨k + 1, l, hs, congrArg (Value.int .i64) (by omega), by omega, HD.out, HI.out.more (by omega), HO.out, fun u => ?_⟩, ?_⟩
        · rw [HZ.out]
          by_cases e : u = k
          · subst e; rw [HBT.out]; simp
          · rw [show decide (u < k + 1) = decide (u < k) from by simp; omega]
        · simp [intOf]; omega
      · have HBT := Lib.hid (show bitB co k = true from hbit)
        go_wp2_with fail
        refine (came_arr c vn k p B n av cv l wr HM.out HV.out hlt HD.out.mem HD.out.own (HP.out.more HD.out.below) (HD.out.fg HP.out) HD.out.fp HD.out.len (HI.out.arrive HV.out hlt (by omega) HHZ.out).2).mono ?_
        rintro e u1 ⟨rfl, ho, hg⟩
        have HD := Lib.hid (HD.out.turn ho hg (by rw [doL_len, HD.out.len]))
        clear ho hg hbit x0 x1 x2 x3 x4 x5 x6 x7 x8 x9 x10 x11
        go_wp2_with fail
        refine ⟨⟨k + 1, _, hs.set k true, congrArg (Value.int .i64) (by omega), by omega, HD.out, (HI.out.arrive HV.out hlt (by omega) HHZ.out).1, HO.out.arrive HI.out HV.out hlt (by omega), fun u => ?_⟩, ?_⟩
        · rw [getD_set _ _ _ _ _ (by rw [HI.out.len.2]; exact hlt), HZ.out]
          by_cases e : k = u
          · subst e; rw [HBT.out, decide_eq_false HKT.out]; simp
          · rw [if_neg e, show decide (u < k + 1) = decide (u < k) from by simp; omega]
        · simp [intOf]; omega
      --]one
    · obtain rfl : k = c.shp.thr := by omega
      have i2 : c.thr ≤ (c.shp.thr : Int) := by rw [HT.out.1]; exact Int.le_refl _
      have HTZ := Lib.hid (show hs.getD tn false = false by rw [HZ.out]; simp)
      have HI := Lib.hid (HI.out.more hthr)
      have HML := Lib.hid (many_le HM.out)
      obtain ⟨F, hF⟩ : ∃ F, F = 3 * manyN c := ⟨_, rfl⟩
      have h4 : IntKind.i64.wrap (3 * ((manyN c : Nat) : Int)) = (F : Int) := by have := HML.out; rw [IntKind.wrap_i64]; omega
      have HFF := Lib.hid (show manyN c ≤ F ∧ F ≤ 1000 by have := HML.out; omega)
      clear hF
      go_wp2_with fail
      refine (drained_any c vn F 16 p B n av cv l hs wr HM.out HV.out HI.out (by omega) HFF.out.1 HFF.out.2 HD.out.mem HD.out.own (HP.out.more HD.out.below) (HD.out.fg HP.out) HD.out.fp HD.out.len).mono ?_
      rintro e u1 ⟨rfl, ho, hg⟩
      have HD := Lib.hid (HD.out.turn ho hg HD.out.len)
      clear ho hg x0 x1 x2 x3 x4 x5 x6 x7 x8 x9 x10 x11 i2
      obtain ⟨hI2, hE2⟩ := HI.out.arrive HV.out HTN.out (by omega) HTZ.out
      have HO2 := Lib.hid (HO.out.arrive HI.out HV.out HTN.out (by omega))
      have HI2 := Lib.hid hI2; have HE2 := Lib.hid hE2
      clear hI2 hE2
      generalize hr0 : drR c hs = r0 at *
      have HR0 := Lib.hid hr0
      clear hr0
      have hx := HD.out.cfg
      unfold cfgL at hx
      have x0 := hx.c 0 rfl
      have x1 := hx.c 1 rfl
      have x2 := hx.c 2 rfl
      have x3 := hx.c 3 rfl
      have x4 := hx.c 4 rfl
      have x5 := hx.c 5 rfl
      have x6 := hx.c 6 rfl
      have x7 := hx.c 7 rfl
      have x8 := hx.c 8 rfl
      have x9 := hx.c 9 rfl
      have x10 := hx.c 10 rfl
      have x11 := hx.c 11 rfl
      clear hx
      go_wp2_with fail
      refine (came_arr c vn tn p B n av cv l u1 HM.out HV.out HTN.out HD.out.mem HD.out.own (HP.out.more HD.out.below) (HD.out.fg HP.out) HD.out.fp HD.out.len HE2.out).mono ?_
      rintro e u2 ⟨rfl, ho, hg⟩
      have HD := Lib.hid (HD.out.turn ho hg (by rw [doL_len, HD.out.len]))
      clear ho hg x0 x1 x2 x3 x4 x5 x6 x7 x8 x9 x10 x11
      have HT2 := Lib.hid (show (hs.set tn true).getD tn false = true by rw [getD_set _ _ _ _ _ (by rw [HI.out.len.2]; exact HTN.out), if_pos rfl])
      have HR2 := Lib.hid (show drR c (hs.set tn true) = -1 by unfold drR; rw [if_pos (anyH_yes.2 ⟨tn, HTN.out, HT2.out⟩)])
      generalize doL l (arrX c vn tn) = l2 at *
      have hx := HD.out.cfg
      unfold cfgL at hx
      have x0 := hx.c 0 rfl
      have x1 := hx.c 1 rfl
      have x2 := hx.c 2 rfl
      have x3 := hx.c 3 rfl
      have x4 := hx.c 4 rfl
      have x5 := hx.c 5 rfl
      have x6 := hx.c 6 rfl
      have x7 := hx.c 7 rfl
      have x8 := hx.c 8 rfl
      have x9 := hx.c 9 rfl
      have x10 := hx.c 10 rfl
      have x11 := hx.c 11 rfl
      clear hx
      go_wp2_with fail
      refine (drained_any c vn F 17 p B n av cv l2 (hs.set tn true) u2 HM.out HV.out HI2.out (by omega) HFF.out.1 HFF.out.2 HD.out.mem HD.out.own (HP.out.more HD.out.below) (HD.out.fg HP.out) HD.out.fp HD.out.len).mono ?_
      rintro e u3 ⟨rfl, ho, hg⟩
      rw [HR2.out]
      have HD := Lib.hid (HD.out.turn ho hg HD.out.len)
      clear ho hg x0 x1 x2 x3 x4 x5 x6 x7 x8 x9 x10 x11
      obtain ⟨hI3, hE3⟩ := HI2.out.depart HV.out HTN.out (by omega) HT2.out
      have HI3 := Lib.hid hI3; have HE3 := Lib.hid hE3
      clear hI3 hE3
      have HR3 := Lib.hid (show drR c ((hs.set tn true).set tn false) = r0 by
        rw [← HR0.out]
        refine drR_same fun t _ => ?_
        rw [List.set_set, getD_set _ _ _ _ _ (by rw [HI.out.len.2]; exact HTN.out)]
        by_cases e : tn = t
        · subst e; rw [if_pos rfl, HTZ.out]
        · rw [if_neg e])
      have hx := HD.out.cfg
      unfold cfgL at hx
      have x0 := hx.c 0 rfl
      have x1 := hx.c 1 rfl
      have x2 := hx.c 2 rfl
      have x3 := hx.c 3 rfl
      have x4 := hx.c 4 rfl
      have x5 := hx.c 5 rfl
      have x6 := hx.c 6 rfl
      have x7 := hx.c 7 rfl
      have x8 := hx.c 8 rfl
      have x9 := hx.c 9 rfl
      have x10 := hx.c 10 rfl
      have x11 := hx.c 11 rfl
      clear hx
      go_wp2_with fail
      refine (came_dep c vn tn p B n av cv l2 u3 HM.out HV.out HTN.out HD.out.mem HD.out.own (HP.out.more HD.out.below) (HD.out.fg HP.out) HD.out.fp HD.out.len HE3.out).mono ?_
      rintro e u4 ⟨rfl, ho, hg⟩
      have HD := Lib.hid (HD.out.turn ho hg (by rw [doL_len, HD.out.len]))
      clear ho hg x0 x1 x2 x3 x4 x5 x6 x7 x8 x9 x10 x11
      generalize doL l2 (depX c vn tn) = l3 at *
      have hx := HD.out.cfg
      unfold cfgL at hx
      have x0 := hx.c 0 rfl
      have x1 := hx.c 1 rfl
      have x2 := hx.c 2 rfl
      have x3 := hx.c 3 rfl
      have x4 := hx.c 4 rfl
      have x5 := hx.c 5 rfl
      have x6 := hx.c 6 rfl
      have x7 := hx.c 7 rfl
      have x8 := hx.c 8 rfl
      have x9 := hx.c 9 rfl
      have x10 := hx.c 10 rfl
      have x11 := hx.c 11 rfl
      clear hx
      go_wp2_with fail
      refine (drained_any c vn F 17 p B n av cv l3 ((hs.set tn true).set tn false) u4 HM.out HV.out HI3.out (by omega) HFF.out.1 HFF.out.2 HD.out.mem HD.out.own (HP.out.more HD.out.below) (HD.out.fg HP.out) HD.out.fp HD.out.len).mono ?_
      rintro e u5 ⟨rfl, ho, hg⟩
      rw [HR3.out]
      have HD := Lib.hid (HD.out.turn ho hg HD.out.len)
      clear ho hg x0 x1 x2 x3 x4 x5 x6 x7 x8 x9 x10 x11 h4
      go_wp2_with fail
      go_ret
      exact ⟨rfl, HD.out.below⟩

set_option linter.unusedVariables false in
theorem walk_SignLeaves (n0_0 n0_1 n0_2 n0_3 n0_4 n0_5 n0_6 n0_7 n0_8 n0_9 n0_10 n0_11 n1 n2 n3 : Int) (w : World) (b0_0 : IntKind.u8.min ≤ n0_0 ∧ n0_0 ≤ IntKind.u8.max) (b0_1 : IntKind.i64.min ≤ n0_1 ∧ n0_1 ≤ IntKind.i64.max) (b0_2 : IntKind.i64.min ≤ n0_2 ∧ n0_2 ≤ IntKind.i64.max) (b0_3 : IntKind.u8.min ≤ n0_3 ∧ n0_3 ≤ IntKind.u8.max) (b0_4 : IntKind.i64.min ≤ n0_4 ∧ n0_4 ≤ IntKind.i64.max) (b0_5 : IntKind.i64.min ≤ n0_5 ∧ n0_5 ≤ IntKind.i64.max) (b0_6 : IntKind.i64.min ≤ n0_6 ∧ n0_6 ≤ IntKind.i64.max) (b0_7 : IntKind.i64.min ≤ n0_7 ∧ n0_7 ≤ IntKind.i64.max) (b0_8 : IntKind.i64.min ≤ n0_8 ∧ n0_8 ≤ IntKind.i64.max) (b0_9 : IntKind.i64.min ≤ n0_9 ∧ n0_9 ≤ IntKind.i64.max) (b0_10 : IntKind.u64.min ≤ n0_10 ∧ n0_10 ≤ IntKind.u64.max) (b0_11 : IntKind.u64.min ≤ n0_11 ∧ n0_11 ≤ IntKind.u64.max) (b1 : IntKind.i64.min ≤ n1 ∧ n1 ≤ IntKind.i64.max) (b2 : IntKind.u16.min ≤ n2 ∧ n2 ≤ IntKind.u16.max) (b3 : IntKind.i64.min ≤ n3 ∧ n3 ≤ IntKind.i64.max) (hL : Pw w) :
    Calls Tryd.prog 8 #[.agg #[.int .u8 n0_0, .int .i64 n0_1, .int .i64 n0_2, .int .u8 n0_3, .int .i64 n0_4, .int .i64 n0_5, .int .i64 n0_6, .int .i64 n0_7, .int .i64 n0_8, .int .i64 n0_9, .int .u64 n0_10, .int .u64 n0_11], .int .i64 n1, .int .u16 n2, .int .i64 n3] w fun e w' => e = .returned (.bool true) ∧ Below w.heap.size w w' := by
  simp [IntKind.min, IntKind.max, IntKind.signed, IntKind.bits] at b2
  exact leaves_walk ⟨n0_0, n0_1, n0_2, n0_3, n0_4, n0_5, n0_6, n0_7, n0_8, n0_9, n0_10, n0_11⟩ n1 n2 n3 w hL b2

end Go.Proofs.YtecjbgddjejjdaaDoor
