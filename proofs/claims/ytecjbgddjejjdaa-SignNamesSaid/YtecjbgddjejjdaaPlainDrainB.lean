/- Plain: drains of counts. -/
import Derived.Test.YtecjbgddjejjdaaPlainStripe
import Derived.Test.YtecjbgddjejjdaaPlainCount
import Derived.Test.YtecjbgddjejjdaaCellMem
namespace Go.Proofs.Ytecjbgddjejjdaa
set_option linter.unusedVariables false

/-- The first counts' places. -/
def inB (c : Cfg) (v : Nat) : Nat := 3 + 2 * c.shp.thr + v * c.shp.str
def outB (c : Cfg) (v : Nat) : Nat := 3 + 2 * c.shp.thr + 2 * c.shp.str + v * c.shp.str
theorem cnt_lt {c : Cfg} (h : c.Strs) {v s : Nat} (hv : v < 2) (hs : s < c.shp.str) : inB c v + s < 3 + 2 * c.shp.thr + 2 * c.shp.str ∧ 3 + 2 * c.shp.thr ≤ inB c v + s ∧ 3 + 2 * c.shp.thr + 2 * c.shp.str ≤ outB c v + s ∧ outB c v + s < aheadN c.shp ∧ outB c v + s < allN c.shp ∧ inB c v + s < allN c.shp := by
  have hsl := h.slots
  unfold inB outB allN aheadN
  rw [hsl]
  have : v = 0 ∨ v = 1 := by omega
  rcases this with rfl | rfl <;> simp <;> omega
theorem inB_at {c : Cfg} (h : c.Strs) {v s : Nat} (hv : v < 2) (hs : (s : Int) < c.str) : atV c 7 v s = (inB c v + s : Nat) := by
  rw [in_at h (v := (v : Int)) (s := (s : Int)) ⟨by omega, by omega⟩ ⟨by omega, hs⟩]
  simp [inB]
theorem outB_at {c : Cfg} (h : c.Strs) {v s : Nat} (hv : v < 2) (hs : (s : Int) < c.str) : atV c 8 v s = (outB c v + s : Nat) := by
  rw [out_at h (v := (v : Int)) (s := (s : Int)) ⟨by omega, by omega⟩ ⟨by omega, hs⟩]
  simp [outB]

def inN (c : Cfg) (v : Nat) (l : List Cel) (s : Nat) : Nat := (l.getD (inB c v + s) .zero).a
def outN (c : Cfg) (v : Nat) (l : List Cel) (s : Nat) : Nat := (l.getD (outB c v + s) .zero).a
def herF (hs : List Bool) (m s : Nat) (t : Nat) : Bool := hs.getD t false && decide (t % m = s)
/-- One more, of a cell. -/
def moreC (x : Cel) : Cel := ⟨x.t, (x.a + 1) % 18446744073709551616, x.b, x.c⟩
theorem more_a (x : Cel) (h : x.a ≤ 1000000) : (moreC x).a = x.a + 1 := by
  unfold moreC
  exact Nat.mod_eq_of_lt (by omega)

/-- Who is there, and who is owed; no count is beyond n. -/
structure StI (c : Cfg) (v : Nat) (l : List Cel) (hs os : List Bool) (n : Nat) : Prop where
  len : l.length = allN c.shp
  hl : hs.length = c.shp.thr
  ol : os.length = c.shp.thr
  mem : ∀ s, s < c.shp.str → inN c v l s = outN c v l s + cntF (herF hs c.shp.str s) c.shp.thr
  bd : ∀ s, s < c.shp.str → inN c v l s ≤ n
  ow : ∀ t, os.getD t false = true → hs.getD t false = true

theorem her_set {hs : List Bool} {m s t u : Nat} {b : Bool} (ht : t < hs.length) : herF (hs.set t b) m s u = if t = u then (b && decide (u % m = s)) else herF hs m s u := by
  unfold herF
  rw [getD_set _ _ _ _ _ ht]
  split <;> rfl
theorem cnt_arrive {hs : List Bool} {m s t n : Nat} (hn : hs.length = n) (ht : t < n) (hf : hs.getD t false = false) : cntF (herF (hs.set t true) m s) n = cntF (herF hs m s) n + (if t % m = s then 1 else 0) := by
  by_cases e : t % m = s
  · rw [if_pos e]
    refine cntF_up n ht (by unfold herF; rw [hf]; rfl) ?_ fun i _ hne => ?_
    · rw [her_set (by omega), if_pos rfl]; simp [e]
    · rw [her_set (by omega), if_neg (fun x => hne x.symm)]
  · rw [if_neg e, Nat.add_zero]
    refine cntF_eq n fun i _ => ?_
    rw [her_set (by omega)]
    split
    · rename_i x; subst x; simp [herF, e]
    · rfl
theorem cnt_depart {hs : List Bool} {m s t n : Nat} (hn : hs.length = n) (ht : t < n) (hf : hs.getD t false = true) : cntF (herF (hs.set t false) m s) n + (if t % m = s then 1 else 0) = cntF (herF hs m s) n := by
  by_cases e : t % m = s
  · rw [if_pos e]
    refine (cntF_up n ht ?_ (by unfold herF; rw [hf, e]; simp) fun i _ hne => ?_).symm
    · rw [her_set (by omega), if_pos rfl]; simp
    · rw [her_set (by omega), if_neg (fun x => hne x.symm)]
  · rw [if_neg e, Nat.add_zero]
    refine cntF_eq n fun i _ => ?_
    rw [her_set (by omega)]
    split
    · rename_i x; subst x; simp [herF, e]
    · rfl

theorem in_other {c : Cfg} {v s u : Nat} (hv : v < 2) (hs : s < c.shp.str) (hu : u < c.shp.str) : inB c v + s ≠ inB c (1 - v) + u ∧ outB c v + s ≠ outB c (1 - v) + u := by
  unfold inB outB
  have : v = 0 ∨ v = 1 := by omega
  rcases this with rfl | rfl <;> simp <;> omega

theorem in_more {c : Cfg} {v : Nat} {l : List Cel} {s u : Nat} (hc : c.Strs) (hl : l.length = allN c.shp) (hv : v < 2) (hs : s < c.shp.str) (hu : u < c.shp.str) (hb : inN c v l s ≤ 1000000) :
    inN c v (l.set (inB c v + s) (moreC (l.getD (inB c v + s) .zero))) u = inN c v l u + (if s = u then 1 else 0)
    ∧ outN c v (l.set (inB c v + s) (moreC (l.getD (inB c v + s) .zero))) u = outN c v l u
    ∧ inN c (1 - v) (l.set (inB c v + s) (moreC (l.getD (inB c v + s) .zero))) u = inN c (1 - v) l u
    ∧ outN c (1 - v) (l.set (inB c v + s) (moreC (l.getD (inB c v + s) .zero))) u = outN c (1 - v) l u := by
  obtain ⟨a1, a2, _, _, _, a6⟩ := cnt_lt hc hv hs
  obtain ⟨_, _, b3, _, _, _⟩ := cnt_lt hc hv hu
  obtain ⟨_, _, d3, _, _, _⟩ := cnt_lt hc (v := 1 - v) (by omega) hu
  obtain ⟨o1, _⟩ := in_other hv hs hu
  simp only [inN, outN]
  rw [getD_set _ _ _ _ _ (by omega), getD_set _ _ _ _ _ (by omega), getD_set _ _ _ _ _ (by omega), getD_set _ _ _ _ _ (by omega)]
  rw [if_neg (by omega : ¬ inB c v + s = outB c v + u), if_neg o1, if_neg (by omega : ¬ inB c v + s = outB c (1 - v) + u)]
  refine ⟨?_, rfl, rfl, rfl⟩
  by_cases e : s = u
  · subst e; rw [if_pos rfl, if_pos rfl]; exact more_a _ hb
  · rw [if_neg (by omega), if_neg e, Nat.add_zero]
theorem out_more {c : Cfg} {v : Nat} {l : List Cel} {s u : Nat} (hc : c.Strs) (hl : l.length = allN c.shp) (hv : v < 2) (hs : s < c.shp.str) (hu : u < c.shp.str) (hb : outN c v l s ≤ 1000000) :
    outN c v (l.set (outB c v + s) (moreC (l.getD (outB c v + s) .zero))) u = outN c v l u + (if s = u then 1 else 0)
    ∧ inN c v (l.set (outB c v + s) (moreC (l.getD (outB c v + s) .zero))) u = inN c v l u
    ∧ inN c (1 - v) (l.set (outB c v + s) (moreC (l.getD (outB c v + s) .zero))) u = inN c (1 - v) l u
    ∧ outN c (1 - v) (l.set (outB c v + s) (moreC (l.getD (outB c v + s) .zero))) u = outN c (1 - v) l u := by
  obtain ⟨_, _, a3, a4, a5, _⟩ := cnt_lt hc hv hs
  obtain ⟨b1, _, _, _, _, _⟩ := cnt_lt hc hv hu
  obtain ⟨d1, _, _, _, _, _⟩ := cnt_lt hc (v := 1 - v) (by omega) hu
  obtain ⟨_, o2⟩ := in_other hv hs hu
  simp only [inN, outN]
  rw [getD_set _ _ _ _ _ (by omega), getD_set _ _ _ _ _ (by omega), getD_set _ _ _ _ _ (by omega), getD_set _ _ _ _ _ (by omega)]
  rw [if_neg (by omega : ¬ outB c v + s = inB c v + u), if_neg o2, if_neg (by omega : ¬ outB c v + s = inB c (1 - v) + u)]
  refine ⟨?_, rfl, rfl, rfl⟩
  by_cases e : s = u
  · subst e; rw [if_pos rfl, if_pos rfl]; exact more_a _ hb
  · rw [if_neg (by omega), if_neg e, Nat.add_zero]

theorem StI.str_pos {c : Cfg} (hc : c.Strs) : 1 ≤ c.shp.str ∧ c.shp.str ≤ 4 := by
  have := hc.str
  have e : c.shp.str = c.str.toNat := rfl
  omega
theorem StI.arrive {c : Cfg} {v : Nat} {l : List Cel} {hs os : List Bool} {n t : Nat} (h : StI c v l hs os n) (hc : c.Strs) (hv : v < 2) (ht : t < c.shp.thr) (hn : n ≤ 1000000) (hf : hs.getD t false = false) :
    StI c v (l.set (inB c v + t % c.shp.str) (moreC (l.getD (inB c v + t % c.shp.str) .zero))) (hs.set t true) os (n + 1) := by
  have hp := (StI.str_pos hc).1
  have hm : t % c.shp.str < c.shp.str := Nat.mod_lt _ (by omega)
  have hb := h.bd _ hm
  have key := fun u (hu : u < c.shp.str) => in_more (l := l) hc h.len hv hm hu (by omega)
  refine ⟨by simp [h.len], by simp [h.hl], h.ol, fun s hs => ?_, fun s hs => ?_, fun u hu => ?_⟩
  · obtain ⟨k1, k2, _, _⟩ := key s hs
    rw [k1, k2, cnt_arrive h.hl ht hf, h.mem s hs]
    omega
  · obtain ⟨k1, _, _, _⟩ := key s hs
    have := h.bd s hs
    rw [k1]
    split <;> omega
  · rw [getD_set _ _ _ _ _ (by rw [h.hl]; exact ht)]
    split
    · rfl
    · exact h.ow u hu
theorem StI.both {c : Cfg} {v : Nat} {l : List Cel} {hs os : List Bool} {n t : Nat} (h : StI c v l hs os n) (hc : c.Strs) (hv : v < 2) (ht : t < c.shp.thr) (hn : n ≤ 1000000) (hf : hs.getD t false = false) :
    StI c v (l.set (inB c v + t % c.shp.str) (moreC (l.getD (inB c v + t % c.shp.str) .zero))) (hs.set t true) (os.set t true) (n + 1) := by
  have h' := h.arrive hc hv ht hn hf
  refine ⟨h'.len, h'.hl, by simp [h.ol], h'.mem, h'.bd, fun u hu => ?_⟩
  rw [getD_set _ _ _ _ _ (by rw [h.hl]; exact ht)]
  rw [getD_set _ _ _ _ _ (by rw [h.ol]; exact ht)] at hu
  split at hu
  · rename_i e; rw [if_pos e]
  · rename_i e; rw [if_neg e]; exact h.ow u hu
theorem StI.le {c : Cfg} {v : Nat} {l : List Cel} {hs os : List Bool} {n : Nat} (h : StI c v l hs os n) {s : Nat} (hs : s < c.shp.str) : outN c v l s ≤ inN c v l s := by
  have := h.mem s hs
  omega
theorem StI.depart {c : Cfg} {v : Nat} {l : List Cel} {hs os : List Bool} {n t : Nat} (h : StI c v l hs os n) (hc : c.Strs) (hv : v < 2) (ht : t < c.shp.thr) (hn : n ≤ 1000000) (hf : hs.getD t false = true) :
    StI c v (l.set (outB c v + t % c.shp.str) (moreC (l.getD (outB c v + t % c.shp.str) .zero))) (hs.set t false) (os.set t false) n := by
  have hp := (StI.str_pos hc).1
  have hm : t % c.shp.str < c.shp.str := Nat.mod_lt _ (by omega)
  have hb := h.bd _ hm
  have hle := h.le hm
  have key := fun u (hu : u < c.shp.str) => out_more (l := l) hc h.len hv hm hu (by omega)
  refine ⟨by simp [h.len], by simp [h.hl], by simp [h.ol], fun s hs => ?_, fun s hs => ?_, fun u hu => ?_⟩
  · obtain ⟨k1, k2, _, _⟩ := key s hs
    have := cnt_depart (m := c.shp.str) (s := s) h.hl ht hf
    have := h.mem s hs
    rw [k1, k2]
    omega
  · obtain ⟨_, k2, _, _⟩ := key s hs
    rw [k2]; exact h.bd s hs
  · rw [getD_set _ _ _ _ _ (by rw [h.hl]; exact ht)]
    rw [getD_set _ _ _ _ _ (by rw [h.ol]; exact ht)] at hu
    split at hu
    · cases hu
    · rename_i e; rw [if_neg e]; exact h.ow u hu
theorem StI.more {c : Cfg} {v : Nat} {l : List Cel} {hs os : List Bool} {n m : Nat} (h : StI c v l hs os n) (hm : n ≤ m) : StI c v l hs os m :=
  ⟨h.len, h.hl, h.ol, h.mem, fun s hs => Nat.le_trans (h.bd s hs) hm, h.ow⟩
/-- Nobody in the other version. -/
def OthS (c : Cfg) (v : Nat) (l : List Cel) : Prop := ∀ s, s < c.shp.str → inN c (1 - v) l s = 0 ∧ outN c (1 - v) l s = 0
theorem OthS.arrive {c : Cfg} {v : Nat} {l : List Cel} {hs os : List Bool} {n t : Nat} (o : OthS c v l) (h : StI c v l hs os n) (hc : c.Strs) (hv : v < 2) (hn : n ≤ 1000000) : OthS c v (l.set (inB c v + t % c.shp.str) (moreC (l.getD (inB c v + t % c.shp.str) .zero))) := by
  intro s hs
  have hp := (StI.str_pos hc).1
  have hm : t % c.shp.str < c.shp.str := Nat.mod_lt _ (by omega)
  have hb := h.bd _ hm
  obtain ⟨_, _, k3, k4⟩ := in_more (l := l) hc h.len hv hm hs (by omega)
  rw [k3, k4]; exact o s hs
theorem OthS.depart {c : Cfg} {v : Nat} {l : List Cel} {hs os : List Bool} {n t : Nat} (o : OthS c v l) (h : StI c v l hs os n) (hc : c.Strs) (hv : v < 2) (hn : n ≤ 1000000) : OthS c v (l.set (outB c v + t % c.shp.str) (moreC (l.getD (outB c v + t % c.shp.str) .zero))) := by
  intro s hs
  have hp := (StI.str_pos hc).1
  have hm : t % c.shp.str < c.shp.str := Nat.mod_lt _ (by omega)
  have hb := h.bd _ hm
  have hle := h.le hm
  obtain ⟨_, _, k3, k4⟩ := out_more (l := l) hc h.len hv hm hs (by omega)
  rw [k3, k4]; exact o s hs
theorem rep_none (n t : Nat) : (List.replicate n false).getD t false = false := by
  simp only [List.getD_eq_getElem?_getD, List.getElem?_replicate]
  split <;> rfl
theorem OthS.st {c : Cfg} {v : Nat} {l : List Cel} (h : OthS c v l) (hl : l.length = allN c.shp) : StI c (1 - v) l (List.replicate c.shp.thr false) (List.replicate c.shp.thr false) 0 := by
  refine ⟨hl, by simp, by simp, fun s hs => ?_, fun s hs => ?_, fun t ht => ?_⟩
  · rw [(h s hs).1, (h s hs).2, cntF_zero _ (fun i _ => by simp only [herF, rep_none]; rfl)]
  · rw [(h s hs).1]; exact Nat.le_refl _
  · rw [rep_none] at ht; cases ht
/-- Nobody there: the sums are the same; somebody there: they are not. -/
theorem StI.none {c : Cfg} {v : Nat} {l : List Cel} {hs os : List Bool} {n : Nat} (h : StI c v l hs os n) (hn : ∀ t, t < c.shp.thr → hs.getD t false = false) {s : Nat} (hs' : s < c.shp.str) : inN c v l s = outN c v l s := by
  rw [h.mem s hs', cntF_zero _ (fun i hi => by unfold herF; rw [hn i hi]; rfl), Nat.add_zero]
theorem StI.some {c : Cfg} {v : Nat} {l : List Cel} {hs os : List Bool} {n t : Nat} (h : StI c v l hs os n) (hc : c.Strs) (ht : t < c.shp.thr) (hf : hs.getD t false = true) : sumF (outN c v l) c.shp.str < sumF (inN c v l) c.shp.str := by
  have hp := (StI.str_pos hc).1
  have hm : t % c.shp.str < c.shp.str := Nat.mod_lt _ (by omega)
  refine sumF_lt _ (fun i hi => h.le hi) ⟨_, hm, ?_⟩
  have := h.mem _ hm
  have := cntF_pos (f := herF hs c.shp.str (t % c.shp.str)) c.shp.thr ht (by unfold herF; rw [hf]; simp)
  omega

end Go.Proofs.Ytecjbgddjejjdaa
