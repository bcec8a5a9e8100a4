/- Plain: no count goes beyond Most and Threads. -/
import Derived.Test.YtecjbgddjejjdaaPlainDrainB
namespace Go.Proofs.Ytecjbgddjejjdaa
set_option linter.unusedVariables false

/-- Who is there, who comes no more, and the counts' bound. -/
structure BdI (c : Cfg) (v : Nat) (l : List Cel) (hs out : List Bool) (n : Nat) : Prop where
  st : StI c v l hs (List.replicate c.shp.thr false) n
  ot : out.length = c.shp.thr
  bd : ∀ s, s < c.shp.str → inN c v l s ≤ c.most.toNat + cntF (herF out c.shp.str s) c.shp.thr

theorem rep_set (n t : Nat) : (List.replicate n false).set t false = List.replicate n false := by
  apply List.ext_getElem?
  intro i
  rw [List.getElem?_set]
  split
  · rename_i h; subst h
    simp only [List.length_replicate, List.getElem?_replicate]
  · rfl
theorem set_same (l : List Bool) (t : Nat) (i : Nat) : (l.set t (l.getD t false)).getD i false = l.getD i false := by
  rcases Nat.lt_or_ge t l.length with h | h
  · rw [getD_set _ _ _ _ _ h]
    split
    · rename_i e; rw [e]
    · rfl
  · rw [List.set_eq_of_length_le h]
theorem BdI.arrive {c : Cfg} {v : Nat} {l : List Cel} {hs out : List Bool} {n t : Nat} (h : BdI c v l hs out n) (hc : c.Strs) (hv : v < 2) (ht : t < c.shp.thr) (hn : n ≤ 1000000) (hf : hs.getD t false = false) (ho : out.getD t false = false) {fl : Bool} (hfl : fl = decide (c.most ≤ ((inN c v l (t % c.shp.str) : Nat) : Int))) :
    BdI c v (l.set (inB c v + t % c.shp.str) (moreC (l.getD (inB c v + t % c.shp.str) .zero))) (hs.set t true) (out.set t fl) (n + 1) := by
  have hp := (StI.str_pos hc).1
  have hm : t % c.shp.str < c.shp.str := Nat.mod_lt _ (by omega)
  have hb := h.st.bd _ hm
  refine ⟨h.st.arrive hc hv ht hn hf, by simp [h.ot], fun s hs => ?_⟩
  obtain ⟨k1, _⟩ := in_more (l := l) hc h.st.len hv hm hs (by omega)
  have h0 := h.bd s hs
  rw [k1]
  cases hfv : fl with
  | true =>
    rw [cnt_arrive h.ot ht ho]
    omega
  | false =>
    have e : cntF (herF (out.set t false) c.shp.str s) c.shp.thr = cntF (herF out c.shp.str s) c.shp.thr := by
      refine cntF_eq _ fun i _ => ?_
      have := set_same out t i
      rw [ho] at this
      unfold herF
      rw [this]
    rw [e]
    rw [hfv] at hfl
    have h1 : ¬ (c.most ≤ ((inN c v l (t % c.shp.str) : Nat) : Int)) := of_decide_eq_false hfl.symm
    by_cases e2 : t % c.shp.str = s
    · rw [if_pos e2]
      rw [e2] at h1
      omega
    · rw [if_neg e2]; omega
theorem BdI.depart {c : Cfg} {v : Nat} {l : List Cel} {hs out : List Bool} {n t : Nat} (h : BdI c v l hs out n) (hc : c.Strs) (hv : v < 2) (ht : t < c.shp.thr) (hn : n ≤ 1000000) (hf : hs.getD t false = true) :
    BdI c v (l.set (outB c v + t % c.shp.str) (moreC (l.getD (outB c v + t % c.shp.str) .zero))) (hs.set t false) (out.set t (out.getD t false)) n := by
  have hp := (StI.str_pos hc).1
  have hm : t % c.shp.str < c.shp.str := Nat.mod_lt _ (by omega)
  have hb := h.st.bd _ hm
  have hle := h.st.le hm
  have hst := h.st.depart hc hv ht hn hf
  rw [rep_set] at hst
  refine ⟨hst, by simp [h.ot], fun s hs => ?_⟩
  obtain ⟨_, k2, _⟩ := out_more (l := l) hc h.st.len hv hm hs (by omega)
  rw [k2]
  have e : cntF (herF (out.set t (out.getD t false)) c.shp.str s) c.shp.thr = cntF (herF out c.shp.str s) c.shp.thr := by
    refine cntF_eq _ fun i _ => ?_
    unfold herF
    rw [set_same]
  rw [e]
  exact h.bd s hs
theorem BdI.more {c : Cfg} {v : Nat} {l : List Cel} {hs out : List Bool} {n m : Nat} (h : BdI c v l hs out n) (hm : n ≤ m) : BdI c v l hs out m := ⟨h.st.more hm, h.ot, h.bd⟩
theorem BdI.fin {c : Cfg} {v : Nat} {l : List Cel} {hs out : List Bool} {n s : Nat} (h : BdI c v l hs out n) (hs' : s < c.shp.str) : inN c v l s ≤ c.most.toNat + c.shp.thr ∧ outN c v l s ≤ inN c v l s := by
  have h1 := h.bd s hs'
  have h2 := cntF_le (herF out c.shp.str s) c.shp.thr
  exact ⟨by omega, h.st.le hs'⟩

end Go.Proofs.Ytecjbgddjejjdaa
