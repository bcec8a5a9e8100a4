/- Plain: of several that would take a cell from what it holds, the first alone does. -/
import Derived.Test.YtmfkipefnacjdaaPlainCell
namespace Go.Proofs.Ytmfkipefnacjdaa

def casA (p : Nat) (o y : Cel) : Acc := ⟨3, p, o, y⟩
def lookA (p : Nat) : Acc := ⟨1, p, .zero, .zero⟩
def casL (p : Nat) (o : Cel) (ns : List Cel) : List Acc := ns.map (casA p o)
def onceL (p : Nat) (o : Cel) (ns : List Cel) : List Acc := casL p o ns ++ [lookA p]

theorem casL_len (p : Nat) (o : Cel) (ns : List Cel) : (casL p o ns).length = ns.length := by simp [casL]
theorem onceL_len (p : Nat) (o : Cel) (ns : List Cel) : (onceL p o ns).length = ns.length + 1 := by simp [onceL, casL]
theorem casL_take (p : Nat) (o : Cel) {ns : List Cel} {k : Nat} {y : Cel} (h : ns[k]? = some y) : casL p o (ns.take (k + 1)) = casL p o (ns.take k) ++ [casA p o y] := by
  unfold casL
  rw [List.take_add_one, h]
  simp
theorem may_at (k : Int) (n p : Nat) (h1 : 1 ≤ k) (h4 : k ≤ 4) (hp : p < n) : mayA n k (p : Int) = true := (mayA_iff _ _ _).2 ⟨h1, h4, by omega, by omega⟩
theorem once_ok {l : List Cel} {p : Nat} (o : Cel) (ns : List Cel) (hp : p < l.length) : runB l (onceL p o ns) = true := by
  unfold runB
  rw [List.all_eq_true]
  intro x hx
  unfold onceL casL at hx
  rcases List.mem_append.1 hx with h | h
  · obtain ⟨y, _, rfl⟩ := List.mem_map.1 h
    exact may_at 3 _ p (by decide) (by decide) hp
  · rw [List.mem_singleton] at h
    subst h
    exact may_at 1 _ p (by decide) (by decide) hp
theorem getD_of {l : List Cel} {p : Nat} {z : Cel} (h : l[p]? = some z) : l.getD ((p : Int)).toNat .zero = z := by
  rw [Int.toNat_natCast, List.getD_eq_getElem?_getD, h]; rfl
theorem do_first {l : List Cel} {p : Nat} {o : Cel} (y : Cel) (h : l[p]? = some o) : doS l (casA p o y) = (o, true) ∧ doL l (casA p o y) = l.set p y := by
  have hp : p < l.length := (List.getElem?_eq_some_iff.1 h).1
  have hm : mayA l.length (casA p o y).k (casA p o y).at' = true := may_at 3 _ p (by decide) (by decide) hp
  have hg : l.getD ((casA p o y).at').toNat .zero = o := getD_of h
  have hb : becomes o (casA p o y).k (casA p o y).old (casA p o y).new = (y, true) := by simp [becomes, casA]
  unfold doS doL
  rw [if_pos hm, if_pos hm, hg, hb]
  exact ⟨rfl, rfl⟩
theorem do_later {l : List Cel} {p : Nat} {o z : Cel} (y : Cel) (h : l[p]? = some z) (hz : z ≠ o) : doS l (casA p o y) = (z, false) ∧ doL l (casA p o y) = l := by
  have hp : p < l.length := (List.getElem?_eq_some_iff.1 h).1
  have hm : mayA l.length (casA p o y).k (casA p o y).at' = true := may_at 3 _ p (by decide) (by decide) hp
  have hg : l.getD ((casA p o y).at').toNat .zero = z := getD_of h
  have hb : becomes z (casA p o y).k (casA p o y).old (casA p o y).new = (z, false) := by simp [becomes, casA, hz]
  unfold doS doL
  rw [if_pos hm, if_pos hm, hg, hb]
  refine ⟨rfl, ?_⟩
  apply List.ext_getElem?
  intro i
  by_cases e : p = i
  · subst e
    show (l.set p z)[p]? = l[p]?
    rw [List.getElem?_set_self hp, h]
  · show (l.set p z)[i]? = l[i]?
    rw [List.getElem?_set_ne e]
theorem do_look {l : List Cel} {p : Nat} {z : Cel} (h : l[p]? = some z) : doS l (lookA p) = (z, true) := by
  have hp : p < l.length := (List.getElem?_eq_some_iff.1 h).1
  have hm : mayA l.length (lookA p).k (lookA p).at' = true := may_at 1 _ p (by decide) (by decide) hp
  have hg : l.getD ((lookA p).at').toNat .zero = z := getD_of h
  have hb : becomes z (lookA p).k (lookA p).old (lookA p).new = (z, true) := by simp [becomes, lookA]
  unfold doS
  rw [if_pos hm, hg, hb]

theorem later {p : Nat} {o z : Cel} (hz : z ≠ o) : ∀ (zs : List Cel) (l : List Cel), l[p]? = some z → runS l (onceL p o zs) = zs.map (fun _ => (z, false)) ++ [(z, true)]
  | [], l, h => by
    show [doS l (lookA p)] = _
    rw [do_look h]; rfl
  | y :: ys, l, h => by
    show doS l (casA p o y) :: runS (doL l (casA p o y)) (onceL p o ys) = _
    rw [(do_later y h hz).1, (do_later y h hz).2, later hz ys l h]
    rfl
theorem once_seen {l : List Cel} {p : Nat} {o y : Cel} (ys : List Cel) (h : l[p]? = some o) (hy : y ≠ o) : runS l (onceL p o (y :: ys)) = (o, true) :: (ys.map (fun _ => (y, false)) ++ [(y, true)]) := by
  have hp : p < l.length := (List.getElem?_eq_some_iff.1 h).1
  show doS l (casA p o y) :: runS (doL l (casA p o y)) (onceL p o ys) = _
  rw [(do_first y h).1, (do_first y h).2, later hy ys (l.set p y) (List.getElem?_set_self hp)]
theorem once_at {l : List Cel} {p : Nat} {o : Cel} {ns : List Cel} (h : l[p]? = some o) (hn : ∀ y, y ∈ ns → y ≠ o) {k : Nat} (hk : k < ns.length) : ∃ s, (runS l (onceL p o ns))[k]? = some s ∧ s.2 = ((k : Int) == 0) := by
  cases ns with
  | nil => simp at hk
  | cons y ys =>
    rw [once_seen ys h (hn y (by simp))]
    cases k with
    | zero => exact ⟨_, rfl, rfl⟩
    | succ j =>
      have hj : j < ys.length := by simpa using hk
      refine ⟨(y, false), ?_, (beq_eq_false_iff_ne.2 (by omega)).symm⟩
      show (ys.map (fun _ => (y, false)) ++ [(y, true)])[j]? = _
      rw [List.getElem?_append_left (by simpa using hj), List.getElem?_map, List.getElem?_eq_getElem hj]
      rfl
theorem once_last {l : List Cel} {p : Nat} {o y : Cel} {ns : List Cel} (h : l[p]? = some o) (hn : ∀ y, y ∈ ns → y ≠ o) (h0 : ns[0]? = some y) : (runS l (onceL p o ns))[ns.length]? = some (y, true) := by
  cases ns with
  | nil => simp at h0
  | cons z ys =>
    obtain rfl : z = y := by simpa using h0
    rw [once_seen ys h (hn z (by simp))]
    simp
theorem once_len (l : List Cel) (p : Nat) (o : Cel) (ns : List Cel) : (runS l (onceL p o ns)).length = ns.length + 1 := by
  rw [runS_len, onceL_len]

end Go.Proofs.Ytmfkipefnacjdaa
