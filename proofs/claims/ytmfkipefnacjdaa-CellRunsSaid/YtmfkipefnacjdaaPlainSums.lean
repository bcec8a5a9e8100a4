/- Plain: adds meet in any order. -/
import Derived.Test.YtmfkipefnacjdaaPlainCell
namespace Go.Proofs.Ytmfkipefnacjdaa

/-- An add of m at a place. -/
def addA (i : Int) (m : Nat) : Acc := ⟨4, i, .zero, ⟨0, m, 0, 0⟩⟩

theorem doL_add (l : List Cel) (i : Int) (m : Nat) : doL l (addA i m) = if mayA l.length 4 i then l.set i.toNat ⟨(l.getD i.toNat .zero).t, ((l.getD i.toNat .zero).a + m) % 18446744073709551616, (l.getD i.toNat .zero).b, (l.getD i.toNat .zero).c⟩ else l := rfl

theorem add_comm (l : List Cel) (i j : Int) (m n : Nat) : doL (doL l (addA i m)) (addA j n) = doL (doL l (addA j n)) (addA i m) := by
  have li := doL_len l (addA i m)
  have lj := doL_len l (addA j n)
  rw [doL_add (doL l (addA i m)) j n, doL_add (doL l (addA j n)) i m, li, lj]
  rw [doL_add l i m, doL_add l j n]
  cases hi : mayA l.length 4 i with
  | false => simp
  | true =>
    cases hj : mayA l.length 4 j with
    | false => simp
    | true =>
      simp only [if_true]
      obtain ⟨_, _, hi0, hi1⟩ := (mayA_iff _ _ _).1 hi
      obtain ⟨_, _, hj0, hj1⟩ := (mayA_iff _ _ _).1 hj
      obtain ⟨p, rfl⟩ := Int.eq_ofNat_of_zero_le hi0
      obtain ⟨q, rfl⟩ := Int.eq_ofNat_of_zero_le hj0
      have hp : p < l.length := by omega
      have hq : q < l.length := by omega
      simp only [Int.toNat_natCast]
      by_cases e : p = q
      · subst e
        simp [hp, Nat.add_right_comm]
      · have e' : q ≠ p := fun h => e h.symm
        simp only [List.getD_eq_getElem?_getD, List.getElem?_set_ne e, List.getElem?_set_ne e']
        rw [List.set_comm _ _ e]

/-- Adds at places. -/
def addsL (is : Nat → Int) (ms : Nat → Nat) (n : Nat) : List Acc := (List.range n).map fun i => addA (is i) (ms i)
def allAdd (xs : List Acc) : Prop := ∀ x ∈ xs, ∃ i m, x = addA i m

theorem run_past (x : Acc) (hx : ∃ i m, x = addA i m) : ∀ (ys : List Acc) (l : List Cel), allAdd ys → runL (doL l x) ys = doL (runL l ys) x
  | [], _, _ => rfl
  | y :: ys, l, h => by
    obtain ⟨i, m, rfl⟩ := hx
    obtain ⟨j, n, hy⟩ := h y (by simp)
    have ih := run_past (addA i m) ⟨i, m, rfl⟩ ys (doL l y) (fun z hz => h z (by simp [hz]))
    show runL (doL (doL l (addA i m)) y) ys = doL (runL (doL l y) ys) (addA i m)
    rw [← ih, hy, add_comm]

theorem run_reverse : ∀ (xs : List Acc) (l : List Cel), allAdd xs → runL l xs.reverse = runL l xs
  | [], _, _ => rfl
  | x :: xs, l, h => by
    rw [List.reverse_cons, runL_snoc, run_reverse xs l (fun z hz => h z (by simp [hz]))]
    exact (run_past x (h x (by simp)) xs l (fun z hz => h z (by simp [hz]))).symm

theorem runB_reverse (xs : List Acc) (l : List Cel) : runB l xs.reverse = runB l xs := by simp [runB]

theorem adds_len (is : Nat → Int) (ms : Nat → Nat) (n : Nat) : (addsL is ms n).length = n := by simp [addsL]
theorem adds_all (is : Nat → Int) (ms : Nat → Nat) (n : Nat) : allAdd (addsL is ms n) := by
  intro x hx
  simp only [addsL, List.mem_map] at hx
  obtain ⟨i, _, rfl⟩ := hx
  exact ⟨_, _, rfl⟩
theorem adds_succ (is : Nat → Int) (ms : Nat → Nat) (n : Nat) : addsL is ms (n + 1) = addsL is ms n ++ [addA (is n) (ms n)] := by simp [addsL, List.range_succ]
/-- From the other end. -/
def backL (is : Nat → Int) (ms : Nat → Nat) (n k : Nat) : List Acc := (List.range k).map fun i => addA (is (n - 1 - i)) (ms (n - 1 - i))
theorem back_succ (is : Nat → Int) (ms : Nat → Nat) (n k : Nat) : backL is ms n (k + 1) = backL is ms n k ++ [addA (is (n - 1 - k)) (ms (n - 1 - k))] := by simp [backL, List.range_succ]
theorem back_len (is : Nat → Int) (ms : Nat → Nat) (n k : Nat) : (backL is ms n k).length = k := by simp [backL]
theorem back_eq (is : Nat → Int) (ms : Nat → Nat) (n : Nat) : backL is ms n n = (addsL is ms n).reverse := by
  apply List.ext_getElem
  · simp [backL, addsL]
  · intro i h1 h2
    simp [backL, addsL, List.getElem_reverse]

end Go.Proofs.Ytmfkipefnacjdaa
