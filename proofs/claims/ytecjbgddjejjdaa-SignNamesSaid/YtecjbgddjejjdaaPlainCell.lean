/- Plain: cells and accesses, and what an access does. -/
import Derived.ProofKit
namespace Go.Proofs.Ytecjbgddjejjdaa
open Go.RowKit

/-- A cell. -/
structure Cel where
  t : Nat
  a : Nat
  b : Nat
  c : Nat
deriving DecidableEq

def Cel.zero : Cel := ⟨0, 0, 0, 0⟩
def Cel.ok (x : Cel) : Prop := x.t < 18446744073709551616 ∧ x.a < 18446744073709551616 ∧ x.b < 18446744073709551616 ∧ x.c < 18446744073709551616

/-- An access. -/
structure Acc where
  k : Int
  at' : Int
  old : Cel
  new : Cel

def Acc.ok (x : Acc) : Prop := -9223372036854775808 ≤ x.at' ∧ x.at' ≤ 9223372036854775807 ∧ x.new.ok

def sameB (x y : Cel) : Bool := decide (x.t = y.t) && decide (x.a = y.a) && decide (x.b = y.b) && decide (x.c = y.c)
theorem sameB_iff (x y : Cel) : sameB x y = true ↔ x = y := by
  cases x; cases y; simp [sameB, and_assoc]
theorem sameB_self (x : Cel) : sameB x x = true := (sameB_iff x x).2 rfl

/-- What an access makes of a cell, and whether it is done. -/
def becomes (w : Cel) (k : Int) (old new : Cel) : Cel × Bool :=
  if k = 2 then (new, true)
  else if k = 3 then (if w = old then (new, true) else (w, false))
  else if k = 4 then (⟨w.t, (w.a + new.a) % 18446744073709551616, w.b, w.c⟩, true)
  else (w, true)

def mayA (n : Nat) (k at' : Int) : Bool := decide (1 ≤ k) && decide (k ≤ 4) && decide (0 ≤ at') && decide (at' < n)

theorem mayA_iff (n : Nat) (k i : Int) : mayA n k i = true ↔ 1 ≤ k ∧ k ≤ 4 ∧ 0 ≤ i ∧ i < n := by
  simp [mayA, and_assoc]

/-- Do: the cells behind it. -/
def doL (l : List Cel) (x : Acc) : List Cel := if mayA l.length x.k x.at' then l.set x.at'.toNat (becomes (l.getD x.at'.toNat .zero) x.k x.old x.new).1 else l
/-- What was seen. -/
def doS (l : List Cel) (x : Acc) : Cel × Bool := if mayA l.length x.k x.at' then (l.getD x.at'.toNat .zero, (becomes (l.getD x.at'.toNat .zero) x.k x.old x.new).2) else (.zero, false)
def doE (l : List Cel) (x : Acc) : Int := if mayA l.length x.k x.at' then 0 else 2

theorem doL_len (l : List Cel) (x : Acc) : (doL l x).length = l.length := by
  unfold doL; split <;> simp

/-- The cells behind accesses, and what was seen. -/
def runL (l : List Cel) (xs : List Acc) : List Cel := xs.foldl doL l
def runS : List Cel → List Acc → List (Cel × Bool)
  | _, [] => []
  | l, x :: xs => doS l x :: runS (doL l x) xs
def runB (l : List Cel) (xs : List Acc) : Bool := xs.all fun x => mayA l.length x.k x.at'

theorem runL_snoc (l : List Cel) (xs : List Acc) (x : Acc) : runL l (xs ++ [x]) = doL (runL l xs) x := by simp [runL]
theorem runL_len : ∀ (xs : List Acc) (l : List Cel), (runL l xs).length = l.length
  | [], _ => rfl
  | x :: xs, l => by
    show (runL (doL l x) xs).length = _
    rw [runL_len xs, doL_len]
theorem runS_snoc (xs : List Acc) (x : Acc) : ∀ l : List Cel, runS l (xs ++ [x]) = runS l xs ++ [doS (runL l xs) x] := by
  induction xs with
  | nil => intro l; rfl
  | cons y ys ih => intro l; simp [runS, ih, runL]
theorem runS_len (xs : List Acc) : ∀ l : List Cel, (runS l xs).length = xs.length := by
  induction xs with
  | nil => intro l; rfl
  | cons y ys ih => intro l; simp [runS, ih]

end Go.Proofs.Ytecjbgddjejjdaa
