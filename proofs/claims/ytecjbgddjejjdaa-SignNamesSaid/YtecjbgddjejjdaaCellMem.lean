/- Contracts of package cell: Do as a whole, slices.Clone, New, Cells. -/
import Derived.Test.YtecjbgddjejjdaaCellDoB
namespace Go.Proofs.Ytecjbgddjejjdaa
open Go.RowKit

def accV (x : Acc) : Value := .agg #[.int .u8 x.k, .int .i64 x.at', .int .u64 x.old.t, .int .u64 x.old.a, .int .u64 x.old.b, .int .u64 x.old.c, .int .u64 x.new.t, .int .u64 x.new.a, .int .u64 x.new.b, .int .u64 x.new.c]
def seenV (s : Cel × Bool) : Value := .agg #[.int .u64 s.1.t, .int .u64 s.1.a, .int .u64 s.1.b, .int .u64 s.1.c, .bool s.2]

theorem do_at {l : List Cel} {x : Acc} (h : x.at' < 0 ∨ (l.length : Int) ≤ x.at') : mayA l.length x.k x.at' = false := by
  cases hm : mayA l.length x.k x.at' with
  | false => rfl
  | true => have := (mayA_iff _ _ _).1 hm; omega
theorem do_kind {l : List Cel} {x : Acc} (h : x.k < 1 ∨ 4 < x.k) : mayA l.length x.k x.at' = false := by
  cases hm : mayA l.length x.k x.at' with
  | false => rfl
  | true => have := (mayA_iff _ _ _).1 hm; omega
theorem doL_no {l : List Cel} {x : Acc} (h : mayA l.length x.k x.at' = false) : doL l x = l ∧ doS l x = (.zero, false) ∧ doE l x = 2 := by
  simp [doL, doS, doE, h]
theorem doL_yes {l : List Cel} {x : Acc} {k : Nat} (hx : x.at' = k) (hk : k < l.length) (h1 : 1 ≤ x.k) (h4 : x.k ≤ 4) :
    doL l x = l.set k (becomes (l.getD k .zero) x.k x.old x.new).1 ∧ doS l x = (l.getD k .zero, (becomes (l.getD k .zero) x.k x.old x.new).2) ∧ doE l x = 0 := by
  have hm : mayA l.length x.k x.at' = true := (mayA_iff _ _ _).2 ⟨h1, h4, by omega, by omega⟩
  unfold doL doS doE
  simp only [if_pos hm]
  rw [hx, Int.toNat_natCast]
  exact ⟨rfl, rfl, trivial⟩
theorem set_self (l : List Cel) (k : Nat) : l.set k (l.getD k .zero) = l := by
  apply List.ext_getElem?
  intro i
  rw [List.getElem?_set]
  split
  · rename_i h; subst h
    split
    · rename_i h; simp [h]
    · rename_i h; rw [List.getElem?_eq_none (by omega)]
  · rfl

/-- What is said behind an access. -/
def DoPost (w : World) (B : Nat) (v : Value) (l : List Cel) (x : Acc) (e : Ending) (w' : World) : Prop :=
  e = .returned (.tuple #[seenV (doS l x), .int .i64 (doE l x)]) ∧ Own w' B v (doL l x) ∧ w.grownBy w' v.ownBlock

end Go.Proofs.Ytecjbgddjejjdaa
