/- Contracts of package cell: Do as a whole, slices.Clone, New, Cells. -/
import Derived.Test.YtecjbgddjejjdaaDoorCellDoB
namespace Go.Proofs.YtecjbgddjejjdaaDoor
open Go.RowKit

def accV (x : Acc) : Value := .agg #[.int .u8 x.k, .int .i64 x.at', .int .u64 x.old.t, .int .u64 x.old.a, .int .u64 x.old.b, .int .u64 x.old.c, .int .u64 x.new.t, .int .u64 x.new.a, .int .u64 x.new.b, .int .u64 x.new.c]
def seenV (s : Cel × Bool) : Value := .agg #[.int .u64 s.1.t, .int .u64 s.1.a, .int .u64 s.1.b, .int .u64 s.1.c, .bool s.2]

theorem do_at {l : List Cel} {x : Acc} (h : x.at' < 0 ∨ (l.length : Int) ≤ x.at') : mayA l.length x.k x.at' = false := by
  cases hm : mayA l.length x.k x.at' with
  | false => rfl
  | true => have := (mayA_iff _ _ _).1 hm; omega
theorem do_kind {l : List Cel} {x : Acc} (h : x.k < 1 ∨ 4 < x.k) : mayA l.length x.k x.at' = false := by
  cases hm : mayA l.length x.k x.at' with
  | false => rfl
  | true => have := (mayA_iff _ _ _).1 hm; omega
theorem doL_no {l : List Cel} {x : Acc} (h : mayA l.length x.k x.at' = false) : doL l x = l ∧ doS l x = (.zero, false) ∧ doE l x = 2 := by
  simp [doL, doS, doE, h]
theorem doL_yes {l : List Cel} {x : Acc} {k : Nat} (hx : x.at' = k) (hk : k < l.length) (h1 : 1 ≤ x.k) (h4 : x.k ≤ 4) :
    doL l x = l.set k (becomes (l.getD k .zero) x.k x.old x.new).1 ∧ doS l x = (l.getD k .zero, (becomes (l.getD k .zero) x.k x.old x.new).2) ∧ doE l x = 0 := by
  have hm : mayA l.length x.k x.at' = true := (mayA_iff _ _ _).2 ⟨h1, h4, by omega, by omega⟩
  unfold doL doS doE
  simp only [if_pos hm]
  rw [hx, Int.toNat_natCast]
  exact ⟨rfl, rfl, trivial⟩
theorem set_self (l : List Cel) (k : Nat) : l.set k (l.getD k .zero) = l := by
  apply List.ext_getElem?
  intro i
  rw [List.getElem?_set]
  split
  · rename_i h; subst h
    split
    · rename_i h; simp [h]
    · rename_i h; rw [List.getElem?_eq_none (by omega)]
  · rfl

/-- What is said behind an access. -/
def DoPost (w : World) (B : Nat) (v : Value) (l : List Cel) (x : Acc) (e : Ending) (w' : World) : Prop :=
  e = .returned (.tuple #[seenV (doS l x), .int .i64 (doE l x)]) ∧ Own w' B v (doL l x) ∧ w.grownBy w' v.ownBlock

theorem Do_any (p cap B : Nat) (a : Option Addr) (l : List Cel) (x : Acc) (w : World) (hm : Box w p [.slice a l.length cap]) (ho : Own w B (.slice a l.length cap) l) (hp : (Value.slice a l.length cap).ownBlock ≠ some p) :
    Calls Tryd.prog 38 #[.pointer (some ⟨p, 0, none⟩), accV x] w (DoPost w B (.slice a l.length cap) l x) := by
  obtain ⟨kd, i, o, z⟩ := x
  by_cases hi : i < 0 ∨ (l.length : Int) ≤ i
  · obtain ⟨h1, h2, h3⟩ := doL_no (l := l) (x := ⟨kd, i, o, z⟩) (do_at hi)
    refine (Do_at p cap B a kd i l o z w hm ho hi).mono ?_
    rintro e w' ⟨rfl, h4, h5⟩
    unfold DoPost
    rw [h1, h2, h3]
    exact ⟨rfl, h4, h5⟩
  · obtain ⟨k, rfl⟩ : ∃ k : Nat, i = k := Int.eq_ofNat_of_zero_le (by omega)
    have hk : k < l.length := by omega
    obtain ⟨g, rfl⟩ : ∃ g, a = some ⟨g, 0, none⟩ := by
      rcases ho.2 with ⟨h, h0⟩ | ⟨g, cap', cur, h, _⟩
      · simp only [Value.slice.injEq] at h; omega
      · simp only [Value.slice.injEq] at h; exact ⟨g, h.1⟩
    have hpg : p ≠ g := fun e => hp (by simp [Value.ownBlock, e])
    by_cases hkd : kd < 1 ∨ 4 < kd
    · obtain ⟨h1, h2, h3⟩ := doL_no (l := l) (x := ⟨kd, k, o, z⟩) (do_kind hkd)
      refine (Do_kind p g k cap B kd l o z w hm ho hk hkd).mono ?_
      rintro e w' ⟨rfl, h4, h5⟩
      unfold DoPost
      rw [h1, h2, h3]
      exact ⟨rfl, h4, h5⟩
    · obtain ⟨h1, h2, h3⟩ := doL_yes (l := l) (x := ⟨kd, k, o, z⟩) rfl hk (show 1 ≤ kd by omega) (show kd ≤ 4 by omega)
      have hc : kd = 1 ∨ kd = 2 ∨ kd = 3 ∨ kd = 4 := by omega
      unfold DoPost
      rw [h1, h2, h3]
      rcases hc with rfl | rfl | rfl | rfl
      · rw [show becomes (l.getD k .zero) 1 o z = (l.getD k .zero, true) from rfl, set_self]
        exact Do_load p g k cap B l o z w hm ho hk
      · rw [show becomes (l.getD k .zero) 2 o z = (z, true) from rfl]
        exact Do_store p g k cap B l o z w hm ho hk hpg
      · by_cases he : l.getD k .zero = o
        · rw [show becomes (l.getD k .zero) 3 o z = (z, true) from by simp only [becomes, if_pos he]; rfl]
          exact Do_swap_yes p g k cap B l o z w hm ho hk hpg he
        · rw [show becomes (l.getD k .zero) 3 o z = (l.getD k .zero, false) from by simp only [becomes, if_neg he]; rfl, set_self]
          exact Do_swap_no p g k cap B l o z w hm ho hk hpg he
      · exact Do_add p g k cap B l o z w hm ho hk hpg

end Go.Proofs.YtecjbgddjejjdaaDoor
