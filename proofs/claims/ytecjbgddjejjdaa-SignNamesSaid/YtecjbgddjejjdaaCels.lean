/- Rows of cells: how they lie, how they are read. -/
import Derived.Test.YtecjbgddjejjdaaKeep
import Derived.Test.YtecjbgddjejjdaaBox
import Derived.Test.YtecjbgddjejjdaaPlainCell
import Derived.WalkKit
import Derived.Deep.RegionHeld3
import Derived.Deep.QuietTactic
import Derived.BigQuiet
import Derived.BigRegion
import Derived.StillTailTactics
import Derived.Maps.AppendAt
import Derived.Deep.AppendLies
import Derived.Laws.AppendOwn
import Derived.Laws.OwnMore
import Derived.Laws.AppendOwnNone
namespace Go.Proofs.Ytecjbgddjejjdaa
open Go.RowKit


/-- The cells of a list of cells. -/
def celsV (l : List Cel) : List Value := l.flatMap fun x => [.int .u64 x.t, .int .u64 x.a, .int .u64 x.b, .int .u64 x.c]
theorem celsV_cons (x : Cel) (l : List Cel) : celsV (x :: l) = .int .u64 x.t :: .int .u64 x.a :: .int .u64 x.b :: .int .u64 x.c :: celsV l := rfl
theorem celsV_app (l m : List Cel) : celsV (l ++ m) = celsV l ++ celsV m := by simp [celsV]
theorem celsV_len (l : List Cel) : (celsV l).length = l.length * 4 := by
  induction l with
  | nil => rfl
  | cons x l ih => rw [celsV_cons]; simp [ih]; omega
theorem celsV_at : ∀ (l : List Cel) (k : Nat) (x : Cel), l[k]? = some x → (celsV l)[k * 4]? = some (.int .u64 x.t) ∧ (celsV l)[k * 4 + 1]? = some (.int .u64 x.a) ∧ (celsV l)[k * 4 + 2]? = some (.int .u64 x.b) ∧ (celsV l)[k * 4 + 3]? = some (.int .u64 x.c)
  | [], k, x, h => by simp at h
  | y :: l, 0, x, h => by
    simp at h
    subst h
    rw [celsV_cons]
    exact ⟨rfl, rfl, rfl, rfl⟩
  | y :: l, k + 1, x, h => by
    have ih := celsV_at l k x (by simpa using h)
    rw [celsV_cons, show (k + 1) * 4 = k * 4 + 4 from by omega]
    exact ih
theorem celsV_set : ∀ (l : List Cel) (k : Nat) (x : Cel), k < l.length → celsV (l.set k x) = ((((celsV l).set (k * 4) (.int .u64 x.t)).set (k * 4 + 1) (.int .u64 x.a)).set (k * 4 + 2) (.int .u64 x.b)).set (k * 4 + 3) (.int .u64 x.c)
  | [], k, x, h => by simp at h
  | y :: l, 0, x, _ => rfl
  | y :: l, k + 1, x, h => by
    have ih := celsV_set l k x (by simpa using h)
    rw [show (k + 1) * 4 = k * 4 + 4 from by omega, celsV_cons]
    show celsV (y :: l.set k x) = _
    rw [celsV_cons, ih]
    rfl
theorem celsV_one (l : List Cel) : ∀ u ∈ celsV l, u.oneCell' = true := by
  intro u hu
  simp only [celsV, List.mem_flatMap] at hu
  obtain ⟨x, _, hx⟩ := hu
  simp at hx
  rcases hx with rfl | rfl | rfl | rfl <;> rfl

theorem cel_at {l : List Cel} {k : Nat} (h : k < l.length) : l[k]? = some (l.getD k .zero) := by simp [h]

/-- A row of cells that the call owns. -/
abbrev Own (W : World) (B : Nat) (v : Value) (l : List Cel) : Prop := W.ownsRow B 29 4 v l.length (celsV l)

theorem own_cells {W : World} {B g cap : Nat} {l : List Cel} (h : Own W B (.slice (some ⟨g, 0, none⟩) l.length cap) l) {k : Nat} (hk : k < l.length) :
    W.cell? ⟨g, k * 4, none⟩ = some (.int .u64 (l.getD k .zero).t) ∧ W.cell? ⟨g, k * 4 + 1, none⟩ = some (.int .u64 (l.getD k .zero).a) ∧ W.cell? ⟨g, k * 4 + 2, none⟩ = some (.int .u64 (l.getD k .zero).b) ∧ W.cell? ⟨g, k * 4 + 3, none⟩ = some (.int .u64 (l.getD k .zero).c) := by
  have := celsV_at l k _ (cel_at hk)
  exact ⟨(h.cellAt _ (by omega)).trans this.1, (h.cellAt _ (by omega)).trans this.2.1, (h.cellAt _ (by omega)).trans this.2.2.1, (h.cellAt _ (by omega)).trans this.2.2.2⟩

theorem own_stored {W : World} {B g cap : Nat} {l : List Cel} (h : Own W B (.slice (some ⟨g, 0, none⟩) l.length cap) l) {k : Nat} (hk : k < l.length) (x : Cel) :
    Own ((((W.setCell ⟨g, k * 4, none⟩ (.int .u64 x.t)).setCell ⟨g, k * 4 + 1, none⟩ (.int .u64 x.a)).setCell ⟨g, k * 4 + 2, none⟩ (.int .u64 x.b)).setCell ⟨g, k * 4 + 3, none⟩ (.int .u64 x.c)) B (.slice (some ⟨g, 0, none⟩) l.length cap) (l.set k x)
    ∧ W.grownBy ((((W.setCell ⟨g, k * 4, none⟩ (.int .u64 x.t)).setCell ⟨g, k * 4 + 1, none⟩ (.int .u64 x.a)).setCell ⟨g, k * 4 + 2, none⟩ (.int .u64 x.b)).setCell ⟨g, k * 4 + 3, none⟩ (.int .u64 x.c)) (some g) := by
  have h0 := World.ownsRow.stored h (k * 4) (.int .u64 x.t)
  have h1 := World.ownsRow.stored h0.1 (k * 4 + 1) (.int .u64 x.a)
  have h2 := World.ownsRow.stored h1.1 (k * 4 + 2) (.int .u64 x.b)
  have h3 := World.ownsRow.stored h2.1 (k * 4 + 3) (.int .u64 x.c)
  refine ⟨?_, ((h0.2.trans h1.2).trans h2.2).trans h3.2⟩
  unfold Own
  rw [celsV_set l k x hk, List.length_set]
  exact h3.1

theorem grown_alloc {A B : World} {row : Option Nat} (h : A.grownBy B row) (o : Obj) : A.grownBy (B.alloc o) row := h.trans (World.grownBy_alloc B o row)
theorem grown_drew {A B : World} {row : Option Nat} (h : A.grownBy B row) : A.grownBy B.drew row := ⟨h.os, h.tape, h.output, h.size, h.block⟩

/-- A row of cells that is read. -/
structure Rd (W : World) (a : Option Addr) (c : Nat) (l : List Cel) : Prop where
  nil : a = none → l = [] ∧ c = 0
  at' : a = none ∨ ∃ b off, a = some ⟨b, off, none⟩ ∧ (l = [] ∨ b < W.heap.size) ∧ ∀ j u, (celsV l)[j]? = some u → W.cell? ⟨b, off + j, none⟩ = some u
theorem Rd.below {W W' : World} {a : Option Addr} {c : Nat} {l : List Cel} (h : Rd W a c l) (hb : Below W.heap.size W W') : Rd W' a c l := by
  refine ⟨h.nil, ?_⟩
  rcases h.at' with h | ⟨b, off, e, hlt, hc⟩
  · exact .inl h
  · refine .inr ⟨b, off, e, hlt.elim .inl (fun h => .inr (by have := hb.size; omega)), fun j u hu => ?_⟩
    exact keepC hb (hc j u hu)
theorem Rd.news {W : World} {a : Option Addr} {c : Nat} {l : List Cel} (h : Rd W a c l) : ∀ A, a = some A → ∀ j u, (celsV l)[j]? = some u → W.cell? (A.add j) = some u := by
  intro A hA j u hu
  rcases h.at' with h | ⟨b, off, e, _, hc⟩
  · rw [h] at hA; cases hA
  · rw [e] at hA; cases hA
    have := hc j u hu
    unfold Addr.add
    by_cases hj : j = 0
    · subst hj; simpa using this
    · simpa [hj] using this
theorem own_form {W : World} {B : Nat} {v : Value} {l : List Cel} (h : Own W B v l) : ∃ a cap, v = .slice a l.length cap ∧ Rd W a cap l ∧ (a = none ∨ ∃ g, a = some ⟨g, 0, none⟩ ∧ B ≤ g ∧ g < W.heap.size) := by
  rcases h.2 with ⟨rfl, h0⟩ | ⟨g, cap, cur, rfl, hB, hh, _⟩
  · obtain rfl : l = [] := List.eq_nil_of_length_eq_zero h0
    exact ⟨none, 0, rfl, ⟨fun _ => ⟨rfl, rfl⟩, .inl rfl⟩, .inl rfl⟩
  · have hlt := (Array.getElem?_eq_some_iff.1 hh).1
    refine ⟨_, cap, rfl, ⟨by simp, .inr ⟨g, 0, rfl, .inr hlt, fun j u hu => ?_⟩⟩, .inr ⟨g, rfl, hB, hlt⟩⟩
    have hj : j < l.length * 4 := by
      have := (List.getElem?_eq_some_iff.1 hu).1
      rwa [celsV_len] at this
    rw [Nat.zero_add, h.cellAt j hj, hu]

theorem infoCell : (Try.prog.info? 29).map (fun i => (i.zero, i.size, i.bytes)) = some (some (.agg #[.int .u64 0, .int .u64 0, .int .u64 0, .int .u64 0]), 4, 32) := by kernel_rfl

theorem Rd.get {W : World} {b off c : Nat} {l : List Cel} (h : Rd W (some ⟨b, off, none⟩) c l) {k : Nat} {y : Cel} (hy : l[k]? = some y) :
    W.cell? ⟨b, off + k * 4, none⟩ = some (.int .u64 y.t) ∧ W.cell? ⟨b, off + k * 4 + 1, none⟩ = some (.int .u64 y.a) ∧ W.cell? ⟨b, off + k * 4 + 2, none⟩ = some (.int .u64 y.b) ∧ W.cell? ⟨b, off + k * 4 + 3, none⟩ = some (.int .u64 y.c) := by
  rcases h.at' with h | ⟨b', off', e, _, hc⟩
  · cases h
  · cases e
    obtain ⟨h0, h1, h2, h3⟩ := celsV_at l k y hy
    refine ⟨hc _ _ h0, ?_, ?_, ?_⟩
    · have := hc _ _ h1; rwa [← Nat.add_assoc] at this
    · have := hc _ _ h2; rwa [← Nat.add_assoc] at this
    · have := hc _ _ h3; rwa [← Nat.add_assoc] at this
theorem Rd.addr {W : World} {a : Option Addr} {c : Nat} {l : List Cel} (h : Rd W a c l) {k : Nat} (hk : k < l.length) : ∃ b off, a = some ⟨b, off, none⟩ := by
  rcases h.at' with h0 | ⟨b, off, e, _⟩
  · have := (h.nil h0).1; subst this; simp at hk
  · exact ⟨b, off, e⟩
theorem Rd.grown {W W' : World} {a : Option Addr} {c : Nat} {l : List Cel} {row : Option Nat} (h : Rd W a c l) (hg : W.grownBy W' row) (hr : ∀ b off, a = some ⟨b, off, none⟩ → row ≠ some b) : Rd W' a c l := by
  refine ⟨h.nil, ?_⟩
  rcases h.at' with h | ⟨b, off, e, hlt, hc⟩
  · exact .inl h
  · refine .inr ⟨b, off, e, hlt.elim .inl (fun h => .inr (by have := hg.size; omega)), fun j u hu => ?_⟩
    exact hg.cell (hc j u hu) (fun e1 => hr b off e e1.symm)


theorem own_below {A B : World} {b : Nat} {e : TypeId} {s : Nat} {v : Value} {n : Nat} {xs : List Value} (h : A.ownsRow b e s v n xs) (hb : Below A.heap.size A B) : B.ownsRow b e s v n xs := by
  refine ⟨h.1, ?_⟩
  rcases h.2 with h2 | ⟨g, cap, cur, hv, hg, hh, r⟩
  · exact .inl h2
  · exact .inr ⟨g, cap, cur, hv, hg, by rw [hb.block g (Array.getElem?_eq_some_iff.1 hh).1]; exact hh, r⟩

end Go.Proofs.Ytecjbgddjejjdaa
