/- Contract of (*Mem).Do. -/
import Derived.Test.YtecjbgddjejjdaaCell
namespace Go.Proofs.Ytecjbgddjejjdaa
open Go.RowKit

/-- The block of an answer, stored anew. -/
theorem seen_set {W : World} {h : Nat} (hr : Box W h [.int .u64 0, .int .u64 0, .int .u64 0, .int .u64 0, .bool false]) (v0 v1 v2 v3 v4 : Value) :
    Box (((((W.setCell ⟨h, 0, none⟩ v0).setCell ⟨h, 1, none⟩ v1).setCell ⟨h, 2, none⟩ v2).setCell ⟨h, 3, none⟩ v3).setCell ⟨h, 4, none⟩ v4) h [v0, v1, v2, v3, v4] :=
  (((((hr.set 0 _).set 1 _).set 2 _).set 3 _).set 4 _).as rfl
theorem grown_new {A B : World} {row : Option Nat} (h : A.grownBy B row) {g j : Nat} (hg : A.heap.size ≤ g) (v : Value) : A.grownBy (B.setCell ⟨g, j, none⟩ v) row :=
  ⟨h.os, h.tape, h.output, by simpa using h.size, fun k hk hne => (Below.heap_setCell B ⟨g, j, none⟩ v k (by show k ≠ g; omega)).trans (h.block k hk hne)⟩
theorem own_far {W : World} {B g j : Nat} {v : Value} {l : List Cel} (h : Own W B v l) (hne : v.ownBlock ≠ some g) (u : Value) : Own (W.setCell ⟨g, j, none⟩ u) B v l := ownsRow_setCell_other h (a := ⟨g, j, none⟩) hne u

theorem own_drewN {W : World} {B : Nat} {v : Value} {l : List Cel} (h : Own W B v l) (n : Nat) : Own (W.drewN n) B v l := h
theorem grown_drewN {A B : World} {row : Option Nat} (h : A.grownBy B row) (n : Nat) : A.grownBy (B.drewN n) row := ⟨h.os, h.tape, h.output, h.size, h.block⟩
theorem seen_fin {w V : World} {B h : Nat} {v : Value} {row : Option Nat} {l : List Cel} (hr : Box V h [.int .u64 0, .int .u64 0, .int .u64 0, .int .u64 0, .bool false]) (ho : Own V B v l) (hg : w.grownBy V row) (hne : v.ownBlock ≠ some h) (hh : w.heap.size ≤ h) (v0 v1 v2 v3 v4 : Value) :
    Box (((((V.setCell ⟨h, 0, none⟩ v0).setCell ⟨h, 1, none⟩ v1).setCell ⟨h, 2, none⟩ v2).setCell ⟨h, 3, none⟩ v3).setCell ⟨h, 4, none⟩ v4) h [v0, v1, v2, v3, v4]
    ∧ Own (((((V.setCell ⟨h, 0, none⟩ v0).setCell ⟨h, 1, none⟩ v1).setCell ⟨h, 2, none⟩ v2).setCell ⟨h, 3, none⟩ v3).setCell ⟨h, 4, none⟩ v4) B v l
    ∧ w.grownBy (((((V.setCell ⟨h, 0, none⟩ v0).setCell ⟨h, 1, none⟩ v1).setCell ⟨h, 2, none⟩ v2).setCell ⟨h, 3, none⟩ v3).setCell ⟨h, 4, none⟩ v4) row :=
  ⟨seen_set hr v0 v1 v2 v3 v4, own_far (own_far (own_far (own_far (own_far ho hne v0) hne v1) hne v2) hne v3) hne v4, grown_new (grown_new (grown_new (grown_new (grown_new hg hh v0) hh v1) hh v2) hh v3) hh v4⟩
end Go.Proofs.Ytecjbgddjejjdaa
