/- Blocks that are known whole: kept across calls, draws, new blocks and stores. -/
import Derived.Test.YtecjbgddjejjdaaKeep
import Derived.Test.YtecjbgddjejjdaaProg
import Derived.ProofKit
import Derived.Below
import Derived.OneCell
import Derived.Laws.OwnMore
import Derived.Laws.Rows
import Derived.OwnWalk
import Derived.Deep.Draws
import Derived.Lib.Hide
namespace Go.Proofs.Ytecjbgddjejjdaa
open Go.RowKit

/-- Block g is just these cells, none frozen. -/
def Box (W : World) (g : Nat) (cs : List Value) : Prop := ∃ t, W.heap[g]? = some (.cells ⟨cs⟩ t (0, 0))

theorem Box.lt {W : World} {g : Nat} {cs : List Value} (h : Box W g cs) : g < W.heap.size := by
  obtain ⟨t, h⟩ := h
  exact lt_of_block h
theorem Box.c {W : World} {g : Nat} {cs : List Value} (h : Box W g cs) (i : Nat) {v : Value} (hv : cs[i]? = some v) : W.cell? ⟨g, i, none⟩ = some v := by
  obtain ⟨t, h⟩ := h
  simp [World.cell?, h, hv]
theorem Box.f {W : World} {g : Nat} {cs : List Value} (h : Box W g cs) (i : Nat) : W.frozen? ⟨g, i, none⟩ = false := by
  obtain ⟨t, h⟩ := h
  simp [World.frozen?, h]
theorem Box.new (W : World) (t : TypeId) (cs : List Value) : Box (W.alloc (.cells ⟨cs⟩ t)) W.heap.size cs := ⟨t, heap_alloc_new W _⟩
theorem Box.newAt (W : World) (t : TypeId) (cs : List Value) {g : Nat} (h : g = W.heap.size) : Box (W.alloc (.cells ⟨cs⟩ t)) g cs := by
  subst h
  exact Box.new W t cs
theorem Box.alloc {W : World} {g : Nat} {cs : List Value} (h : Box W g cs) (o : Obj) : Box (W.alloc o) g cs := by
  have hl := h.lt
  obtain ⟨t, h⟩ := h
  exact ⟨t, (Below.heap_alloc W o g hl).trans h⟩
theorem Box.below {W W' : World} {g : Nat} {cs : List Value} (h : Box W g cs) (hb : Below W.heap.size W W') : Box W' g cs := by
  have hl := h.lt
  obtain ⟨t, h⟩ := h
  exact ⟨t, (hb.block g hl).trans h⟩
theorem Box.grown {W W' : World} {g : Nat} {cs : List Value} {row : Option Nat} (h : Box W g cs) (hb : W.grownBy W' row) (hg : row ≠ some g) : Box W' g cs := by
  have hl := h.lt
  obtain ⟨t, h⟩ := h
  exact ⟨t, (hb.block g hl (fun e => hg e.symm)).trans h⟩
theorem Box.drew {W : World} {g : Nat} {cs : List Value} (h : Box W g cs) : Box W.drew g cs := h
theorem Box.drewN {W : World} {g : Nat} {cs : List Value} (h : Box W g cs) (n : Nat) : Box (W.drewN n) g cs := h
theorem Box.set {W : World} {g : Nat} {cs : List Value} (h : Box W g cs) (i : Nat) (u : Value) : Box (W.setCell ⟨g, i, none⟩ u) g (cs.set i u) := by
  obtain ⟨t, h⟩ := h
  refine ⟨t, ?_⟩
  simp [World.setCell, Array.getElem?_modify, h]
theorem Box.far {W : World} {g : Nat} {cs : List Value} (h : Box W g cs) {a : Addr} (ha : g ≠ a.block) (u : Value) : Box (W.setCell a u) g cs := by
  have hl := h.lt
  obtain ⟨t, h⟩ := h
  exact ⟨t, (Below.heap_setCell W a u g ha).trans h⟩

/-- The same block, read in another order of its cells' list. -/
theorem Box.as {W : World} {g : Nat} {cs ds : List Value} (h : Box W g cs) (e : cs = ds) : Box W g ds := e ▸ h

theorem box1 {W : World} {g : Nat} {u : Value} (h : Box W g [u]) : W.cell? ⟨g, 0, none⟩ = some u := h.c 0 rfl
theorem box3 {W : World} {g : Nat} {u v x : Value} (h : Box W g [u, v, x]) : W.cell? ⟨g, 0, none⟩ = some u ∧ W.cell? ⟨g, 1, none⟩ = some v ∧ W.cell? ⟨g, 2, none⟩ = some x := ⟨h.c 0 rfl, h.c 1 rfl, h.c 2 rfl⟩
theorem box4 {W : World} {g : Nat} {u v x y : Value} (h : Box W g [u, v, x, y]) : W.cell? ⟨g, 0, none⟩ = some u ∧ W.cell? ⟨g, 1, none⟩ = some v ∧ W.cell? ⟨g, 2, none⟩ = some x ∧ W.cell? ⟨g, 3, none⟩ = some y := ⟨h.c 0 rfl, h.c 1 rfl, h.c 2 rfl, h.c 3 rfl⟩

/-- A load of a struct out of a block that is known whole. -/
theorem Box.load {P : Program} {W : World} {g : Nat} {cs : List Value} {t : TypeId} (h : Box W g cs) (hagg : ∀ w, (isAgg t).run P w = .ok true w) (hsz : ∀ w, (Go.sizeOf t).run P w = .ok cs.length w) : (loadVar t ⟨g, 0, none⟩).run P W = .ok (.agg ⟨cs⟩) W := by
  have hl := run_loadCells_list (P := P) (w := W) ⟨g, 0, none⟩ cs (fun j v hv => by
    have := h.c j hv
    unfold Addr.add
    by_cases hj : j = 0
    · subst hj; simpa using this
    · simpa [hj] using this)
  simp [loadVar, Sem.run_bind, hagg, hsz, hl, Result.andThen]
/-- The result of a function whose one result is a struct in a block that is known whole. -/
theorem Box.results {P : Program} {fn : Func} {p : Tmp} {t : TypeId} {W : World} {g : Nat} {cs : List Value} (h : Box W g cs) (hr : fn.results = #[.cell p t]) (hagg : ∀ w, (isAgg t).run P w = .ok true w) (hsz : ∀ w, (Go.sizeOf t).run P w = .ok cs.length w)
    {tmps : Array Value} (ht : tmps.getD p undef = .pointer (some ⟨g, 0, none⟩)) : (Go.results fn tmps).run P W = .ok (.agg ⟨cs⟩) W := by
  have hl := h.load (t := t) hagg hsz
  rw [Array.getD_eq_getD_getElem?] at ht
  simp only [Go.results, hr]
  simp [ht, asAddr, hl]

theorem Box.results2 {P : Program} {fn : Func} {p q : Tmp} {t : TypeId} {W : World} {g : Nat} {cs : List Value} (h : Box W g cs) (hr : fn.results = #[.cell p t, .tmp q]) (hagg : ∀ w, (isAgg t).run P w = .ok true w) (hsz : ∀ w, (Go.sizeOf t).run P w = .ok cs.length w)
    {tmps : Array Value} {v : Value} (ht : tmps.getD p undef = .pointer (some ⟨g, 0, none⟩)) (hq : tmps.getD q undef = v) : (Go.results fn tmps).run P W = .ok (.tuple #[.agg ⟨cs⟩, v]) W := by
  have hl := h.load (t := t) hagg hsz
  rw [Array.getD_eq_getD_getElem?] at ht hq
  simp only [Go.results, hr]
  simp [ht, hq, asAddr, hl]


end Go.Proofs.Ytecjbgddjejjdaa
