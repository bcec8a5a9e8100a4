/- What is kept across calls and new blocks. -/
import Derived.Test.YtecjbgddjejjdaaChecked
import Derived.ProofKit
import Derived.Below
import Derived.OneCell
import Derived.Lib.Hide
namespace Go.Proofs.Ytecjbgddjejjdaa
open Go.RowKit

theorem keepC {V w' : World} {a : Addr} {v : Value} (hb : Below V.heap.size V w') (h : V.cell? a = some v) : w'.cell? a = some v := (hb.cell (World.block_lt_of_cell? V a h)).trans h
theorem keepF {V w' : World} {a : Addr} {v : Value} (hb : Below V.heap.size V w') (h : V.cell? a = some v) (hf : V.frozen? a = false) : w'.frozen? a = false := (hb.frozen (World.block_lt_of_cell? V a h)).trans hf
theorem keepB {w V w' : World} (hb : Below V.heap.size V w') (h : Below w.heap.size w V) : Below w.heap.size w w' := h.trans (hb.mono h.size)
theorem newB (V : World) (o : Obj) : Below V.heap.size V (V.alloc o) := (Below.refl _ _).alloc (Nat.le_refl _) o
theorem moreB {w V : World} (h : Below w.heap.size w V) (o : Obj) : Below w.heap.size w (V.alloc o) := keepB (newB V o) h
theorem ret_bool {a b : Bool} (h : a = b) : Ending.returned (.bool a) = .returned (.bool b) := by rw [h]
theorem ret_i64 {a b : Int} (h : a = b) : Ending.returned (.int .i64 a) = .returned (.int .i64 b) := by rw [h]
theorem nat_beq (a b : Nat) : ((a : Int) == (b : Int)) = decide (a = b) := by
  by_cases h : a = b
  · simp [h]
  · rw [decide_eq_false h]; exact beq_eq_false_iff_ne.2 (by omega)

end Go.Proofs.Ytecjbgddjejjdaa
