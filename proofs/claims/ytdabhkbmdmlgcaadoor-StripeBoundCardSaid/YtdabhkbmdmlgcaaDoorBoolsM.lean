/- Slices of truths that are made. -/
import Derived.Test.YtdabhkbmdmlgcaaDoorDrW
namespace Go.Proofs.YtdabhkbmdmlgcaaDoor
open Go.RowKit

theorem made_bools (m : Nat) : (madeCells #[(.bool false : Value)] m) = ⟨List.replicate m (.bool false)⟩ := by
  have e : (fun k : Nat => (#[(.bool false : Value)])[k % (#[(.bool false : Value)]).size]!) = fun _ => .bool false := funext fun k => by
    rw [show k % (#[(.bool false : Value)]).size = 0 from Nat.mod_one k]; rfl
  unfold madeCells
  rw [e]
  apply Array.ext
  · simp
  · intro j h1 h2
    simp
theorem infoBool : (Tryd.prog.info? 4).map (fun i => (i.zero, i.size, i.bytes)) = some (some (.bool false), 1, 1) := by kernel_rfl
def boolsB (n : Nat) : Obj := .cells ⟨boolsV (List.replicate n false)⟩ 4
theorem make_bools (n : Nat) (h : n ≤ 2000) (W : World) : (Instr.makeSlice 60 (.int .i64 (n : Int)) (.int .i64 (n : Int))).run Tryd.prog W = .ok (.slice (some ⟨W.heap.size, 0, none⟩) n n) (W.alloc (boolsB n)) := by
  obtain ⟨k0, hk0, hq0, hq1, hq2⟩ := info_parts infoBool
  have := run_makeSlice (P := Tryd.prog) W 60 4 k0 _ Tryd.underlying60 hk0 hq0 .i64 .i64 (n : Int) (n : Int) (by omega) (by omega) (by rw [hq1]; omega) (by rw [hq2]; omega) (by omega)
  rw [this, Int.toNat_natCast, hq1]
  unfold boolsB
  rw [boolsV_rep]
  show Result.ok _ (W.alloc (.cells (madeCells #[.bool false] (n * 1)) 4)) = _
  rw [made_bools, Nat.mul_one]

end Go.Proofs.YtdabhkbmdmlgcaaDoor
