/- Chapter 5: whose kind it is, whether it writes. -/
import Derived.Test.YtecjbgddjejjdaaDoorKeep
import Derived.Test.YtecjbgddjejjdaaDoorBox
import Derived.Test.YtecjbgddjejjdaaDoorPlainOp
import Derived.WalkKit
import Derived.Deep.RegionHeld3
import Derived.Deep.QuietTactic
import Derived.BigQuiet
import Derived.BigRegion
namespace Go.Proofs.YtecjbgddjejjdaaDoor
open Go.RowKit

/-- What the tables of kinds hold. -/
def Ob (w : World) : Prop := ∀ i : Nat, i < 15 → w.cell? ⟨1, i, none⟩ = some (.int .u8 (objZ i))
def Wr (w : World) : Prop := ∀ i : Nat, i < 15 → w.cell? ⟨0, i, none⟩ = some (.bool (writesZ i))
theorem Ob.pos {w : World} (h : Ob w) : 1 < w.heap.size := World.block_lt_of_cell? w _ (h 0 (by omega))
theorem Wr.pos {w : World} (h : Wr w) : 0 < w.heap.size := World.block_lt_of_cell? w _ (h 0 (by omega))
theorem Ob.more {w V : World} (h : Ob w) (hb : Below w.heap.size w V) : Ob V := fun i hi => (hb.cell (p := ⟨1, i, none⟩) h.pos).trans (h i hi)
theorem Wr.more {w V : World} (h : Wr w) (hb : Below w.heap.size w V) : Wr V := fun i hi => (hb.cell (p := ⟨0, i, none⟩) h.pos).trans (h i hi)

theorem ret_u8 {a b : Int} (h : a = b) : Ending.returned (.int .u8 a) = .returned (.int .u8 b) := by rw [h]
theorem objZ_big {k : Int} (h : 15 ≤ k) : objZ k = 0 := by
  unfold objZ
  rw [if_neg (by omega), if_neg (by omega), if_neg (by omega), if_neg (by omega)]
theorem writesZ_no {k : Int} (h : k ≠ 1 ∧ k ≠ 2 ∧ k ≠ 4 ∧ k ≠ 5 ∧ k ≠ 9 ∧ k ≠ 10 ∧ k ≠ 12 ∧ k ≠ 13) : writesZ k = false := by
  obtain ⟨h1, h2, h3, h4, h5, h6, h7, h8⟩ := h
  simp [writesZ, *]

theorem Object_any (k : Nat) (w : World) (hk : k < 256) (hO : Ob w) : Calls Tryd.prog 52 #[.int .u8 k] w fun e w' => e = .returned (.int .u8 (objZ k)) ∧ w = w' := by
  by_cases h : k < 15
  · have d0 := hO k h
    have h1 : (k : Int) < 15 := by omega
    have h0 : (0 : Int) ≤ (k : Int) := by omega
    generalize objZ k = v at *
    clear hO
    go_enter Tryd.func52, Tryd.ntmps52
    go_wp2_with fail
    go_ret
    exact ⟨rfl, rfl⟩
  · have HZ := Lib.hid (objZ_big (k := k) (by omega))
    have h1 : (15 : Int) ≤ (k : Int) := by omega
    clear hO
    go_enter Tryd.func52, Tryd.ntmps52
    go_wp2_with fail
    go_ret
    exact ⟨ret_u8 (by rw [HZ.out]), rfl⟩

theorem Writes_any (k : Nat) (w : World) (hk : k < 256) (hW : Wr w) : Calls Tryd.prog 28 #[.int .u8 k] w fun e w' => e = .returned (.bool (writesZ k)) ∧ w = w' := by
  by_cases h : k < 15
  · have d0 := hW k h
    have h1 : (k : Int) < 15 := by omega
    have h0 : (0 : Int) ≤ (k : Int) := by omega
    generalize writesZ k = v at *
    clear hW
    go_enter Tryd.func28, Tryd.ntmps28
    go_wp2_with fail
    go_ret
    exact ⟨rfl, rfl⟩
  · have HZ := Lib.hid (writesZ_no (k := k) (by omega))
    have h1 : (15 : Int) ≤ (k : Int) := by omega
    clear hW
    go_enter Tryd.func28, Tryd.ntmps28
    go_wp2_with fail
    go_ret
    exact ⟨ret_bool (by rw [HZ.out]), rfl⟩

theorem rObject_any (k : Int) (w : World) (h0 : 0 ≤ k) : Calls Tryd.prog 31 #[.int .u8 k] w fun e w' => e = .returned (.int .u8 (objZ k)) ∧ w = w' := by
  by_cases c0 : k < 1
  · have HZ := Lib.hid (show objZ k = 0 by obtain rfl : k = 0 := by omega
                                           rfl)
    go_enter Tryd.func31, Tryd.ntmps31
    go_wp2_with fail
    go_ret
    exact ⟨ret_u8 (by rw [HZ.out]), rfl⟩
  by_cases c1 : k ≤ 3
  · have c0' : 1 ≤ k := by omega
    have HZ := Lib.hid (show objZ k = 1 by unfold objZ; rw [if_pos (by omega)])
    go_enter Tryd.func31, Tryd.ntmps31
    go_wp2_with fail
    go_ret
    exact ⟨ret_u8 (by rw [HZ.out]), rfl⟩
  by_cases c2 : k ≤ 8
  · have c0' : 4 ≤ k := by omega
    have HZ := Lib.hid (show objZ k = 2 by unfold objZ; rw [if_neg (by omega), if_pos (by omega)])
    go_enter Tryd.func31, Tryd.ntmps31
    go_wp2_with fail
    go_ret
    exact ⟨ret_u8 (by rw [HZ.out]), rfl⟩
  by_cases c3 : k ≤ 11
  · have c0' : 9 ≤ k := by omega
    have HZ := Lib.hid (show objZ k = 3 by unfold objZ; rw [if_neg (by omega), if_neg (by omega), if_pos (by omega)])
    go_enter Tryd.func31, Tryd.ntmps31
    go_wp2_with fail
    go_ret
    exact ⟨ret_u8 (by rw [HZ.out]), rfl⟩
  by_cases c4 : k ≤ 14
  · have c0' : 12 ≤ k := by omega
    have HZ := Lib.hid (show objZ k = 4 by unfold objZ; rw [if_neg (by omega), if_neg (by omega), if_neg (by omega), if_pos (by omega)])
    go_enter Tryd.func31, Tryd.ntmps31
    go_wp2_with fail
    go_ret
    exact ⟨ret_u8 (by rw [HZ.out]), rfl⟩
  · have c0' : 15 ≤ k := by omega
    have HZ := Lib.hid (objZ_big c0')
    go_enter Tryd.func31, Tryd.ntmps31
    go_wp2_with fail
    go_ret
    exact ⟨ret_u8 (by rw [HZ.out]), rfl⟩

theorem rWrites_any (k : Int) (w : World) : Calls Tryd.prog 32 #[.int .u8 k] w fun e w' => e = .returned (.bool (writesZ k)) ∧ w = w' := by
  by_cases c : k = 1 ∨ k = 2 ∨ k = 4 ∨ k = 5 ∨ k = 9 ∨ k = 10 ∨ k = 12 ∨ k = 13
  · rcases c with rfl | rfl | rfl | rfl | rfl | rfl | rfl | rfl
    all_goals
      go_enter Tryd.func32, Tryd.ntmps32
      go_wp2_with fail
      go_ret
      exact ⟨rfl, rfl⟩
  · have HZ := Lib.hid (writesZ_no (k := k) (by omega))
    have e1 : (k == 1) = false := by simp; omega
    have e2 : (k == 2) = false := by simp; omega
    have e3 : (k == 4) = false := by simp; omega
    have e4 : (k == 5) = false := by simp; omega
    have e5 : (k == 9) = false := by simp; omega
    have e6 : (k == 10) = false := by simp; omega
    have e7 : (k == 12) = false := by simp; omega
    have e8 : (k == 13) = false := by simp; omega
    clear c
    go_enter Tryd.func32, Tryd.ntmps32
    go_wp2_with fail
    go_ret
    exact ⟨ret_bool (by rw [HZ.out]), rfl⟩

end Go.Proofs.YtecjbgddjejjdaaDoor
