/- Accesses to marks in a memory that is worked on. -/
import Derived.Test.YtecjbgddjejjdaaMarkC
import Derived.Test.YtecjbgddjejjdaaPlainFresh
import Derived.Test.YtecjbgddjejjdaaCellMem
namespace Go.Proofs.Ytecjbgddjejjdaa
open Go.RowKit

theorem rep_false (n t : Nat) : (List.replicate n false).getD t false = false := by
  simp only [List.getD_eq_getElem?_getD, List.getElem?_replicate]
  split <;> rfl
theorem mk_start {c : Cfg} {v : Nat} (ht : 1 ≤ c.shp.thr) : MkI c v (freshL c) (List.replicate c.shp.thr false) (List.replicate c.shp.thr false) 0 := by
  refine ⟨freshL_len c, by simp, by simp, fun t htt => ?_, fun t h => ?_, by omega⟩
  · rw [rep_false, fresh_at c (by unfold markB; omega)]
    rfl
  · rw [rep_false] at h; cases h

/-- An arriving at a mark that there is. -/
theorem arr_at {c : Cfg} (hc : c.Slots) {v k : Nat} (hv : v < 2) (hk' : (k : Int) < c.thr) : mkE c v k = 0 ∧ accV (mkA c v k accArr) = .agg #[.int .u8 2, .int .i64 ((markB c v + k : Nat) : Int), .int .u64 0, .int .u64 0, .int .u64 0, .int .u64 0, .int .u64 0, .int .u64 1, .int .u64 0, .int .u64 0] := by
  have h0 := mkE_in hc (v := (v : Int)) (t := (k : Int)) ⟨by omega, by omega, by omega, hk'⟩
  have e : mkA c v k accArr = ⟨2, ((markB c v + k : Nat) : Int), ⟨0, 0, 0, 0⟩, ⟨0, 1, 0, 0⟩⟩ := by
    unfold mkA
    rw [if_pos h0, markB_at hc hv hk']
    rfl
  rw [e]
  exact ⟨h0, rfl⟩
theorem dep_at {c : Cfg} (hc : c.Slots) {v k : Nat} (hv : v < 2) (hk' : (k : Int) < c.thr) : mkE c v k = 0 ∧ accV (mkA c v k accDep) = .agg #[.int .u8 2, .int .i64 ((markB c v + k : Nat) : Int), .int .u64 0, .int .u64 0, .int .u64 0, .int .u64 0, .int .u64 0, .int .u64 0, .int .u64 0, .int .u64 0] := by
  have h0 := mkE_in hc (v := (v : Int)) (t := (k : Int)) ⟨by omega, by omega, by omega, hk'⟩
  have e : mkA c v k accDep = ⟨2, ((markB c v + k : Nat) : Int), ⟨0, 0, 0, 0⟩, ⟨0, 0, 0, 0⟩⟩ := by
    unfold mkA
    rw [if_pos h0, markB_at hc hv hk']
    rfl
  rw [e]
  exact ⟨h0, rfl⟩
theorem look_at {c : Cfg} (hc : c.Slots) {v k : Nat} (hv : v < 2) (hk' : (k : Int) < c.thr) : mkE c v k = 0 ∧ accV (mkA c v k accLook) = .agg #[.int .u8 1, .int .i64 ((markB c v + k : Nat) : Int), .int .u64 0, .int .u64 0, .int .u64 0, .int .u64 0, .int .u64 0, .int .u64 0, .int .u64 0, .int .u64 0] := by
  have h0 := mkE_in hc (v := (v : Int)) (t := (k : Int)) ⟨by omega, by omega, by omega, hk'⟩
  have e : mkA c v k accLook = ⟨1, ((markB c v + k : Nat) : Int), ⟨0, 0, 0, 0⟩, ⟨0, 0, 0, 0⟩⟩ := by
    unfold mkA
    rw [if_pos h0, markB_at hc hv hk']
    rfl
  rw [e]
  exact ⟨h0, rfl⟩
/-- An access of kind k at a place. -/
theorem do_store {l : List Cel} {m : Nat} (x : Cel) (h : m < l.length) : doL l ⟨2, (m : Nat), ⟨0, 0, 0, 0⟩, x⟩ = l.set m x ∧ doE l ⟨2, (m : Nat), ⟨0, 0, 0, 0⟩, x⟩ = 0 := by
  obtain ⟨a, _, b⟩ := doL_yes (l := l) (x := ⟨2, (m : Nat), ⟨0, 0, 0, 0⟩, x⟩) rfl h (show (1 : Int) ≤ 2 by decide) (show (2 : Int) ≤ 4 by decide)
  exact ⟨a, b⟩
theorem do_look {l : List Cel} {m : Nat} (h : m < l.length) : doL l ⟨1, (m : Nat), ⟨0, 0, 0, 0⟩, ⟨0, 0, 0, 0⟩⟩ = l ∧ doE l ⟨1, (m : Nat), ⟨0, 0, 0, 0⟩, ⟨0, 0, 0, 0⟩⟩ = 0 ∧ doS l ⟨1, (m : Nat), ⟨0, 0, 0, 0⟩, ⟨0, 0, 0, 0⟩⟩ = (l.getD m .zero, true) := by
  obtain ⟨a, d, b⟩ := doL_yes (l := l) (x := ⟨1, (m : Nat), ⟨0, 0, 0, 0⟩, ⟨0, 0, 0, 0⟩⟩) rfl h (show (1 : Int) ≤ 1 by decide) (show (1 : Int) ≤ 4 by decide)
  exact ⟨a.trans (set_self l m), b, d⟩


end Go.Proofs.Ytecjbgddjejjdaa
