/- Proved here: for every input the law CellRuns returns true, and its arguments read afterwards as they read before. Conditions: none beyond those of the given row. -/
import Derived.Test.YtmfkipefnacjdaaRows
import Derived.Test.YtmfkipefnacjdaaFrame
import Derived.Test.YtmfkipefnacjdaaLaw02g
import Derived.ProofKit
import Derived.Below
import Derived.Carry
import Derived.ChangeOld
import Derived.OpenShut
import Derived.ShutString
import Derived.Test.YtmfkipefnacjdaaSized
namespace Go.Proofs.Ytmfkipefnacjdaa.cellRuns
open Go.ChangeShapes Go.WideShapes Go.ChangeAt Go.RowKit Fra
set_option linter.unusedVariables false

set_option maxRecDepth 100000 in
theorem lifted (os : Os) (started : os.Started) (H : Type) (enc : TypeId × Value → H) :
    ReturnsInHanded {} Try.checked os 5 .any (Rows.cellRunsSpec.pre6 enc Try.prog Try.f5 Rows.cellRunsRow.domain false) (Rows.cellRunsSpec.post enc Try.prog Try.f5 false true false false) := by
  refine returnsInHanded_of_change_sized (C := Try.checked) own started (by kernel_rfl) Try.func5
    (ChangeSpec.witness6 (enc := enc) (C := Try.checked) false ⟨#[], #[.slice none 0 0, .slice none 0 0], []⟩ 8 (by kernel_rfl) (by kernel_rfl) (by kernel_rfl) (by kernel_rfl)) ?_
  intro W base args ds gs before hval0 hW hcnd hsz _
  have hval : ∀ (j : Nat) t v, Try.f5.params[j]? = some t → args[j]? = some v → Value.okWide Try.prog W .any base t v := hval0
  have hW' := hW
  obtain ⟨p, q, hA0, hV, rfl, hfz, hnd⟩ := hW
  have hA : DataW.TrodAll enc Try.prog W 0 (fun _ => true) true Try.f5.params.toList args.toList ds p := hA0
  rw [Try.params5] at hA hval
  obtain ⟨v0, vs0, d0, ds0, p0, q0, hargs, rfl, rfl, h0, r0⟩ := trodAll_cons hA
  obtain ⟨v1, vs1, d1, ds1, p1, q1, rfl, rfl, rfl, h1, r1⟩ := trodAll_cons r0
  obtain ⟨rfl, rfl, rfl⟩ := trodAll_nil r1
  obtain rfl : args = #[v0, v1] := by cases args; simp_all
  obtain ⟨rfl, rfl⟩ := trodVars_none hV
  have lt0 : ∀ x ∈ p0, x.block < W.heap.size := by obtain ⟨m, hm⟩ := h0; exact DataW.trod_lt m _ _ _ hm
  obtain ⟨a0, l0, c0, rfl⟩ := okWide_slice Try.underlying22 (hval 0 22 v0 rfl rfl)
  have s0 : Slc W [.u64, .u64, .u64, .u64] a0 l0 c0 := slc_of Try.underlying22 (scal_struct (t := 30) [[.u64], [.u64], [.u64], [.u64]] Try.underlying30 (by kernel_rfl) rfl (by kernel_rfl) (by intro p hp; simp [List.zip] at hp; rcases hp with rfl | rfl | rfl | rfl <;> first | exact ⟨(scal_int Try.underlying28), by kernel_rfl⟩)) (by kernel_rfl) (hval 0 22 _ rfl rfl) h0
  have lt1 : ∀ x ∈ p1, x.block < W.heap.size := by obtain ⟨m, hm⟩ := h1; exact DataW.trod_lt m _ _ _ hm
  obtain ⟨a1, l1, c1, rfl⟩ := okWide_slice Try.underlying23 (hval 1 23 v1 rfl rfl)
  have s1 : Slc W [.u8, .i64, .u64, .u64, .u64, .u64, .u64, .u64, .u64, .u64] a1 l1 c1 := slc_of Try.underlying23 (scal_struct (t := 36) [[.u8], [.i64], [.u64, .u64, .u64, .u64], [.u64, .u64, .u64, .u64]] Try.underlying36 (by kernel_rfl) rfl (by kernel_rfl) (by intro p hp; simp [List.zip] at hp; rcases hp with rfl | rfl | rfl | rfl <;> first | exact ⟨(scal_int Try.underlying3), by kernel_rfl⟩ | exact ⟨(scal_int Try.underlying5), by kernel_rfl⟩ | exact ⟨(scal_struct (t := 30) [[.u64], [.u64], [.u64], [.u64]] Try.underlying30 (by kernel_rfl) rfl (by kernel_rfl) (by intro p hp; simp [List.zip] at hp; rcases hp with rfl | rfl | rfl | rfl <;> first | exact ⟨(scal_int Try.underlying28), by kernel_rfl⟩)), by kernel_rfl⟩)) (by kernel_rfl) (hval 1 23 _ rfl rfl) h1
  have z0 : l0 * 32 ≤ 140737488351232 := slc_bytes (j := 0) Try.underlying22 (by kernel_rfl) h0 hsz rfl rfl
  clear hA0 hval0
  refine (walk_CellRuns a0 l0 c0 a1 l1 c1 W s0 s1 z0).mono fun e W' ⟨he, bel⟩ => ?_
  subst he
  exact ⟨_, rfl, _, _, _, [], _, [], hW', trodAll_mk1 (shut_bool Try.underlying4 _), (trodAll_cons_mk (Below.trod laidOut (by kernel_rfl) (of_decide_eq_true (by kernel_rfl)) h0 bel lt0) (trodAll_cons_mk (Below.trod laidOut (by kernel_rfl) (of_decide_eq_true (by kernel_rfl)) h1 bel lt1) trodAll_mk0)), rfl, bel.frame _, fun h => by cases h⟩

theorem over : Rows.cellRunsRow.holds Try.pinned (OpenSpec.ofChange Rows.cellRunsSpec) :=
  OpenClaim.holds_of_wide 5 Try.f5 rfl rfl rfl rfl rfl rfl rfl ⟨rfl, rfl, rfl, rfl, rfl⟩ rfl rfl rfl rfl rfl (by kernel_rfl) Try.func5 (by kernel_rfl)
    (of_decide_eq_true (by kernel_rfl)) (by unfold Func.isWrapper; first | (rw [if_pos (by decide +kernel)]; kernel_rfl) | (rw [if_neg (by decide +kernel)]; exact ⟨rfl, rfl⟩))
    (fun os started H enc _ => lifted os started H enc)

theorem proved : Rows.CellRunsSaid := over
#print axioms proved
end Go.Proofs.Ytmfkipefnacjdaa.cellRuns
