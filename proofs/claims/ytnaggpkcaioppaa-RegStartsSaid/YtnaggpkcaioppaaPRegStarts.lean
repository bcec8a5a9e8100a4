/- Proved here: for every input the law RegStarts returns true, and its arguments read afterwards as they read before. Conditions: none beyond those of the given row. -/
import Derived.Test.YtnaggpkcaioppaaRows
import Derived.Test.YtnaggpkcaioppaaFrame
import Derived.Test.YtnaggpkcaioppaaLaw11d
import Derived.ProofKit
import Derived.Below
import Derived.Carry
import Derived.ChangeOld
import Derived.OpenShut
import Derived.ShutString
namespace Go.Proofs.Ytnaggpkcaioppaa.regStarts
open Go.ChangeShapes Go.WideShapes Go.ChangeAt Go.RowKit Fra
set_option linter.unusedVariables false

set_option maxRecDepth 100000 in
theorem lifted (os : Os) (started : os.Started) (H : Type) (enc : TypeId × Value → H) :
    ReturnsInHanded {} Try.checked os 3 .any (Rows.regStartsSpec.pre6 enc Try.prog Try.f3 Rows.regStartsRow.domain false) (Rows.regStartsSpec.post enc Try.prog Try.f3 false true false false) := by
  refine returnsInHanded_of_change (C := Try.checked) own started (by kernel_rfl) Try.func3
    (ChangeSpec.witness6 (enc := enc) (C := Try.checked) false ⟨#[], #[.agg #[.int .u8 0, .int .u32 0, .int .u32 0, .int .u32 0], .agg #[.int .u8 0, .int .u32 0, .int .u32 0, .int .u32 0]], []⟩ 8 (by kernel_rfl) (by kernel_rfl) (by kernel_rfl) (by kernel_rfl)) ?_
  intro W base args ds gs before hval0 hW hcnd _
  have hval : ∀ (j : Nat) t v, Try.f3.params[j]? = some t → args[j]? = some v → Value.okWide Try.prog W .any base t v := hval0
  have hW' := hW
  obtain ⟨p, q, hA0, hV, rfl, hfz, hnd⟩ := hW
  have hA : DataW.TrodAll enc Try.prog W 0 (fun _ => true) true Try.f3.params.toList args.toList ds p := hA0
  rw [Try.params3] at hA hval
  obtain ⟨v0, vs0, d0, ds0, p0, q0, hargs, rfl, rfl, h0, r0⟩ := trodAll_cons hA
  obtain ⟨v1, vs1, d1, ds1, p1, q1, rfl, rfl, rfl, h1, r1⟩ := trodAll_cons r0
  obtain ⟨rfl, rfl, rfl⟩ := trodAll_nil r1
  obtain rfl : args = #[v0, v1] := by cases args; simp_all
  obtain ⟨rfl, rfl⟩ := trodVars_none hV
  have lt0 : ∀ x ∈ p0, x.block < W.heap.size := by obtain ⟨m, hm⟩ := h0; exact DataW.trod_lt m _ _ _ hm
  obtain ⟨l0, rfl, len0, ok0⟩ := val_agg (ts := [5, 22, 22, 22]) Try.underlying24 (by kernel_rfl) (by kernel_rfl) (hval 0 24 v0 rfl rfl)
  obtain ⟨y0_0, e0_0, o0_0⟩ := ok0 0 5 rfl
  obtain ⟨n0_0, rfl, b0_0⟩ := cell_int Try.underlying5 o0_0
  obtain ⟨y0_1, e0_1, o0_1⟩ := ok0 1 22 rfl
  obtain ⟨n0_1, rfl, b0_1⟩ := cell_int Try.underlying22 o0_1
  obtain ⟨y0_2, e0_2, o0_2⟩ := ok0 2 22 rfl
  obtain ⟨n0_2, rfl, b0_2⟩ := cell_int Try.underlying22 o0_2
  obtain ⟨y0_3, e0_3, o0_3⟩ := ok0 3 22 rfl
  obtain ⟨n0_3, rfl, b0_3⟩ := cell_int Try.underlying22 o0_3
  obtain rfl : l0 = [.int .u8 n0_0, .int .u32 n0_1, .int .u32 n0_2, .int .u32 n0_3] := list_of len0 (by intro j hj; have hj' : j < 4 := hj; match j, hj' with | 0, _ => exact e0_0 | 1, _ => exact e0_1 | 2, _ => exact e0_2 | 3, _ => exact e0_3)
  have lt1 : ∀ x ∈ p1, x.block < W.heap.size := by obtain ⟨m, hm⟩ := h1; exact DataW.trod_lt m _ _ _ hm
  obtain ⟨l1, rfl, len1, ok1⟩ := val_agg (ts := [5, 22, 22, 22]) Try.underlying24 (by kernel_rfl) (by kernel_rfl) (hval 1 24 v1 rfl rfl)
  obtain ⟨y1_0, e1_0, o1_0⟩ := ok1 0 5 rfl
  obtain ⟨n1_0, rfl, b1_0⟩ := cell_int Try.underlying5 o1_0
  obtain ⟨y1_1, e1_1, o1_1⟩ := ok1 1 22 rfl
  obtain ⟨n1_1, rfl, b1_1⟩ := cell_int Try.underlying22 o1_1
  obtain ⟨y1_2, e1_2, o1_2⟩ := ok1 2 22 rfl
  obtain ⟨n1_2, rfl, b1_2⟩ := cell_int Try.underlying22 o1_2
  obtain ⟨y1_3, e1_3, o1_3⟩ := ok1 3 22 rfl
  obtain ⟨n1_3, rfl, b1_3⟩ := cell_int Try.underlying22 o1_3
  obtain rfl : l1 = [.int .u8 n1_0, .int .u32 n1_1, .int .u32 n1_2, .int .u32 n1_3] := list_of len1 (by intro j hj; have hj' : j < 4 := hj; match j, hj' with | 0, _ => exact e1_0 | 1, _ => exact e1_1 | 2, _ => exact e1_2 | 3, _ => exact e1_3)
  clear hA0 hval0
  refine (walk_RegStarts n0_0 n0_1 n0_2 n0_3 n1_0 n1_1 n1_2 n1_3 W b0_0 b0_1 b0_2 b0_3 b1_0 b1_1 b1_2 b1_3).mono fun e W' ⟨he, bel⟩ => ?_
  subst he
  exact ⟨_, rfl, _, _, _, [], _, [], hW', trodAll_mk1 (shut_bool Try.underlying4 _), (trodAll_cons_mk (Below.trod laidOut (by kernel_rfl) (of_decide_eq_true (by kernel_rfl)) h0 bel lt0) (trodAll_cons_mk (Below.trod laidOut (by kernel_rfl) (of_decide_eq_true (by kernel_rfl)) h1 bel lt1) trodAll_mk0)), rfl, bel.frame _, fun h => by cases h⟩

theorem over : Rows.regStartsRow.holds Try.pinned (OpenSpec.ofChange Rows.regStartsSpec) :=
  OpenClaim.holds_of_wide 3 Try.f3 rfl rfl rfl rfl rfl rfl rfl ⟨rfl, rfl, rfl, rfl, rfl⟩ rfl rfl rfl rfl rfl (by kernel_rfl) Try.func3 (by kernel_rfl)
    (of_decide_eq_true (by kernel_rfl)) (by unfold Func.isWrapper; first | (rw [if_pos (by decide +kernel)]; kernel_rfl) | (rw [if_neg (by decide +kernel)]; exact ⟨rfl, rfl⟩))
    (fun os started H enc _ => lifted os started H enc)

theorem proved : Rows.RegStartsSaid := over
#print axioms proved
end Go.Proofs.Ytnaggpkcaioppaa.regStarts
