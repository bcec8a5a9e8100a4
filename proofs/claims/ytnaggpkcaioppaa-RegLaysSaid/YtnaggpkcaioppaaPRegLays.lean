/- Proved here: for every input the law RegLays returns true, and its arguments read afterwards as they read before. Conditions: none beyond those of the given row. -/
import Derived.Test.YtnaggpkcaioppaaRows
import Derived.Test.YtnaggpkcaioppaaFrame
import Derived.Test.YtnaggpkcaioppaaLaw11e
import Derived.ProofKit
import Derived.Below
import Derived.Carry
import Derived.ChangeOld
import Derived.OpenShut
import Derived.ShutString
namespace Go.Proofs.Ytnaggpkcaioppaa.regLays
open Go.ChangeShapes Go.WideShapes Go.ChangeAt Go.RowKit Fra
set_option linter.unusedVariables false

set_option maxRecDepth 100000 in
theorem lifted (os : Os) (started : os.Started) (H : Type) (enc : TypeId × Value → H) :
    ReturnsInHanded {} Try.checked os 5 .any (Rows.regLaysSpec.pre6 enc Try.prog Try.f5 Rows.regLaysRow.domain false) (Rows.regLaysSpec.post enc Try.prog Try.f5 false true false false) := by
  refine returnsInHanded_of_change (C := Try.checked) own started (by kernel_rfl) Try.func5
    (ChangeSpec.witness6 (enc := enc) (C := Try.checked) false ⟨#[], #[.agg #[.int .u64 0, .int .u8 0, .int .u8 0, .int .u8 0, .int .u32 0, .int .u32 0, .int .u8 0, .int .u8 0, .int .u8 0, .int .u8 0, .int .u8 0, .int .u8 0, .int .u32 0, .int .u32 0], .agg #[.int .u64 0, .int .u64 0, .int .u64 0, .int .u64 0], .agg #[.int .u8 0, .int .u32 0, .int .u32 0, .int .u32 0]], []⟩ 8 (by kernel_rfl) (by kernel_rfl) (by kernel_rfl) (by kernel_rfl)) ?_
  intro W base args ds gs before hval0 hW hcnd _
  have hval : ∀ (j : Nat) t v, Try.f5.params[j]? = some t → args[j]? = some v → Value.okWide Try.prog W .any base t v := hval0
  have hW' := hW
  obtain ⟨p, q, hA0, hV, rfl, hfz, hnd⟩ := hW
  have hA : DataW.TrodAll enc Try.prog W 0 (fun _ => true) true Try.f5.params.toList args.toList ds p := hA0
  rw [Try.params5] at hA hval
  obtain ⟨v0, vs0, d0, ds0, p0, q0, hargs, rfl, rfl, h0, r0⟩ := trodAll_cons hA
  obtain ⟨v1, vs1, d1, ds1, p1, q1, rfl, rfl, rfl, h1, r1⟩ := trodAll_cons r0
  obtain ⟨v2, vs2, d2, ds2, p2, q2, rfl, rfl, rfl, h2, r2⟩ := trodAll_cons r1
  obtain ⟨rfl, rfl, rfl⟩ := trodAll_nil r2
  obtain rfl : args = #[v0, v1, v2] := by cases args; simp_all
  obtain ⟨rfl, rfl⟩ := trodVars_none hV
  have lt0 : ∀ x ∈ p0, x.block < W.heap.size := by obtain ⟨m, hm⟩ := h0; exact DataW.trod_lt m _ _ _ hm
  obtain ⟨l0, rfl, len0, ok0⟩ := val_agg (ts := [30, 5, 5, 5, 22, 22, 5, 5, 5, 5, 5, 5, 22, 22]) Try.underlying32 (by kernel_rfl) (by kernel_rfl) (hval 0 32 v0 rfl rfl)
  obtain ⟨y0_0, e0_0, o0_0⟩ := ok0 0 30 rfl
  obtain ⟨n0_0, rfl, b0_0⟩ := cell_int Try.underlying30 o0_0
  obtain ⟨y0_1, e0_1, o0_1⟩ := ok0 1 5 rfl
  obtain ⟨n0_1, rfl, b0_1⟩ := cell_int Try.underlying5 o0_1
  obtain ⟨y0_2, e0_2, o0_2⟩ := ok0 2 5 rfl
  obtain ⟨n0_2, rfl, b0_2⟩ := cell_int Try.underlying5 o0_2
  obtain ⟨y0_3, e0_3, o0_3⟩ := ok0 3 5 rfl
  obtain ⟨n0_3, rfl, b0_3⟩ := cell_int Try.underlying5 o0_3
  obtain ⟨y0_4, e0_4, o0_4⟩ := ok0 4 22 rfl
  obtain ⟨n0_4, rfl, b0_4⟩ := cell_int Try.underlying22 o0_4
  obtain ⟨y0_5, e0_5, o0_5⟩ := ok0 5 22 rfl
  obtain ⟨n0_5, rfl, b0_5⟩ := cell_int Try.underlying22 o0_5
  obtain ⟨y0_6, e0_6, o0_6⟩ := ok0 6 5 rfl
  obtain ⟨n0_6, rfl, b0_6⟩ := cell_int Try.underlying5 o0_6
  obtain ⟨y0_7, e0_7, o0_7⟩ := ok0 7 5 rfl
  obtain ⟨n0_7, rfl, b0_7⟩ := cell_int Try.underlying5 o0_7
  obtain ⟨y0_8, e0_8, o0_8⟩ := ok0 8 5 rfl
  obtain ⟨n0_8, rfl, b0_8⟩ := cell_int Try.underlying5 o0_8
  obtain ⟨y0_9, e0_9, o0_9⟩ := ok0 9 5 rfl
  obtain ⟨n0_9, rfl, b0_9⟩ := cell_int Try.underlying5 o0_9
  obtain ⟨y0_10, e0_10, o0_10⟩ := ok0 10 5 rfl
  obtain ⟨n0_10, rfl, b0_10⟩ := cell_int Try.underlying5 o0_10
  obtain ⟨y0_11, e0_11, o0_11⟩ := ok0 11 5 rfl
  obtain ⟨n0_11, rfl, b0_11⟩ := cell_int Try.underlying5 o0_11
  obtain ⟨y0_12, e0_12, o0_12⟩ := ok0 12 22 rfl
  obtain ⟨n0_12, rfl, b0_12⟩ := cell_int Try.underlying22 o0_12
  obtain ⟨y0_13, e0_13, o0_13⟩ := ok0 13 22 rfl
  obtain ⟨n0_13, rfl, b0_13⟩ := cell_int Try.underlying22 o0_13
  obtain rfl : l0 = [.int .u64 n0_0, .int .u8 n0_1, .int .u8 n0_2, .int .u8 n0_3, .int .u32 n0_4, .int .u32 n0_5, .int .u8 n0_6, .int .u8 n0_7, .int .u8 n0_8, .int .u8 n0_9, .int .u8 n0_10, .int .u8 n0_11, .int .u32 n0_12, .int .u32 n0_13] := list_of len0 (by intro j hj; have hj' : j < 14 := hj; match j, hj' with | 0, _ => exact e0_0 | 1, _ => exact e0_1 | 2, _ => exact e0_2 | 3, _ => exact e0_3 | 4, _ => exact e0_4 | 5, _ => exact e0_5 | 6, _ => exact e0_6 | 7, _ => exact e0_7 | 8, _ => exact e0_8 | 9, _ => exact e0_9 | 10, _ => exact e0_10 | 11, _ => exact e0_11 | 12, _ => exact e0_12 | 13, _ => exact e0_13)
  have lt1 : ∀ x ∈ p1, x.block < W.heap.size := by obtain ⟨m, hm⟩ := h1; exact DataW.trod_lt m _ _ _ hm
  obtain ⟨l1, rfl, len1, ok1⟩ := val_agg (ts := [30, 30, 30, 30]) Try.underlying34 (by kernel_rfl) (by kernel_rfl) (hval 1 34 v1 rfl rfl)
  obtain ⟨y1_0, e1_0, o1_0⟩ := ok1 0 30 rfl
  obtain ⟨n1_0, rfl, b1_0⟩ := cell_int Try.underlying30 o1_0
  obtain ⟨y1_1, e1_1, o1_1⟩ := ok1 1 30 rfl
  obtain ⟨n1_1, rfl, b1_1⟩ := cell_int Try.underlying30 o1_1
  obtain ⟨y1_2, e1_2, o1_2⟩ := ok1 2 30 rfl
  obtain ⟨n1_2, rfl, b1_2⟩ := cell_int Try.underlying30 o1_2
  obtain ⟨y1_3, e1_3, o1_3⟩ := ok1 3 30 rfl
  obtain ⟨n1_3, rfl, b1_3⟩ := cell_int Try.underlying30 o1_3
  obtain rfl : l1 = [.int .u64 n1_0, .int .u64 n1_1, .int .u64 n1_2, .int .u64 n1_3] := list_of len1 (by intro j hj; have hj' : j < 4 := hj; match j, hj' with | 0, _ => exact e1_0 | 1, _ => exact e1_1 | 2, _ => exact e1_2 | 3, _ => exact e1_3)
  have lt2 : ∀ x ∈ p2, x.block < W.heap.size := by obtain ⟨m, hm⟩ := h2; exact DataW.trod_lt m _ _ _ hm
  obtain ⟨l2, rfl, len2, ok2⟩ := val_agg (ts := [5, 22, 22, 22]) Try.underlying24 (by kernel_rfl) (by kernel_rfl) (hval 2 24 v2 rfl rfl)
  obtain ⟨y2_0, e2_0, o2_0⟩ := ok2 0 5 rfl
  obtain ⟨n2_0, rfl, b2_0⟩ := cell_int Try.underlying5 o2_0
  obtain ⟨y2_1, e2_1, o2_1⟩ := ok2 1 22 rfl
  obtain ⟨n2_1, rfl, b2_1⟩ := cell_int Try.underlying22 o2_1
  obtain ⟨y2_2, e2_2, o2_2⟩ := ok2 2 22 rfl
  obtain ⟨n2_2, rfl, b2_2⟩ := cell_int Try.underlying22 o2_2
  obtain ⟨y2_3, e2_3, o2_3⟩ := ok2 3 22 rfl
  obtain ⟨n2_3, rfl, b2_3⟩ := cell_int Try.underlying22 o2_3
  obtain rfl : l2 = [.int .u8 n2_0, .int .u32 n2_1, .int .u32 n2_2, .int .u32 n2_3] := list_of len2 (by intro j hj; have hj' : j < 4 := hj; match j, hj' with | 0, _ => exact e2_0 | 1, _ => exact e2_1 | 2, _ => exact e2_2 | 3, _ => exact e2_3)
  clear hA0 hval0
  refine (walk_RegLays n0_0 n0_1 n0_2 n0_3 n0_4 n0_5 n0_6 n0_7 n0_8 n0_9 n0_10 n0_11 n0_12 n0_13 n1_0 n1_1 n1_2 n1_3 n2_0 n2_1 n2_2 n2_3 W b0_0 b0_1 b0_2 b0_3 b0_4 b0_5 b0_6 b0_7 b0_8 b0_9 b0_10 b0_11 b0_12 b0_13 b1_0 b1_1 b1_2 b1_3 b2_0 b2_1 b2_2 b2_3).mono fun e W' ⟨he, bel⟩ => ?_
  subst he
  exact ⟨_, rfl, _, _, _, [], _, [], hW', trodAll_mk1 (shut_bool Try.underlying4 _), (trodAll_cons_mk (Below.trod laidOut (by kernel_rfl) (of_decide_eq_true (by kernel_rfl)) h0 bel lt0) (trodAll_cons_mk (Below.trod laidOut (by kernel_rfl) (of_decide_eq_true (by kernel_rfl)) h1 bel lt1) (trodAll_cons_mk (Below.trod laidOut (by kernel_rfl) (of_decide_eq_true (by kernel_rfl)) h2 bel lt2) trodAll_mk0))), rfl, bel.frame _, fun h => by cases h⟩

theorem over : Rows.regLaysRow.holds Try.pinned (OpenSpec.ofChange Rows.regLaysSpec) :=
  OpenClaim.holds_of_wide 5 Try.f5 rfl rfl rfl rfl rfl rfl rfl ⟨rfl, rfl, rfl, rfl, rfl⟩ rfl rfl rfl rfl rfl (by kernel_rfl) Try.func5 (by kernel_rfl)
    (of_decide_eq_true (by kernel_rfl)) (by unfold Func.isWrapper; first | (rw [if_pos (by decide +kernel)]; kernel_rfl) | (rw [if_neg (by decide +kernel)]; exact ⟨rfl, rfl⟩))
    (fun os started H enc _ => lifted os started H enc)

theorem proved : Rows.RegLaysSaid := over
#print axioms proved
end Go.Proofs.Ytnaggpkcaioppaa.regLays
