/- Proved here: for every input the law PostTells returns true, and its arguments read afterwards as they read before. Conditions: none beyond those of the given row. -/
import Derived.Test.YtecjbgddjejjdaaRows
import Derived.Test.YtecjbgddjejjdaaFrame
import Derived.Test.YtecjbgddjejjdaaLaw22
import Derived.ProofKit
import Derived.Below
import Derived.Carry
import Derived.ChangeOld
import Derived.OpenShut
import Derived.ShutString
namespace Go.Proofs.Ytecjbgddjejjdaa.postTells
open Go.ChangeShapes Go.WideShapes Go.ChangeAt Go.RowKit Fra
set_option linter.unusedVariables false

set_option maxRecDepth 100000 in
theorem lifted (os : Os) (started : os.Started) (H : Type) (enc : TypeId × Value → H) :
    ReturnsInHanded {} Try.checked os 3 .any (Rows.postTellsSpec.pre6 enc Try.prog Try.f3 Rows.postTellsRow.domain false) (Rows.postTellsSpec.post enc Try.prog Try.f3 false true false false) := by
  refine returnsInHanded_of_change (C := Try.checked) own started (by kernel_rfl) Try.func3
    (ChangeSpec.witness6 (enc := enc) (C := Try.checked) false ⟨#[], #[.int .u64 0, .int .u64 0, .agg #[.int .i64 0, .int .u32 0, .slice none 0 0], .agg #[.int .u64 0, .int .u64 0, .int .u64 0, .int .u64 0], .agg #[.int .u64 0, .int .u64 0, .int .u64 0, .int .u64 0]], []⟩ 8 (by kernel_rfl) (by kernel_rfl) (by kernel_rfl) (by kernel_rfl)) ?_
  intro W base args ds gs before hval0 hW hcnd _
  have hval : ∀ (j : Nat) t v, Try.f3.params[j]? = some t → args[j]? = some v → Value.okWide Try.prog W .any base t v := hval0
  have hW' := hW
  obtain ⟨p, q, hA0, hV, rfl, hfz, hnd⟩ := hW
  have hA : DataW.TrodAll enc Try.prog W 0 (fun _ => true) true Try.f3.params.toList args.toList ds p := hA0
  rw [Try.params3] at hA hval
  obtain ⟨v0, vs0, d0, ds0, p0, q0, hargs, rfl, rfl, h0, r0⟩ := trodAll_cons hA
  obtain ⟨v1, vs1, d1, ds1, p1, q1, rfl, rfl, rfl, h1, r1⟩ := trodAll_cons r0
  obtain ⟨v2, vs2, d2, ds2, p2, q2, rfl, rfl, rfl, h2, r2⟩ := trodAll_cons r1
  obtain ⟨v3, vs3, d3, ds3, p3, q3, rfl, rfl, rfl, h3, r3⟩ := trodAll_cons r2
  obtain ⟨v4, vs4, d4, ds4, p4, q4, rfl, rfl, rfl, h4, r4⟩ := trodAll_cons r3
  obtain ⟨rfl, rfl, rfl⟩ := trodAll_nil r4
  obtain rfl : args = #[v0, v1, v2, v3, v4] := by cases args; simp_all
  obtain ⟨rfl, rfl⟩ := trodVars_none hV
  have lt0 : ∀ x ∈ p0, x.block < W.heap.size := by obtain ⟨m, hm⟩ := h0; exact DataW.trod_lt m _ _ _ hm
  obtain ⟨n0, rfl, b0⟩ := val_int Try.underlying22 (hval 0 22 v0 rfl rfl)
  have lt1 : ∀ x ∈ p1, x.block < W.heap.size := by obtain ⟨m, hm⟩ := h1; exact DataW.trod_lt m _ _ _ hm
  obtain ⟨n1, rfl, b1⟩ := val_int Try.underlying22 (hval 1 22 v1 rfl rfl)
  have lt2 : ∀ x ∈ p2, x.block < W.heap.size := by obtain ⟨m, hm⟩ := h2; exact DataW.trod_lt m _ _ _ hm
  obtain ⟨l2, rfl, len2, ok2⟩ := val_agg (ts := [23, 24, 25]) Try.underlying27 (by kernel_rfl) (by kernel_rfl) (hval 2 27 v2 rfl rfl)
  obtain ⟨y2_0, e2_0, o2_0⟩ := ok2 0 23 rfl
  obtain ⟨n2_0, rfl, b2_0⟩ := cell_int Try.underlying23 o2_0
  obtain ⟨y2_1, e2_1, o2_1⟩ := ok2 1 24 rfl
  obtain ⟨n2_1, rfl, b2_1⟩ := cell_int Try.underlying24 o2_1
  obtain ⟨y2_2, e2_2, o2_2⟩ := ok2 2 25 rfl
  obtain rfl : l2 = [.int .i64 n2_0, .int .u32 n2_1, y2_2] := list_of len2 (by intro j hj; have hj' : j < 3 := hj; match j, hj' with | 0, _ => exact e2_0 | 1, _ => exact e2_1 | 2, _ => exact e2_2)
  have lt3 : ∀ x ∈ p3, x.block < W.heap.size := by obtain ⟨m, hm⟩ := h3; exact DataW.trod_lt m _ _ _ hm
  obtain ⟨l3, rfl, len3, ok3⟩ := val_agg (ts := [22, 22, 22, 22]) Try.underlying29 (by kernel_rfl) (by kernel_rfl) (hval 3 29 v3 rfl rfl)
  obtain ⟨y3_0, e3_0, o3_0⟩ := ok3 0 22 rfl
  obtain ⟨n3_0, rfl, b3_0⟩ := cell_int Try.underlying22 o3_0
  obtain ⟨y3_1, e3_1, o3_1⟩ := ok3 1 22 rfl
  obtain ⟨n3_1, rfl, b3_1⟩ := cell_int Try.underlying22 o3_1
  obtain ⟨y3_2, e3_2, o3_2⟩ := ok3 2 22 rfl
  obtain ⟨n3_2, rfl, b3_2⟩ := cell_int Try.underlying22 o3_2
  obtain ⟨y3_3, e3_3, o3_3⟩ := ok3 3 22 rfl
  obtain ⟨n3_3, rfl, b3_3⟩ := cell_int Try.underlying22 o3_3
  obtain rfl : l3 = [.int .u64 n3_0, .int .u64 n3_1, .int .u64 n3_2, .int .u64 n3_3] := list_of len3 (by intro j hj; have hj' : j < 4 := hj; match j, hj' with | 0, _ => exact e3_0 | 1, _ => exact e3_1 | 2, _ => exact e3_2 | 3, _ => exact e3_3)
  have lt4 : ∀ x ∈ p4, x.block < W.heap.size := by obtain ⟨m, hm⟩ := h4; exact DataW.trod_lt m _ _ _ hm
  obtain ⟨l4, rfl, len4, ok4⟩ := val_agg (ts := [22, 22, 22, 22]) Try.underlying29 (by kernel_rfl) (by kernel_rfl) (hval 4 29 v4 rfl rfl)
  obtain ⟨y4_0, e4_0, o4_0⟩ := ok4 0 22 rfl
  obtain ⟨n4_0, rfl, b4_0⟩ := cell_int Try.underlying22 o4_0
  obtain ⟨y4_1, e4_1, o4_1⟩ := ok4 1 22 rfl
  obtain ⟨n4_1, rfl, b4_1⟩ := cell_int Try.underlying22 o4_1
  obtain ⟨y4_2, e4_2, o4_2⟩ := ok4 2 22 rfl
  obtain ⟨n4_2, rfl, b4_2⟩ := cell_int Try.underlying22 o4_2
  obtain ⟨y4_3, e4_3, o4_3⟩ := ok4 3 22 rfl
  obtain ⟨n4_3, rfl, b4_3⟩ := cell_int Try.underlying22 o4_3
  obtain rfl : l4 = [.int .u64 n4_0, .int .u64 n4_1, .int .u64 n4_2, .int .u64 n4_3] := list_of len4 (by intro j hj; have hj' : j < 4 := hj; match j, hj' with | 0, _ => exact e4_0 | 1, _ => exact e4_1 | 2, _ => exact e4_2 | 3, _ => exact e4_3)
  clear hA0 hval0
  refine (walk_PostTells n0 n1 n2_0 n2_1 y2_2 n3_0 n3_1 n3_2 n3_3 n4_0 n4_1 n4_2 n4_3 W b0 b1 b2_0 b2_1 b3_0 b3_1 b3_2 b3_3 b4_0 b4_1 b4_2 b4_3).mono fun e W' ⟨he, bel⟩ => ?_
  subst he
  exact ⟨_, rfl, _, _, _, [], _, [], hW', trodAll_mk1 (shut_bool Try.underlying4 _), (trodAll_cons_mk (Below.trod laidOut (by kernel_rfl) (of_decide_eq_true (by kernel_rfl)) h0 bel lt0) (trodAll_cons_mk (Below.trod laidOut (by kernel_rfl) (of_decide_eq_true (by kernel_rfl)) h1 bel lt1) (trodAll_cons_mk (Below.trod laidOut (by kernel_rfl) (of_decide_eq_true (by kernel_rfl)) h2 bel lt2) (trodAll_cons_mk (Below.trod laidOut (by kernel_rfl) (of_decide_eq_true (by kernel_rfl)) h3 bel lt3) (trodAll_cons_mk (Below.trod laidOut (by kernel_rfl) (of_decide_eq_true (by kernel_rfl)) h4 bel lt4) trodAll_mk0))))), rfl, bel.frame _, fun h => by cases h⟩

theorem over : Rows.postTellsRow.holds Try.pinned (OpenSpec.ofChange Rows.postTellsSpec) :=
  OpenClaim.holds_of_wide 3 Try.f3 rfl rfl rfl rfl rfl rfl rfl ⟨rfl, rfl, rfl, rfl, rfl⟩ rfl rfl rfl rfl rfl (by kernel_rfl) Try.func3 (by kernel_rfl)
    (of_decide_eq_true (by kernel_rfl)) (by unfold Func.isWrapper; first | (rw [if_pos (by decide +kernel)]; kernel_rfl) | (rw [if_neg (by decide +kernel)]; exact ⟨rfl, rfl⟩))
    (fun os started H enc _ => lifted os started H enc)

theorem proved : Rows.PostTellsSaid := over
#print axioms proved
end Go.Proofs.Ytecjbgddjejjdaa.postTells
