/- Proved here: for every input the law CellApart returns true, and its arguments read afterwards as they read before. Conditions: none beyond those of the given row. -/
import Derived.Test.YtmfkipefnacjdaaRows
import Derived.Test.YtmfkipefnacjdaaFrame
import Derived.Test.YtmfkipefnacjdaaLaw02c
import Derived.ProofKit
import Derived.Below
import Derived.Carry
import Derived.ChangeOld
import Derived.OpenShut
import Derived.ShutString
namespace Go.Proofs.Ytmfkipefnacjdaa.cellApart
open Go.ChangeShapes Go.WideShapes Go.ChangeAt Go.RowKit Fra
set_option linter.unusedVariables false

set_option maxRecDepth 100000 in
theorem lifted (os : Os) (started : os.Started) (H : Type) (enc : TypeId × Value → H) :
    ReturnsInHanded {} Try.checked os 6 .any (Rows.cellApartSpec.pre6 enc Try.prog Try.f6 Rows.cellApartRow.domain false) (Rows.cellApartSpec.post enc Try.prog Try.f6 false true false false) := by
  refine returnsInHanded_of_change (C := Try.checked) own started (by kernel_rfl) Try.func6
    (ChangeSpec.witness6 (enc := enc) (C := Try.checked) false ⟨#[], #[.slice none 0 0, .agg #[.int .u8 0, .int .i64 0, .int .u64 0, .int .u64 0, .int .u64 0, .int .u64 0, .int .u64 0, .int .u64 0, .int .u64 0, .int .u64 0]], []⟩ 8 (by kernel_rfl) (by kernel_rfl) (by kernel_rfl) (by kernel_rfl)) ?_
  intro W base args ds gs before hval0 hW hcnd _
  have hval : ∀ (j : Nat) t v, Try.f6.params[j]? = some t → args[j]? = some v → Value.okWide Try.prog W .any base t v := hval0
  have hW' := hW
  obtain ⟨p, q, hA0, hV, rfl, hfz, hnd⟩ := hW
  have hA : DataW.TrodAll enc Try.prog W 0 (fun _ => true) true Try.f6.params.toList args.toList ds p := hA0
  rw [Try.params6] at hA hval
  obtain ⟨v0, vs0, d0, ds0, p0, q0, hargs, rfl, rfl, h0, r0⟩ := trodAll_cons hA
  obtain ⟨v1, vs1, d1, ds1, p1, q1, rfl, rfl, rfl, h1, r1⟩ := trodAll_cons r0
  obtain ⟨rfl, rfl, rfl⟩ := trodAll_nil r1
  obtain rfl : args = #[v0, v1] := by cases args; simp_all
  obtain ⟨rfl, rfl⟩ := trodVars_none hV
  have lt0 : ∀ x ∈ p0, x.block < W.heap.size := by obtain ⟨m, hm⟩ := h0; exact DataW.trod_lt m _ _ _ hm
  obtain ⟨a0, l0, c0, rfl⟩ := okWide_slice Try.underlying22 (hval 0 22 v0 rfl rfl)
  have s0 : Slc W [.u64, .u64, .u64, .u64] a0 l0 c0 := slc_of Try.underlying22 (scal_struct (t := 30) [[.u64], [.u64], [.u64], [.u64]] Try.underlying30 (by kernel_rfl) rfl (by kernel_rfl) (by intro p hp; simp [List.zip] at hp; rcases hp with rfl | rfl | rfl | rfl <;> first | exact ⟨(scal_int Try.underlying28), by kernel_rfl⟩)) (by kernel_rfl) (hval 0 22 _ rfl rfl) h0
  have lt1 : ∀ x ∈ p1, x.block < W.heap.size := by obtain ⟨m, hm⟩ := h1; exact DataW.trod_lt m _ _ _ hm
  obtain ⟨l1, rfl, len1, ok1⟩ := val_agg (ts := [5, 3, 28, 28, 28, 28, 28, 28, 28, 28]) Try.underlying36 (by kernel_rfl) (by kernel_rfl) (hval 1 36 v1 rfl rfl)
  obtain ⟨y1_0, e1_0, o1_0⟩ := ok1 0 5 rfl
  obtain ⟨n1_0, rfl, b1_0⟩ := cell_int Try.underlying5 o1_0
  obtain ⟨y1_1, e1_1, o1_1⟩ := ok1 1 3 rfl
  obtain ⟨n1_1, rfl, b1_1⟩ := cell_int Try.underlying3 o1_1
  obtain ⟨y1_2, e1_2, o1_2⟩ := ok1 2 28 rfl
  obtain ⟨n1_2, rfl, b1_2⟩ := cell_int Try.underlying28 o1_2
  obtain ⟨y1_3, e1_3, o1_3⟩ := ok1 3 28 rfl
  obtain ⟨n1_3, rfl, b1_3⟩ := cell_int Try.underlying28 o1_3
  obtain ⟨y1_4, e1_4, o1_4⟩ := ok1 4 28 rfl
  obtain ⟨n1_4, rfl, b1_4⟩ := cell_int Try.underlying28 o1_4
  obtain ⟨y1_5, e1_5, o1_5⟩ := ok1 5 28 rfl
  obtain ⟨n1_5, rfl, b1_5⟩ := cell_int Try.underlying28 o1_5
  obtain ⟨y1_6, e1_6, o1_6⟩ := ok1 6 28 rfl
  obtain ⟨n1_6, rfl, b1_6⟩ := cell_int Try.underlying28 o1_6
  obtain ⟨y1_7, e1_7, o1_7⟩ := ok1 7 28 rfl
  obtain ⟨n1_7, rfl, b1_7⟩ := cell_int Try.underlying28 o1_7
  obtain ⟨y1_8, e1_8, o1_8⟩ := ok1 8 28 rfl
  obtain ⟨n1_8, rfl, b1_8⟩ := cell_int Try.underlying28 o1_8
  obtain ⟨y1_9, e1_9, o1_9⟩ := ok1 9 28 rfl
  obtain ⟨n1_9, rfl, b1_9⟩ := cell_int Try.underlying28 o1_9
  obtain rfl : l1 = [.int .u8 n1_0, .int .i64 n1_1, .int .u64 n1_2, .int .u64 n1_3, .int .u64 n1_4, .int .u64 n1_5, .int .u64 n1_6, .int .u64 n1_7, .int .u64 n1_8, .int .u64 n1_9] := list_of len1 (by intro j hj; have hj' : j < 10 := hj; match j, hj' with | 0, _ => exact e1_0 | 1, _ => exact e1_1 | 2, _ => exact e1_2 | 3, _ => exact e1_3 | 4, _ => exact e1_4 | 5, _ => exact e1_5 | 6, _ => exact e1_6 | 7, _ => exact e1_7 | 8, _ => exact e1_8 | 9, _ => exact e1_9)
  clear hA0 hval0
  refine (walk_CellApart a0 l0 c0 n1_0 n1_1 n1_2 n1_3 n1_4 n1_5 n1_6 n1_7 n1_8 n1_9 W s0 b1_0 b1_1 b1_2 b1_3 b1_4 b1_5 b1_6 b1_7 b1_8 b1_9).mono fun e W' ⟨he, bel⟩ => ?_
  subst he
  exact ⟨_, rfl, _, _, _, [], _, [], hW', trodAll_mk1 (shut_bool Try.underlying4 _), (trodAll_cons_mk (Below.trod laidOut (by kernel_rfl) (of_decide_eq_true (by kernel_rfl)) h0 bel lt0) (trodAll_cons_mk (Below.trod laidOut (by kernel_rfl) (of_decide_eq_true (by kernel_rfl)) h1 bel lt1) trodAll_mk0)), rfl, bel.frame _, fun h => by cases h⟩

theorem over : Rows.cellApartRow.holds Try.pinned (OpenSpec.ofChange Rows.cellApartSpec) :=
  OpenClaim.holds_of_wide 6 Try.f6 rfl rfl rfl rfl rfl rfl rfl ⟨rfl, rfl, rfl, rfl, rfl⟩ rfl rfl rfl rfl rfl (by kernel_rfl) Try.func6 (by kernel_rfl)
    (of_decide_eq_true (by kernel_rfl)) (by unfold Func.isWrapper; first | (rw [if_pos (by decide +kernel)]; kernel_rfl) | (rw [if_neg (by decide +kernel)]; exact ⟨rfl, rfl⟩))
    (fun os started H enc _ => lifted os started H enc)

theorem proved : Rows.CellApartSaid := over
#print axioms proved
end Go.Proofs.Ytmfkipefnacjdaa.cellApart
