/- Proved here: for every input the law PostPends returns true, and its arguments read afterwards as they read before; the card. Conditions: none beyond those of the given row. -/
import Derived.Test.YtecjbgddjejjdaaDoorCards
import Derived.Test.YtecjbgddjejjdaaDoorTie
import Derived.Test.YtecjbgddjejjdaaDoorFrame
import Derived.Test.YtecjbgddjejjdaaDoorPends
import Derived.Test.YtecjbgddjejjdaaDoorDoor22
import Derived.WalkKit
import Derived.ProofKit
import Derived.Below
import Derived.Carry
import Derived.ChangeOld
import Derived.OpenShut
import Derived.ShutString
import Derived.Deep.DeepHandedRow
import Derived.SevenTiedAt
namespace Go.Proofs.YtecjbgddjejjdaaDoor.postPends
open Go.ChangeShapes Go.WideShapes Go.ChangeAt Go.RowKit Fra
set_option linter.unusedVariables false

set_option maxRecDepth 100000 in
theorem contract (H : Type) (enc : TypeId × Value → H) (W : World) (base : Nat) (args : Array Value) (ds gs : List (DataW H)) (before : List MemPlace)
    (hval0 : ∀ (j : Nat) t v, Tryd.f6.params[j]? = some t → args[j]? = some v → Value.okWide Tryd.prog W .any base t v)
    (hW : DataW.Whole enc Tryd.prog Tryd.f6.params.toList Rows.postPendsSpec.vars false W args.toList ds gs before) (hL : laidMetH Tryd.prog Rows.postPendsRow.laid W) :
    Calls Tryd.prog 6 args W fun e W' => ∃ v, e = .returned v ∧ Rows.postPendsSpec.post enc Tryd.prog Tryd.f6 false true false false W args v W' := by
  have hval : ∀ (j : Nat) t v, Tryd.f6.params[j]? = some t → args[j]? = some v → Value.okWide Tryd.prog W .any base t v := hval0
  have hW' := hW
  obtain ⟨p, q, hA0, hV, rfl, hfz, hnd⟩ := hW
  have hA : DataW.TrodAll enc Tryd.prog W 0 (fun _ => true) true Tryd.f6.params.toList args.toList ds p := hA0
  rw [Tryd.params6] at hA hval
  obtain ⟨v0, vs0, d0, ds0, p0, q0, hargs, rfl, rfl, h0, r0⟩ := trodAll_cons hA
  obtain ⟨v1, vs1, d1, ds1, p1, q1, rfl, rfl, rfl, h1, r1⟩ := trodAll_cons r0
  obtain ⟨v2, vs2, d2, ds2, p2, q2, rfl, rfl, rfl, h2, r2⟩ := trodAll_cons r1
  obtain ⟨v3, vs3, d3, ds3, p3, q3, rfl, rfl, rfl, h3, r3⟩ := trodAll_cons r2
  obtain ⟨rfl, rfl, rfl⟩ := trodAll_nil r3
  obtain rfl : args = #[v0, v1, v2, v3] := by cases args; simp_all
  obtain ⟨rfl, rfl⟩ := trodVars_none hV
  have lt0 : ∀ x ∈ p0, x.block < W.heap.size := by obtain ⟨m, hm⟩ := h0; exact DataW.trod_lt m _ _ _ hm
  obtain ⟨l0, rfl, len0, ok0⟩ := val_agg (ts := [5, 3, 3, 5, 3, 3, 3, 3, 3, 3, 22, 22]) Tryd.underlying24 (by kernel_rfl) (by kernel_rfl) (hval 0 24 v0 rfl rfl)
  obtain ⟨y0_0, e0_0, o0_0⟩ := ok0 0 5 rfl
  obtain ⟨n0_0, rfl, b0_0⟩ := cell_int Tryd.underlying5 o0_0
  obtain ⟨y0_1, e0_1, o0_1⟩ := ok0 1 3 rfl
  obtain ⟨n0_1, rfl, b0_1⟩ := cell_int Tryd.underlying3 o0_1
  obtain ⟨y0_2, e0_2, o0_2⟩ := ok0 2 3 rfl
  obtain ⟨n0_2, rfl, b0_2⟩ := cell_int Tryd.underlying3 o0_2
  obtain ⟨y0_3, e0_3, o0_3⟩ := ok0 3 5 rfl
  obtain ⟨n0_3, rfl, b0_3⟩ := cell_int Tryd.underlying5 o0_3
  obtain ⟨y0_4, e0_4, o0_4⟩ := ok0 4 3 rfl
  obtain ⟨n0_4, rfl, b0_4⟩ := cell_int Tryd.underlying3 o0_4
  obtain ⟨y0_5, e0_5, o0_5⟩ := ok0 5 3 rfl
  obtain ⟨n0_5, rfl, b0_5⟩ := cell_int Tryd.underlying3 o0_5
  obtain ⟨y0_6, e0_6, o0_6⟩ := ok0 6 3 rfl
  obtain ⟨n0_6, rfl, b0_6⟩ := cell_int Tryd.underlying3 o0_6
  obtain ⟨y0_7, e0_7, o0_7⟩ := ok0 7 3 rfl
  obtain ⟨n0_7, rfl, b0_7⟩ := cell_int Tryd.underlying3 o0_7
  obtain ⟨y0_8, e0_8, o0_8⟩ := ok0 8 3 rfl
  obtain ⟨n0_8, rfl, b0_8⟩ := cell_int Tryd.underlying3 o0_8
  obtain ⟨y0_9, e0_9, o0_9⟩ := ok0 9 3 rfl
  obtain ⟨n0_9, rfl, b0_9⟩ := cell_int Tryd.underlying3 o0_9
  obtain ⟨y0_10, e0_10, o0_10⟩ := ok0 10 22 rfl
  obtain ⟨n0_10, rfl, b0_10⟩ := cell_int Tryd.underlying22 o0_10
  obtain ⟨y0_11, e0_11, o0_11⟩ := ok0 11 22 rfl
  obtain ⟨n0_11, rfl, b0_11⟩ := cell_int Tryd.underlying22 o0_11
  obtain rfl : l0 = [.int .u8 n0_0, .int .i64 n0_1, .int .i64 n0_2, .int .u8 n0_3, .int .i64 n0_4, .int .i64 n0_5, .int .i64 n0_6, .int .i64 n0_7, .int .i64 n0_8, .int .i64 n0_9, .int .u64 n0_10, .int .u64 n0_11] := list_of len0 (by intro j hj; have hj' : j < 12 := hj; match j, hj' with | 0, _ => exact e0_0 | 1, _ => exact e0_1 | 2, _ => exact e0_2 | 3, _ => exact e0_3 | 4, _ => exact e0_4 | 5, _ => exact e0_5 | 6, _ => exact e0_6 | 7, _ => exact e0_7 | 8, _ => exact e0_8 | 9, _ => exact e0_9 | 10, _ => exact e0_10 | 11, _ => exact e0_11)
  have lt1 : ∀ x ∈ p1, x.block < W.heap.size := by obtain ⟨m, hm⟩ := h1; exact DataW.trod_lt m _ _ _ hm
  obtain ⟨n1, rfl, b1⟩ := val_int Tryd.underlying3 (hval 1 3 v1 rfl rfl)
  have lt2 : ∀ x ∈ p2, x.block < W.heap.size := by obtain ⟨m, hm⟩ := h2; exact DataW.trod_lt m _ _ _ hm
  obtain ⟨n2, rfl, b2⟩ := val_int Tryd.underlying22 (hval 2 22 v2 rfl rfl)
  have lt3 : ∀ x ∈ p3, x.block < W.heap.size := by obtain ⟨m, hm⟩ := h3; exact DataW.trod_lt m _ _ _ hm
  obtain ⟨l3, rfl, len3, ok3⟩ := val_agg (ts := [5, 25, 25, 25]) Tryd.underlying27 (by kernel_rfl) (by kernel_rfl) (hval 3 27 v3 rfl rfl)
  obtain ⟨y3_0, e3_0, o3_0⟩ := ok3 0 5 rfl
  obtain ⟨n3_0, rfl, b3_0⟩ := cell_int Tryd.underlying5 o3_0
  obtain ⟨y3_1, e3_1, o3_1⟩ := ok3 1 25 rfl
  obtain ⟨n3_1, rfl, b3_1⟩ := cell_int Tryd.underlying25 o3_1
  obtain ⟨y3_2, e3_2, o3_2⟩ := ok3 2 25 rfl
  obtain ⟨n3_2, rfl, b3_2⟩ := cell_int Tryd.underlying25 o3_2
  obtain ⟨y3_3, e3_3, o3_3⟩ := ok3 3 25 rfl
  obtain ⟨n3_3, rfl, b3_3⟩ := cell_int Tryd.underlying25 o3_3
  obtain rfl : l3 = [.int .u8 n3_0, .int .u32 n3_1, .int .u32 n3_2, .int .u32 n3_3] := list_of len3 (by intro j hj; have hj' : j < 4 := hj; match j, hj' with | 0, _ => exact e3_0 | 1, _ => exact e3_1 | 2, _ => exact e3_2 | 3, _ => exact e3_3)
  clear hA0 hval0
  refine (walk_PostPends n0_0 n0_1 n0_2 n0_3 n0_4 n0_5 n0_6 n0_7 n0_8 n0_9 n0_10 n0_11 n1 n2 n3_0 n3_1 n3_2 n3_3 W b0_0 b0_1 b0_2 b0_3 b0_4 b0_5 b0_6 b0_7 b0_8 b0_9 b0_10 b0_11 b1 b2 b3_0 b3_1 b3_2 b3_3 (all_of_laid hL)).mono fun e W' ⟨he, bel⟩ => ?_
  subst he
  exact ⟨_, rfl, _, _, _, [], _, [], hW', trodAll_mk1 (shut_bool Tryd.underlying4 _), (trodAll_cons_mk (Below.trod laidOut (by kernel_rfl) (of_decide_eq_true (by kernel_rfl)) h0 bel lt0) (trodAll_cons_mk (Below.trod laidOut (by kernel_rfl) (of_decide_eq_true (by kernel_rfl)) h1 bel lt1) (trodAll_cons_mk (Below.trod laidOut (by kernel_rfl) (of_decide_eq_true (by kernel_rfl)) h2 bel lt2) (trodAll_cons_mk (Below.trod laidOut (by kernel_rfl) (of_decide_eq_true (by kernel_rfl)) h3 bel lt3) trodAll_mk0)))), rfl, bel.frame _, fun h => by cases h⟩

noncomputable def laidWorld (os : Os) : World :=
  { World.holding Tryd.prog os ⟨#[], #[], []⟩ with heap := ((((World.holding Tryd.prog os ⟨#[], #[], []⟩).heap.modify 1 (fun | .cells _ t frozen => .cells #[.int .u8 0, .int .u8 1, .int .u8 1, .int .u8 1, .int .u8 2, .int .u8 2, .int .u8 2, .int .u8 2, .int .u8 2, .int .u8 3, .int .u8 3, .int .u8 3, .int .u8 4, .int .u8 4, .int .u8 4] t frozen | o => o)).modify 0 (fun | .cells _ t frozen => .cells #[.bool false, .bool true, .bool true, .bool false, .bool true, .bool true, .bool false, .bool false, .bool false, .bool true, .bool true, .bool false, .bool true, .bool true, .bool false] t frozen | o => o)).modify 2 (fun | .cells _ t frozen => .cells #[.int .i64 1, .int .i64 2, .int .i64 4, .int .i64 8, .int .i64 16, .int .i64 1, .int .i64 3, .int .i64 9, .int .i64 27, .int .i64 81, .int .i64 1, .int .i64 4, .int .i64 16, .int .i64 64, .int .i64 256] t frozen | o => o)) }
theorem laid_met (os : Os) : laidMet Tryd.prog Rows.postPendsRow.laid ((laidWorld os).forCall (fun _ _ => 0) ⟨#[], #[.agg #[.int .u8 0, .int .i64 0, .int .i64 0, .int .u8 0, .int .i64 0, .int .i64 0, .int .i64 0, .int .i64 0, .int .i64 0, .int .i64 0, .int .u64 0, .int .u64 0], .int .i64 0, .int .u64 0, .agg #[.int .u8 0, .int .u32 0, .int .u32 0, .int .u32 0]], []⟩).memory :=
  laidMet_of_run' 8 (by kernel_rfl) (by kernel_rfl)
theorem reads (os : Os) {H : Type} (enc : TypeId × Value → H) : ∃ places, DataW.whole enc Tryd.prog ((laidWorld os).forCall (fun _ _ => 0) ⟨#[], #[.agg #[.int .u8 0, .int .i64 0, .int .i64 0, .int .u8 0, .int .i64 0, .int .i64 0, .int .i64 0, .int .i64 0, .int .i64 0, .int .i64 0, .int .u64 0, .int .u64 0], .int .i64 0, .int .u64 0, .agg #[.int .u8 0, .int .u32 0, .int .u32 0, .int .u32 0]], []⟩).memory Tryd.f6.params.toList Rows.postPendsSpec.vars false (#[.agg #[.int .u8 0, .int .i64 0, .int .i64 0, .int .u8 0, .int .i64 0, .int .i64 0, .int .i64 0, .int .i64 0, .int .i64 0, .int .i64 0, .int .u64 0, .int .u64 0], .int .i64 0, .int .u64 0, .agg #[.int .u8 0, .int .u32 0, .int .u32 0, .int .u32 0]] : Array Value).toList 8 = some ([.agg [.lit (.int .u8 0), .lit (.int .i64 0), .lit (.int .i64 0), .lit (.int .u8 0), .lit (.int .i64 0), .lit (.int .i64 0), .lit (.int .i64 0), .lit (.int .i64 0), .lit (.int .i64 0), .lit (.int .i64 0), .lit (.int .u64 0), .lit (.int .u64 0)], .lit (.int .i64 0), .lit (.int .u64 0), .agg [.lit (.int .u8 0), .lit (.int .u32 0), .lit (.int .u32 0), .lit (.int .u32 0)]], [], places) :=
  ⟨[], by kernel_rfl⟩

set_option maxRecDepth 100000 in
theorem lifted (os : Os) (started : os.Started) (H : Type) (enc : TypeId × Value → H) (F : Stop.Interp) :
    ReturnsInHanded {} Tryd.checked os 6 .any ((OpenSpec.ofChange Rows.postPendsSpec).preRow enc Tryd.prog Tryd.f6 Rows.postPendsRow.domain false Rows.postPendsRow.laid) (((OpenSpec.ofChange Rows.postPendsSpec).at F).post enc Tryd.prog Tryd.f6 false true false false) := by
  obtain ⟨places, hx⟩ := reads os enc
  refine returnsInHanded_of_row (C := Tryd.checked) (s := OpenSpec.ofChange Rows.postPendsSpec) own started (by kernel_rfl) Tryd.func6
    (witness_row_at (enc := enc) (C := Tryd.checked) false (laidWorld os) #[.agg #[.int .u8 0, .int .i64 0, .int .i64 0, .int .u8 0, .int .i64 0, .int .i64 0, .int .i64 0, .int .i64 0, .int .i64 0, .int .i64 0, .int .u64 0, .int .u64 0], .int .i64 0, .int .u64 0, .agg #[.int .u8 0, .int .u32 0, .int .u32 0, .int .u32 0]] rfl (by kernel_rfl) (by kernel_rfl) (by kernel_rfl)
      (OpenSpec.preRow_of_cond 8 hx (by kernel_rfl) (fun k hk => by cases hk) (by kernel_rfl) (laid_met os))) ?_
  intro W base args ds gs before hval hW _ _ _ hL _ _
  exact contract H enc W base args ds gs before hval hW hL

theorem said : Rows.PostPendsSaid :=
  OpenClaim.holds_of_cond 6 Tryd.f6 rfl rfl rfl rfl rfl rfl rfl ⟨rfl, rfl, rfl, rfl, rfl⟩ rfl rfl rfl rfl rfl (by kernel_rfl) Tryd.func6 (by kernel_rfl)
    (of_decide_eq_true (by kernel_rfl)) (by unfold Func.isWrapper; first | (rw [if_pos (by decide +kernel)]; kernel_rfl) | (rw [if_neg (by decide +kernel)]; exact ⟨rfl, rfl⟩))
    (fun os started H enc _ F => by rw [OpenClaim.pre_eq_preRow]; exact lifted os started H enc F)

theorem plain (f : FuncId) (fn : Func) (hf : Tryd.pinned.checked.prog.funcNamed Rows.postPendsRow.func = some f) (hfn : Tryd.pinned.checked.prog.funcs[f]? = some fn) :
    false = Tryd.pinned.checked.prog.looks [] ∧ ∀ (j : Nat) t, fn.params[j]? = some t → Tryd.pinned.checked.prog.wantsStandIn t = false := by
  obtain rfl : f = 6 := Option.some.inj ((show Tryd.prog.funcNamed Rows.postPendsRow.func = some 6 by kernel_rfl).symm.trans hf) |>.symm
  obtain rfl : fn = Tryd.f6 := (Option.some.inj (Tryd.func6.symm.trans hfn)).symm
  refine ⟨by kernel_rfl, fun j t ht => ?_⟩
  rw [Tryd.params6] at ht
  have hall : ∀ x ∈ [24, 3, 22, 27], Tryd.prog.wantsStandIn x = false := List.forall_mem_cons.2 ⟨(show Tryd.prog.wantsStandIn 24 = false by kernel_rfl), List.forall_mem_cons.2 ⟨(show Tryd.prog.wantsStandIn 3 = false by kernel_rfl), List.forall_mem_cons.2 ⟨(show Tryd.prog.wantsStandIn 22 = false by kernel_rfl), List.forall_mem_cons.2 ⟨(show Tryd.prog.wantsStandIn 27 = false by kernel_rfl), fun x h => by cases h⟩⟩⟩⟩
  exact hall t (by have hm := Array.mem_of_getElem? ht; simpa using hm)

theorem proved : Rows.PostPendsCardSaid :=
  Claim7.holds_tied_plain_at .later [] _ _ _ _ said (fun _ h => by cases h) (by kernel_rfl) (fun _ h => by cases h) postPends_row_tie rfl ⟨rfl, rfl⟩ (by kernel_rfl) rfl plain (by kernel_rfl)
#print axioms proved
end Go.Proofs.YtecjbgddjejjdaaDoor.postPends
