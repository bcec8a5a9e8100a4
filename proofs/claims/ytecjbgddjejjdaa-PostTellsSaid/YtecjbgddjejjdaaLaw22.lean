/- The walk of PostTells. -/
import Derived.Test.YtecjbgddjejjdaaPost
namespace Go.Proofs.Ytecjbgddjejjdaa
open Go.RowKit

theorem keepC {V w' : World} {a : Addr} {v : Value} (hb : Below V.heap.size V w') (h : V.cell? a = some v) : w'.cell? a = some v := (hb.cell (World.block_lt_of_cell? V a h)).trans h

theorem keepB {w V w' : World} (hb : Below V.heap.size V w') (h : Below w.heap.size w V) : Below w.heap.size w w' := h.trans (hb.mono h.size)

/-- The three boxes of arguments. -/
structure BoxS (w : World) (x y : Int) (v : Value) (t a b c t' a' b' c' : Int) (V : World) : Prop where
  below : Below w.heap.size w V
  r0 : V.cell? ⟨w.heap.size, 0, none⟩ = some (.int .i64 x)
  r1 : V.cell? ⟨w.heap.size, 1, none⟩ = some (.int .u32 y)
  r2 : V.cell? ⟨w.heap.size, 2, none⟩ = some v
  l0 : V.cell? ⟨w.heap.size + 1, 0, none⟩ = some (.int .u64 t)
  l1 : V.cell? ⟨w.heap.size + 1, 1, none⟩ = some (.int .u64 a)
  l2 : V.cell? ⟨w.heap.size + 1, 2, none⟩ = some (.int .u64 b)
  l3 : V.cell? ⟨w.heap.size + 1, 3, none⟩ = some (.int .u64 c)
  s0 : V.cell? ⟨w.heap.size + 1 + 1, 0, none⟩ = some (.int .u64 t')
  s1 : V.cell? ⟨w.heap.size + 1 + 1, 1, none⟩ = some (.int .u64 a')
  s2 : V.cell? ⟨w.heap.size + 1 + 1, 2, none⟩ = some (.int .u64 b')
  s3 : V.cell? ⟨w.heap.size + 1 + 1, 3, none⟩ = some (.int .u64 c')

theorem BoxS.next {w : World} {x y : Int} {v : Value} {t a b c t' a' b' c' : Int} {V V' : World} (h : BoxS w x y v t a b c t' a' b' c' V) (hb : Below V.heap.size V V') : BoxS w x y v t a b c t' a' b' c' V' :=
  ⟨h.below.trans (hb.mono h.below.size), keepC hb h.r0, keepC hb h.r1, keepC hb h.r2, keepC hb h.l0, keepC hb h.l1, keepC hb h.l2, keepC hb h.l3, keepC hb h.s0, keepC hb h.s1, keepC hb h.s2, keepC hb h.s3⟩

/-- A result's cells. -/
structure ResS (b1 : Nat) (p q : Int) (V : World) : Prop where
  p0 : V.cell? ⟨b1, 0, none⟩ = some (.int .i64 p)
  p1 : V.cell? ⟨b1, 1, none⟩ = some (.int .u32 q)
  p2 : V.cell? ⟨b1, 2, none⟩ = some (.slice none 0 0)
theorem ResS.next {b1 : Nat} {p q : Int} {V V' : World} (h : ResS b1 p q V) (hb : Below V.heap.size V V') : ResS b1 p q V' := ⟨keepC hb h.p0, keepC hb h.p1, keepC hb h.p2⟩
theorem below_new (V : World) (o : Obj) : Below V.heap.size V (V.alloc o) := (Below.refl _ _).alloc (Nat.le_refl _) o

set_option maxRecDepth 100000 in
set_option maxHeartbeats 4000000 in
theorem walk_PostTells (n0 n1 n2_0 n2_1 : Int) (v2_2 : Value) (n3_0 n3_1 n3_2 n3_3 n4_0 n4_1 n4_2 n4_3 : Int) (w : World) (b0 : IntKind.u64.min ≤ n0 ∧ n0 ≤ IntKind.u64.max) (_b1 : IntKind.u64.min ≤ n1 ∧ n1 ≤ IntKind.u64.max)
    (_b2_0 : IntKind.i64.min ≤ n2_0 ∧ n2_0 ≤ IntKind.i64.max) (b2_1 : IntKind.u32.min ≤ n2_1 ∧ n2_1 ≤ IntKind.u32.max)
    (b3_0 : IntKind.u64.min ≤ n3_0 ∧ n3_0 ≤ IntKind.u64.max) (b3_1 : IntKind.u64.min ≤ n3_1 ∧ n3_1 ≤ IntKind.u64.max) (b3_2 : IntKind.u64.min ≤ n3_2 ∧ n3_2 ≤ IntKind.u64.max) (b3_3 : IntKind.u64.min ≤ n3_3 ∧ n3_3 ≤ IntKind.u64.max)
    (b4_0 : IntKind.u64.min ≤ n4_0 ∧ n4_0 ≤ IntKind.u64.max) (b4_1 : IntKind.u64.min ≤ n4_1 ∧ n4_1 ≤ IntKind.u64.max) (b4_2 : IntKind.u64.min ≤ n4_2 ∧ n4_2 ≤ IntKind.u64.max) (b4_3 : IntKind.u64.min ≤ n4_3 ∧ n4_3 ≤ IntKind.u64.max) :
    Calls Try.prog 3 #[.int .u64 n0, .int .u64 n1, .agg #[.int .i64 n2_0, .int .u32 n2_1, v2_2], .agg #[.int .u64 n3_0, .int .u64 n3_1, .int .u64 n3_2, .int .u64 n3_3], .agg #[.int .u64 n4_0, .int .u64 n4_1, .int .u64 n4_2, .int .u64 n4_3]] w fun e w' => e = .returned (.bool true) ∧ Below w.heap.size w w' := by
  simp [IntKind.min, IntKind.max, IntKind.signed, IntKind.bits] at *
  obtain ⟨s, rfl⟩ := Int.eq_ofNat_of_zero_le b0.1
  obtain ⟨t, rfl⟩ := Int.eq_ofNat_of_zero_le b3_0.1
  obtain ⟨a, rfl⟩ := Int.eq_ofNat_of_zero_le b3_1.1
  obtain ⟨b, rfl⟩ := Int.eq_ofNat_of_zero_le b3_2.1
  obtain ⟨c, rfl⟩ := Int.eq_ofNat_of_zero_le b3_3.1
  obtain ⟨t', rfl⟩ := Int.eq_ofNat_of_zero_le b4_0.1
  obtain ⟨a', rfl⟩ := Int.eq_ofNat_of_zero_le b4_1.1
  obtain ⟨b', rfl⟩ := Int.eq_ofNat_of_zero_le b4_2.1
  obtain ⟨c', rfl⟩ := Int.eq_ofNat_of_zero_le b4_3.1
  have h2_1 : 0 ≤ n2_1 ∧ n2_1 < 4294967296 := ⟨b2_1.1, by omega⟩
  clear b0 b3_0 b3_1 b3_2 b3_3 b4_0 b4_1 b4_2 b4_3 _b1 _b2_0 b2_1
  obtain ⟨p, q, m, k, hT⟩ : ∃ (p q m : Int) (k : Bool), toldV s t a b c = .tuple #[.agg #[.int .i64 p, .int .u32 q, .slice none 0 0], .int .u64 m, .bool k] := by
    unfold toldV
    split
    · exact ⟨_, _, _, _, rfl⟩
    · exact ⟨_, _, _, _, rfl⟩
  go_enter Try.func3, Try.ntmps3
  go_wp2_with fail
  refine (Told_any s t a b c _).mono ?_
  rintro e w1 ⟨rfl, hb1⟩
  rw [hT]
  have hS1 := BoxS.next (w := w) (x := n2_0) (y := n2_1) (v := v2_2) (t := t) (a := a) (b := b) (c := c) (t' := t') (a' := a') (b' := b') (c' := c') ⟨by (repeat (first | exact Below.refl _ _ | assumption | apply Below.drew | apply below_drewN | (refine Below.alloc ?_ (by simp <;> omega) _) | (refine Below.setCell ?_ (by simp <;> omega) _))), by simp [go_sem], by simp [go_sem], by simp [go_sem], by simp [go_sem], by simp [go_sem], by simp [go_sem], by simp [go_sem], by simp [go_sem], by simp [go_sem], by simp [go_sem], by simp [go_sem]⟩ hb1
  have HS1 := Lib.hid hS1
  have l0 := fun o => (hS1.next (below_new w1 o)).l0
  have l1 := fun o => (hS1.next (below_new w1 o)).l1
  have l2 := fun o => (hS1.next (below_new w1 o)).l2
  have l3 := fun o => (hS1.next (below_new w1 o)).l3
  clear hS1 hb1
  go_wp2_with fail
  refine (rTold_any s t a b c _).mono ?_
  rintro e w2 ⟨rfl, hb2⟩
  rw [hT]
  clear hT l0 l1 l2 l3
  have hS2 := (HS1.out.next (below_new w1 _)).next hb2
  have hR2 := (show ResS w1.heap.size p q _ from ⟨by simp [go_sem], by simp [go_sem], by simp [go_sem]⟩).next hb2
  have hS3 := fun o => hS2.next (below_new w2 o)
  have hR3 := fun o => hR2.next (below_new w2 o)
  have hQ3 : ResS w2.heap.size p q (w2.alloc (.cells #[.int .i64 p, .int .u32 q, .slice none 0 0] 27)) := ⟨by simp [go_sem], by simp [go_sem], by simp [go_sem]⟩
  clear HS1 hS2 hR2 hb2
  go_wp2_with fail
  obtain ⟨sb, r0, r1, r2, l0, l1, l2, l3, s0, s1, s2, s3⟩ := hS3 (.cells #[.int .i64 p, .int .u32 q, .slice none 0 0] 27)
  obtain ⟨p0, p1, p2⟩ := hR3 (.cells #[.int .i64 p, .int .u32 q, .slice none 0 0] 27)
  obtain ⟨q0, q1, q2⟩ := hQ3
  clear hS3 hR3
  generalize (w2.alloc (.cells #[.int .i64 p, .int .u32 q, .slice none 0 0] 27)) = W at *
  go_region_held3 (fun V => Below w.heap.size w V ∧ V.cell? ⟨w.heap.size, 0, none⟩ = some (.int .i64 n2_0) ∧ V.cell? ⟨w.heap.size, 1, none⟩ = some (.int .u32 n2_1) ∧ V.cell? ⟨w.heap.size, 2, none⟩ = some v2_2 ∧
      V.cell? ⟨w.heap.size + 1, 0, none⟩ = some (.int .u64 t) ∧ V.cell? ⟨w.heap.size + 1, 1, none⟩ = some (.int .u64 a) ∧ V.cell? ⟨w.heap.size + 1, 2, none⟩ = some (.int .u64 b) ∧ V.cell? ⟨w.heap.size + 1, 3, none⟩ = some (.int .u64 c) ∧
      V.cell? ⟨w.heap.size + 1 + 1, 0, none⟩ = some (.int .u64 t') ∧ V.cell? ⟨w.heap.size + 1 + 1, 1, none⟩ = some (.int .u64 a') ∧ V.cell? ⟨w.heap.size + 1 + 1, 2, none⟩ = some (.int .u64 b') ∧ V.cell? ⟨w.heap.size + 1 + 1, 3, none⟩ = some (.int .u64 c') ∧
      V.cell? ⟨w1.heap.size, 0, none⟩ = some (.int .i64 p) ∧ V.cell? ⟨w1.heap.size, 1, none⟩ = some (.int .u32 q) ∧ V.cell? ⟨w1.heap.size, 2, none⟩ = some (.slice none 0 0) ∧
      V.cell? ⟨w2.heap.size, 0, none⟩ = some (.int .i64 p) ∧ V.cell? ⟨w2.heap.size, 1, none⟩ = some (.int .u32 q) ∧ V.cell? ⟨w2.heap.size, 2, none⟩ = some (.slice none 0 0))
    (first
      | (try go_split_ands
         try dsimp only
         repeat' apply And.intro
         all_goals first
           | assumption
           | (rw [World.cell?_drew]; assumption)
           | (refine Below.drew ?_; assumption)
           | exact keepC hb (by first | assumption | (rw [World.cell?_drew]; assumption))
           | exact keepB hb (by first | assumption | (refine Below.drew ?_; assumption))))
    (first
      | (go_at_call 9; refine (Pending_any _ _ _ _ _ _ _ _ _).mono ?_; rintro e w' ⟨rfl, hb⟩)
      | (go_at_call 10; refine (rPending_any _ _ _ _ _ _ _ _ _).mono ?_; rintro e w' ⟨rfl, hb⟩)
      | (go_at_call 11; refine (Tell_any _ _ _ _ _ _ h2_1).mono ?_; rintro e w' ⟨rfl, hb⟩; simp only [tellV])
      | (go_at_call 12; refine (rTell_any _ _ _ _ _ _ h2_1).mono ?_; rintro e w' ⟨rfl, hb⟩; simp only [tellV])
      | (go_at_call 13; refine (SameRes_any _ _ _).mono ?_; rintro e w' ⟨rfl, hb⟩))
  all_goals go_wp2_with fail
  all_goals go_ret
  all_goals exact ⟨rfl, by first | assumption | (go_split_ands; assumption)⟩

end Go.Proofs.Ytecjbgddjejjdaa
