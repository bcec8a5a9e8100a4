/- Contract of reg.Laid. -/
import Derived.Test.YtnaggpkcaioppaaReg
import Derived.Laws.PanicsMore
import Derived.Laws.Bits64
namespace Go.Proofs.Ytnaggpkcaioppaa
open Go.RowKit

/-- A register, as a value. -/
def descV (tag K sq ki A B pc i j n p h X Y : Nat) : Value := .agg #[.int .u64 tag, .int .u8 K, .int .u8 sq, .int .u8 ki, .int .u32 A, .int .u32 B, .int .u8 pc, .int .u8 i, .int .u8 j, .int .u8 n, .int .u8 p, .int .u8 h, .int .u32 X, .int .u32 Y]
def nine (K sq ki pc i j n p h : Nat) (t : Nat) : Nat := [K, sq, ki, pc, i, j, n, p, h].getD t 0
def wordsN (vs : Nat → Nat) (k : Nat) : List Nat := (List.range k).map vs
theorem wordsN_succ (vs : Nat → Nat) (k : Nat) : wordsN vs (k + 1) = wordsN vs k ++ [vs k] := by simp [wordsN, List.range_succ]
theorem wordsN_len (vs : Nat → Nat) (k : Nat) : (wordsN vs k).length = k := by simp [wordsN]
theorem words_row {w : World} {b : Nat} {v : Value} {vs : Nat → Nat} {n : Nat} (h : w.ownsRow b 30 1 v n (u64s (wordsN vs n))) : ∃ a cap, v = .slice a n cap ∧ WordsAt w a n vs ∧ ∀ b off, a = some ⟨b, off, none⟩ → b < w.heap.size := by
  rcases h.2 with ⟨rfl, h0⟩ | ⟨g, cap, cur, rfl, _, hh, _⟩
  · exact ⟨none, 0, by rw [h0], .inl h0, by simp⟩
  · refine ⟨_, cap, rfl, .inr ⟨g, 0, rfl, fun i hi => ?_⟩, fun b off e => ?_⟩
    · have := h.cellAt i (by omega)
      rw [Nat.zero_add, this]
      simp [u64s, wordsN, hi]
    · cases e
      exact (Array.getElem?_eq_some_iff.1 hh).1
theorem new1 (W : World) (u : Value) (t : TypeId) : (W.alloc (.cells #[u] t)).cell? ⟨W.heap.size, 0, none⟩ = some u := by simp [go_sem]
theorem nine_k (k : Nat) (h : k < 9) : k = 0 ∨ k = 1 ∨ k = 2 ∨ k = 3 ∨ k = 4 ∨ k = 5 ∨ k = 6 ∨ k = 7 ∨ k = 8 := by omega

def regW (w : World) (tag K sq ki A B pc i j n p h X Y : Nat) : World :=
  ((w.alloc (.cells #[.int .u64 tag, .int .u8 K, .int .u8 sq, .int .u8 ki, .int .u32 A, .int .u32 B, .int .u8 pc, .int .u8 i, .int .u8 j, .int .u8 n, .int .u8 p, .int .u8 h, .int .u32 X, .int .u32 Y] 32)).alloc (.cells #[.int .u64 0, .int .u64 0, .int .u64 0, .int .u64 0] 34)).alloc
    (.cells #[.int .u8 ki, .int .u32 A, .int .u32 B, .int .u8 pc, .int .u8 i, .int .u8 j, .int .u8 n, .int .u8 p, .int .u8 h, .int .u32 X, .int .u32 Y] 26)

theorem regW_eq (w : World) (tag K sq ki A B pc i j n p h X Y : Nat) :
  ((w.alloc (.cells #[.int .u64 tag, .int .u8 K, .int .u8 sq, .int .u8 ki, .int .u32 A, .int .u32 B, .int .u8 pc, .int .u8 i, .int .u8 j, .int .u8 n, .int .u8 p, .int .u8 h, .int .u32 X, .int .u32 Y] 32)).alloc (.cells #[.int .u64 0, .int .u64 0, .int .u64 0, .int .u64 0] 34)).alloc
    (.cells #[.int .u8 ki, .int .u32 A, .int .u32 B, .int .u8 pc, .int .u8 i, .int .u8 j, .int .u8 n, .int .u8 p, .int .u8 h, .int .u32 X, .int .u32 Y] 26) = regW w tag K sq ki A B pc i j n p h X Y := rfl

/-- What Laid reads and writes of its own boxes. -/
structure RegW (w : World) (tag A B X Y : Nat) (W : World) : Prop where
  below : Below w.heap.size w W
  tag : W.cell? ⟨w.heap.size, 0, none⟩ = some (.int .u64 tag)
  a : W.cell? ⟨w.heap.size + 1 + 1, 1, none⟩ = some (.int .u32 A)
  b : W.cell? ⟨w.heap.size + 1 + 1, 2, none⟩ = some (.int .u32 B)
  x : W.cell? ⟨w.heap.size + 1 + 1, 9, none⟩ = some (.int .u32 X)
  y : W.cell? ⟨w.heap.size + 1 + 1, 10, none⟩ = some (.int .u32 Y)
  r0 : W.cell? ⟨w.heap.size + 1, 0, none⟩ = some (.int .u64 0)
  r1 : W.cell? ⟨w.heap.size + 1, 1, none⟩ = some (.int .u64 0)
  r2 : W.cell? ⟨w.heap.size + 1, 2, none⟩ = some (.int .u64 0)
  r3 : W.cell? ⟨w.heap.size + 1, 3, none⟩ = some (.int .u64 0)
  f0 : W.frozen? ⟨w.heap.size + 1, 0, none⟩ = false
  f1 : W.frozen? ⟨w.heap.size + 1, 1, none⟩ = false
  f2 : W.frozen? ⟨w.heap.size + 1, 2, none⟩ = false
  f3 : W.frozen? ⟨w.heap.size + 1, 3, none⟩ = false

theorem RegW.next {w W W' : World} {tag A B X Y : Nat} (h : RegW w tag A B X Y W) (hb : Below W.heap.size W W') : RegW w tag A B X Y W' :=
  ⟨keepB hb h.below, keepC hb h.tag, keepC hb h.a, keepC hb h.b, keepC hb h.x, keepC hb h.y, keepC hb h.r0, keepC hb h.r1, keepC hb h.r2, keepC hb h.r3, keepF hb h.r0 h.f0, keepF hb h.r1 h.f1, keepF hb h.r2 h.f2, keepF hb h.r3 h.f3⟩

theorem regW_facts (w : World) (tag K sq ki A B pc i j n p h X Y : Nat) : RegW w tag A B X Y (regW w tag K sq ki A B pc i j n p h X Y) := by
  unfold regW
  exact ⟨by (repeat (first | exact Below.refl _ _ | assumption | apply Below.drew | apply below_drewN | (refine Below.alloc ?_ (by simp <;> omega) _) | (refine Below.setCell ?_ (by simp <;> omega) _))), by simp [go_sem], by simp [go_sem], by simp [go_sem], by simp [go_sem], by simp [go_sem], by simp [go_sem], by simp [go_sem], by simp [go_sem], by simp [go_sem], by simp [go_sem], by simp [go_sem], by simp [go_sem], by simp [go_sem]⟩

theorem idx0 (a b c d e f g h i : Value) (w : World) : (Instr.index 45 (.agg #[a, b, c, d, e, f, g, h, i]) (.int .i64 0)).run Try.prog w = .ok a w := by
  simp [Instr.index, run_underlying Try.underlying45, asIntOf, go_sem]
theorem idx1 (a b c d e f g h i : Value) (w : World) : (Instr.index 45 (.agg #[a, b, c, d, e, f, g, h, i]) (.int .i64 1)).run Try.prog w = .ok b w := by
  simp [Instr.index, run_underlying Try.underlying45, asIntOf, go_sem]
theorem idx2 (a b c d e f g h i : Value) (w : World) : (Instr.index 45 (.agg #[a, b, c, d, e, f, g, h, i]) (.int .i64 2)).run Try.prog w = .ok c w := by
  simp [Instr.index, run_underlying Try.underlying45, asIntOf, go_sem]
theorem idx3 (a b c d e f g h i : Value) (w : World) : (Instr.index 45 (.agg #[a, b, c, d, e, f, g, h, i]) (.int .i64 3)).run Try.prog w = .ok d w := by
  simp [Instr.index, run_underlying Try.underlying45, asIntOf, go_sem]
theorem idx4 (a b c d e f g h i : Value) (w : World) : (Instr.index 45 (.agg #[a, b, c, d, e, f, g, h, i]) (.int .i64 4)).run Try.prog w = .ok e w := by
  simp [Instr.index, run_underlying Try.underlying45, asIntOf, go_sem]
theorem idx5 (a b c d e f g h i : Value) (w : World) : (Instr.index 45 (.agg #[a, b, c, d, e, f, g, h, i]) (.int .i64 5)).run Try.prog w = .ok f w := by
  simp [Instr.index, run_underlying Try.underlying45, asIntOf, go_sem]
theorem idx6 (a b c d e f g h i : Value) (w : World) : (Instr.index 45 (.agg #[a, b, c, d, e, f, g, h, i]) (.int .i64 6)).run Try.prog w = .ok g w := by
  simp [Instr.index, run_underlying Try.underlying45, asIntOf, go_sem]
theorem idx7 (a b c d e f g h i : Value) (w : World) : (Instr.index 45 (.agg #[a, b, c, d, e, f, g, h, i]) (.int .i64 7)).run Try.prog w = .ok h w := by
  simp [Instr.index, run_underlying Try.underlying45, asIntOf, go_sem]
theorem idx8 (a b c d e f g h i : Value) (w : World) : (Instr.index 45 (.agg #[a, b, c, d, e, f, g, h, i]) (.int .i64 8)).run Try.prog w = .ok i w := by
  simp [Instr.index, run_underlying Try.underlying45, asIntOf, go_sem]
attribute [local go_sem] idx0 idx1 idx2 idx3 idx4 idx5 idx6 idx7 idx8

/-- What Laid answers. -/
def laidV (tag A B X Y : Nat) (v : Nat → Nat) : Value :=
  if fits9 v then .tuple #[.agg #[.int .u64 tag, .int .u64 (sum9 v), .int .u64 ((B * 4294967296 + A : Nat) : Int), .int .u64 ((Y * 4294967296 + X : Nat) : Int)], .int .i64 0]
  else .tuple #[.agg #[.int .u64 0, .int .u64 0, .int .u64 0, .int .u64 0], .int .i64 10]

theorem words2 (w : World) (t : TypeId) (p q : Nat) : WordsAt (w.alloc (.cells #[.int .u64 p, .int .u64 q] t)) (some ⟨w.heap.size, 0, none⟩) 2 (fun i => [p, q].getD i 0) := by
  refine .inr ⟨w.heap.size, 0, rfl, fun i hi => ?_⟩
  match i, hi with
  | 0, _ => simp [go_sem]
  | 1, _ => simp [go_sem]
theorem two_join (x y : Nat) (hx : x < 4294967296) (hy : y < 4294967296) : joinV twoB (fun i => [x, y].getD i 0) 2 = y * 4294967296 + x ∧ joinE twoB (fun i => [x, y].getD i 0) 2 = 0 := join_two 32 32 x y (by omega) (by omega) (by omega) hx hy
theorem small_lo : ∀ i, i < 9 → -9223372036854775808 ≤ smallB i := by decide
theorem small_hi : ∀ i, i < 9 → smallB i ≤ 9223372036854775807 := by decide
theorem two_lo : ∀ i, i < 2 → -9223372036854775808 ≤ twoB i := by decide
theorem two_hi : ∀ i, i < 2 → twoB i ≤ 9223372036854775807 := by decide
theorem lt_two (x y : Nat) (hx : x < 4294967296) (hy : y < 4294967296) (i : Nat) (hi : i < 2) : (fun i => [x, y].getD i 0) i < 18446744073709551616 := by
  match i, hi with
  | 0, _ => exact Nat.lt_trans hx (by decide)
  | 1, _ => exact Nat.lt_trans hy (by decide)
theorem nine_lt (v : Nat → Nat) (h : v 0 < 256 ∧ v 1 < 256 ∧ v 2 < 256 ∧ v 3 < 256 ∧ v 4 < 256 ∧ v 5 < 256 ∧ v 6 < 256 ∧ v 7 < 256 ∧ v 8 < 256) (i : Nat) (hi : i < 9) : v i < 18446744073709551616 := by
  rcases nine_k i hi with rfl | rfl | rfl | rfl | rfl | rfl | rfl | rfl | rfl <;> omega

set_option maxHeartbeats 3200000 in
theorem Laid_any (tag K sq ki A B pc i j n p h X Y : Nat) (w : World) (hK : K < 256) (hs : sq < 256) (hk : ki < 256) (hA : A < 4294967296) (hB : B < 4294967296) (hp : pc < 256) (hi : i < 256) (hj : j < 256) (hn : n < 256) (hP : p < 256) (hh : h < 256) (hX : X < 4294967296) (hY : Y < 4294967296) :
    Calls Try.prog 10 #[.agg #[.int .u64 tag, .int .u8 K, .int .u8 sq, .int .u8 ki, .int .u32 A, .int .u32 B, .int .u8 pc, .int .u8 i, .int .u8 j, .int .u8 n, .int .u8 p, .int .u8 h, .int .u32 X, .int .u32 Y]] w fun e w' => e = .returned (laidV tag A B X Y (nine K sq ki pc i j n p h)) ∧ Below w.heap.size w w' := by
  obtain ⟨i0, hi0, hz0, hz1, hz2⟩ := info_parts info64
  have HW := Lib.hid (regW_facts w tag K sq ki A B pc i j n p h X Y)
  have HN := Lib.hid (show nine K sq ki pc i j n p h 0 = K ∧ nine K sq ki pc i j n p h 1 = sq ∧ nine K sq ki pc i j n p h 2 = ki ∧ nine K sq ki pc i j n p h 3 = pc ∧ nine K sq ki pc i j n p h 4 = i ∧ nine K sq ki pc i j n p h 5 = j ∧ nine K sq ki pc i j n p h 6 = n ∧ nine K sq ki pc i j n p h 7 = p ∧ nine K sq ki pc i j n p h 8 = h from ⟨rfl, rfl, rfl, rfl, rfl, rfl, rfl, rfl, rfl⟩)
  go_enter Try.func10, Try.ntmps10
  go_wp2_with fail
  rw [regW_eq]
  generalize regW w tag K sq ki A B pc i j n p h X Y = W at *
  generalize hV : nine K sq ki pc i j n p h = V at *
  go_loopw [5, 7, 35] (fun v _ t wr => ∃ k : Nat, k ≤ 9 ∧ t = .int .i64 k ∧ wr.ownsRow W.heap.size 30 1 v k (u64s (wordsN V k)) ∧ Below W.heap.size W wr) (fun _ _ t _ => 9 - (intOf t).toNat)
  case atStart => exact ⟨0, by omega, rfl, World.ownsRow_nil _ _ _ _, Below.refl _ _⟩
  case round =>
    obtain ⟨k, hk9, rfl, hown, hbel⟩ := hrel
    by_cases hlt : k < 9
    · have HO := Lib.hid hown
      have HS := Lib.hid (wordsN_succ V k)
      clear hown
      obtain ⟨v0, v1, v2, v3, v4, v5, v6, v7, v8⟩ := HN.out
      rcases nine_k k hlt with rfl | rfl | rfl | rfl | rfl | rfl | rfl | rfl | rfl
      · have HS' := Lib.hid (HS.out.trans (by rw [v0]))
        clear v0 v1 v2 v3 v4 v5 v6 v7 v8 hV HS
        go_wp2_with (at_builtin; refine wpList_append_own _ rfl _ _ 44 rfl W.heap.size 30 i0 (.int .u64 0) 1 8 Try.underlying44 hi0 hz0 hz1 hz2 rfl (by decide) _ _ _ rfl (HO.out.alloc _) ⟨wr.heap.size, 0, none⟩ 1 1 [.int .u64 K] rfl rfl (by intro j u hu; cases j with | zero => (simp at hu; subst hu; exact new1 _ _ _) | succ j => simp at hu) (by simp [Value.oneCell']) (by unfold maxLen; omega) (by omega) (by have := hbel.size; simp; omega) ?_; intro v' w2 hown1 hgrow1 _; have hb2 : Below W.heap.size W w2 := (hbel.alloc hbel.size _).grown hgrow1 (by have := hbel.size; simp; omega) (fun j e => (HO.out.lt j e).1); have HW1 := Lib.hid hown1; clear hown1 hgrow1)
        go_roundw
        case rel => exact ⟨0 + 1, by omega, by go_num, by rw [HS'.out, u64s_snoc]; exact HW1.out, hb2⟩
        case measure => simp [intOf]; try omega
      · have HS' := Lib.hid (HS.out.trans (by rw [v1]))
        clear v0 v1 v2 v3 v4 v5 v6 v7 v8 hV HS
        go_wp2_with (at_builtin; refine wpList_append_own _ rfl _ _ 44 rfl W.heap.size 30 i0 (.int .u64 0) 1 8 Try.underlying44 hi0 hz0 hz1 hz2 rfl (by decide) _ _ _ rfl (HO.out.alloc _) ⟨wr.heap.size, 0, none⟩ 1 1 [.int .u64 sq] rfl rfl (by intro j u hu; cases j with | zero => (simp at hu; subst hu; exact new1 _ _ _) | succ j => simp at hu) (by simp [Value.oneCell']) (by unfold maxLen; omega) (by omega) (by have := hbel.size; simp; omega) ?_; intro v' w2 hown1 hgrow1 _; have hb2 : Below W.heap.size W w2 := (hbel.alloc hbel.size _).grown hgrow1 (by have := hbel.size; simp; omega) (fun j e => (HO.out.lt j e).1); have HW1 := Lib.hid hown1; clear hown1 hgrow1)
        go_roundw
        case rel => exact ⟨1 + 1, by omega, by go_num, by rw [HS'.out, u64s_snoc]; exact HW1.out, hb2⟩
        case measure => simp [intOf]; try omega
      · have HS' := Lib.hid (HS.out.trans (by rw [v2]))
        clear v0 v1 v2 v3 v4 v5 v6 v7 v8 hV HS
        go_wp2_with (at_builtin; refine wpList_append_own _ rfl _ _ 44 rfl W.heap.size 30 i0 (.int .u64 0) 1 8 Try.underlying44 hi0 hz0 hz1 hz2 rfl (by decide) _ _ _ rfl (HO.out.alloc _) ⟨wr.heap.size, 0, none⟩ 1 1 [.int .u64 ki] rfl rfl (by intro j u hu; cases j with | zero => (simp at hu; subst hu; exact new1 _ _ _) | succ j => simp at hu) (by simp [Value.oneCell']) (by unfold maxLen; omega) (by omega) (by have := hbel.size; simp; omega) ?_; intro v' w2 hown1 hgrow1 _; have hb2 : Below W.heap.size W w2 := (hbel.alloc hbel.size _).grown hgrow1 (by have := hbel.size; simp; omega) (fun j e => (HO.out.lt j e).1); have HW1 := Lib.hid hown1; clear hown1 hgrow1)
        go_roundw
        case rel => exact ⟨2 + 1, by omega, by go_num, by rw [HS'.out, u64s_snoc]; exact HW1.out, hb2⟩
        case measure => simp [intOf]; try omega
      · have HS' := Lib.hid (HS.out.trans (by rw [v3]))
        clear v0 v1 v2 v3 v4 v5 v6 v7 v8 hV HS
        go_wp2_with (at_builtin; refine wpList_append_own _ rfl _ _ 44 rfl W.heap.size 30 i0 (.int .u64 0) 1 8 Try.underlying44 hi0 hz0 hz1 hz2 rfl (by decide) _ _ _ rfl (HO.out.alloc _) ⟨wr.heap.size, 0, none⟩ 1 1 [.int .u64 pc] rfl rfl (by intro j u hu; cases j with | zero => (simp at hu; subst hu; exact new1 _ _ _) | succ j => simp at hu) (by simp [Value.oneCell']) (by unfold maxLen; omega) (by omega) (by have := hbel.size; simp; omega) ?_; intro v' w2 hown1 hgrow1 _; have hb2 : Below W.heap.size W w2 := (hbel.alloc hbel.size _).grown hgrow1 (by have := hbel.size; simp; omega) (fun j e => (HO.out.lt j e).1); have HW1 := Lib.hid hown1; clear hown1 hgrow1)
        go_roundw
        case rel => exact ⟨3 + 1, by omega, by go_num, by rw [HS'.out, u64s_snoc]; exact HW1.out, hb2⟩
        case measure => simp [intOf]; try omega
      · have HS' := Lib.hid (HS.out.trans (by rw [v4]))
        clear v0 v1 v2 v3 v4 v5 v6 v7 v8 hV HS
        go_wp2_with (at_builtin; refine wpList_append_own _ rfl _ _ 44 rfl W.heap.size 30 i0 (.int .u64 0) 1 8 Try.underlying44 hi0 hz0 hz1 hz2 rfl (by decide) _ _ _ rfl (HO.out.alloc _) ⟨wr.heap.size, 0, none⟩ 1 1 [.int .u64 i] rfl rfl (by intro j u hu; cases j with | zero => (simp at hu; subst hu; exact new1 _ _ _) | succ j => simp at hu) (by simp [Value.oneCell']) (by unfold maxLen; omega) (by omega) (by have := hbel.size; simp; omega) ?_; intro v' w2 hown1 hgrow1 _; have hb2 : Below W.heap.size W w2 := (hbel.alloc hbel.size _).grown hgrow1 (by have := hbel.size; simp; omega) (fun j e => (HO.out.lt j e).1); have HW1 := Lib.hid hown1; clear hown1 hgrow1)
        go_roundw
        case rel => exact ⟨4 + 1, by omega, by go_num, by rw [HS'.out, u64s_snoc]; exact HW1.out, hb2⟩
        case measure => simp [intOf]; try omega
      · have HS' := Lib.hid (HS.out.trans (by rw [v5]))
        clear v0 v1 v2 v3 v4 v5 v6 v7 v8 hV HS
        go_wp2_with (at_builtin; refine wpList_append_own _ rfl _ _ 44 rfl W.heap.size 30 i0 (.int .u64 0) 1 8 Try.underlying44 hi0 hz0 hz1 hz2 rfl (by decide) _ _ _ rfl (HO.out.alloc _) ⟨wr.heap.size, 0, none⟩ 1 1 [.int .u64 j] rfl rfl (by intro j u hu; cases j with | zero => (simp at hu; subst hu; exact new1 _ _ _) | succ j => simp at hu) (by simp [Value.oneCell']) (by unfold maxLen; omega) (by omega) (by have := hbel.size; simp; omega) ?_; intro v' w2 hown1 hgrow1 _; have hb2 : Below W.heap.size W w2 := (hbel.alloc hbel.size _).grown hgrow1 (by have := hbel.size; simp; omega) (fun j e => (HO.out.lt j e).1); have HW1 := Lib.hid hown1; clear hown1 hgrow1)
        go_roundw
        case rel => exact ⟨5 + 1, by omega, by go_num, by rw [HS'.out, u64s_snoc]; exact HW1.out, hb2⟩
        case measure => simp [intOf]; try omega
      · have HS' := Lib.hid (HS.out.trans (by rw [v6]))
        clear v0 v1 v2 v3 v4 v5 v6 v7 v8 hV HS
        go_wp2_with (at_builtin; refine wpList_append_own _ rfl _ _ 44 rfl W.heap.size 30 i0 (.int .u64 0) 1 8 Try.underlying44 hi0 hz0 hz1 hz2 rfl (by decide) _ _ _ rfl (HO.out.alloc _) ⟨wr.heap.size, 0, none⟩ 1 1 [.int .u64 n] rfl rfl (by intro j u hu; cases j with | zero => (simp at hu; subst hu; exact new1 _ _ _) | succ j => simp at hu) (by simp [Value.oneCell']) (by unfold maxLen; omega) (by omega) (by have := hbel.size; simp; omega) ?_; intro v' w2 hown1 hgrow1 _; have hb2 : Below W.heap.size W w2 := (hbel.alloc hbel.size _).grown hgrow1 (by have := hbel.size; simp; omega) (fun j e => (HO.out.lt j e).1); have HW1 := Lib.hid hown1; clear hown1 hgrow1)
        go_roundw
        case rel => exact ⟨6 + 1, by omega, by go_num, by rw [HS'.out, u64s_snoc]; exact HW1.out, hb2⟩
        case measure => simp [intOf]; try omega
      · have HS' := Lib.hid (HS.out.trans (by rw [v7]))
        clear v0 v1 v2 v3 v4 v5 v6 v7 v8 hV HS
        go_wp2_with (at_builtin; refine wpList_append_own _ rfl _ _ 44 rfl W.heap.size 30 i0 (.int .u64 0) 1 8 Try.underlying44 hi0 hz0 hz1 hz2 rfl (by decide) _ _ _ rfl (HO.out.alloc _) ⟨wr.heap.size, 0, none⟩ 1 1 [.int .u64 p] rfl rfl (by intro j u hu; cases j with | zero => (simp at hu; subst hu; exact new1 _ _ _) | succ j => simp at hu) (by simp [Value.oneCell']) (by unfold maxLen; omega) (by omega) (by have := hbel.size; simp; omega) ?_; intro v' w2 hown1 hgrow1 _; have hb2 : Below W.heap.size W w2 := (hbel.alloc hbel.size _).grown hgrow1 (by have := hbel.size; simp; omega) (fun j e => (HO.out.lt j e).1); have HW1 := Lib.hid hown1; clear hown1 hgrow1)
        go_roundw
        case rel => exact ⟨7 + 1, by omega, by go_num, by rw [HS'.out, u64s_snoc]; exact HW1.out, hb2⟩
        case measure => simp [intOf]; try omega
      · have HS' := Lib.hid (HS.out.trans (by rw [v8]))
        clear v0 v1 v2 v3 v4 v5 v6 v7 v8 hV HS
        go_wp2_with (at_builtin; refine wpList_append_own _ rfl _ _ 44 rfl W.heap.size 30 i0 (.int .u64 0) 1 8 Try.underlying44 hi0 hz0 hz1 hz2 rfl (by decide) _ _ _ rfl (HO.out.alloc _) ⟨wr.heap.size, 0, none⟩ 1 1 [.int .u64 h] rfl rfl (by intro j u hu; cases j with | zero => (simp at hu; subst hu; exact new1 _ _ _) | succ j => simp at hu) (by simp [Value.oneCell']) (by unfold maxLen; omega) (by omega) (by have := hbel.size; simp; omega) ?_; intro v' w2 hown1 hgrow1 _; have hb2 : Below W.heap.size W w2 := (hbel.alloc hbel.size _).grown hgrow1 (by have := hbel.size; simp; omega) (fun j e => (HO.out.lt j e).1); have HW1 := Lib.hid hown1; clear hown1 hgrow1)
        go_roundw
        case rel => exact ⟨8 + 1, by omega, by go_num, by rw [HS'.out, u64s_snoc]; exact HW1.out, hb2⟩
        case measure => simp [intOf]; try omega
    · obtain rfl : k = 9 := by omega
      obtain ⟨av, cv, rfl, hWA, hltA⟩ := words_row hown
      have hR := HW.out.next hbel
      have hV9 := nine_lt V (by obtain ⟨v0, v1, v2, v3, v4, v5, v6, v7, v8⟩ := HN.out; omega)
      have HR := Lib.hid hR; have HWA := Lib.hid hWA; have HLT := Lib.hid hltA; have HV9 := Lib.hid hV9
      clear hR hWA hltA hV9 hown HW HN hbel
      go_wp2_with fail
      refine (small_any _).mono ?_
      rintro e w1 ⟨rfl, hI1, hb1⟩
      go_wp2_with fail
      refine (joined_any _ av 9 9 9 cv smallB V _ hI1 (HWA.out.below hb1) (by omega) (by omega) small_lo small_hi HV9.out (fun b off e => by have := HLT.out b off e; have := hb1.size; omega)).mono ?_
      rintro e w2 ⟨rfl, hb2⟩
      have hR2 := (HR.out.next hb1).next hb2
      have HR2 := Lib.hid hR2
      clear hI1 hb1 hb2 HR HWA HLT HV9
      cases hf : fits9 V with
      | false =>
        obtain ⟨e1, e2⟩ := small_no V hf
        rw [e1, e2]
        have HL := Lib.hid (show laidV tag A B X Y V = .tuple #[.agg #[.int .u64 0, .int .u64 0, .int .u64 0, .int .u64 0], .int .i64 10] by simp [laidV, hf])
        obtain ⟨_, _, _, _, _, _, r0, r1, r2, r3, f0, f1, f2, f3⟩ := hR2
        clear hf e1 e2
        go_wp2_with fail
        (try simp only [Exit.inBlock, Exit.then])
        have hB := HR2.out.below
        refine bodyPost_ret (v := laidV tag A B X Y V) (by rw [HL.out]; simp [results, Try.f10, go_sem, r0, r1, r2, r3]) rfl ⟨by rw [hV], by (repeat (first | exact Below.refl _ _ | assumption | apply Below.drew | apply below_drewN | (refine Below.alloc ?_ (by simp <;> omega) _) | (refine Below.setCell ?_ (by simp <;> omega) _)))⟩
      | true =>
        obtain ⟨e1, e2⟩ := small_join V hf
        rw [e1, e2]
        have HL := Lib.hid (show laidV tag A B X Y V = .tuple #[.agg #[.int .u64 tag, .int .u64 (sum9 V), .int .u64 ((B * 4294967296 + A : Nat) : Int), .int .u64 ((Y * 4294967296 + X : Nat) : Int)], .int .i64 0] by simp [laidV, hf])
        clear hf e1 e2
        generalize sum9 V = S9 at *
        have c1 := hR2.a
        have c2 := hR2.b
        have wA : IntKind.u64.wrap (A : Int) = A := by rw [IntKind.wrap_u64]; omega
        have wB : IntKind.u64.wrap (B : Int) = B := by rw [IntKind.wrap_u64]; omega
        have wX : IntKind.u64.wrap (X : Int) = X := by rw [IntKind.wrap_u64]; omega
        have wY : IntKind.u64.wrap (Y : Int) = Y := by rw [IntKind.wrap_u64]; omega
        clear hR2
        go_wp2_with fail
        go_region_held3 (fun U => RegW w tag A B X Y U ∧ U.cell? ⟨w.heap.size + 1 + 1, 1, none⟩ = some (.int .u32 A) ∧ U.cell? ⟨w.heap.size + 1 + 1, 2, none⟩ = some (.int .u32 B))
          (first
            | (try go_split_ands
               repeat' apply And.intro
               all_goals first
                 | assumption
                 | exact HR2.out
                 | exact RegW.next HR2.out (Below.drew (Below.refl _ _))
                 | (rw [World.cell?_drew]; assumption)
                 | exact keepC hb (by first | assumption | (rw [World.cell?_drew]; assumption))
                 | exact RegW.next (by assumption) hb
                 | exact keepC (newB _ _) (by assumption)
                 | exact RegW.next (by assumption) (newB _ _)))
          (first
            | (go_at_call 17; refine (regtwo_any _).mono ?_; rintro e w' ⟨rfl, hI, hb⟩)
            | (go_at_call 15; refine (joined_any _ _ 2 2 2 2 twoB (fun i => [A, B].getD i 0) _ (by first | exact hI | exact hI.below (newB _ _) | (simpa using hI)) (by first | exact words2 _ _ A B | exact WordsAt.below (w := World.drew (w2.alloc _)) (words2 w2 _ A B) hb) (by omega) (by omega) two_lo two_hi (lt_two A B hA hB) (by intro b off e; cases e; first | (simp; done) | (have := hb.size; simp at this; omega))).mono ?_; rintro e w' ⟨rfl, hb⟩; rw [(two_join A B hA hB).1, (two_join A B hA hB).2]))
        all_goals go_split_ands
        all_goals go_wp2_with fail
        all_goals rename RegW w tag A B X Y _ => hU
        all_goals rename World => U
        all_goals have HU := Lib.hid hU
        all_goals have x1 := hU.x
        all_goals have x2 := hU.y
        all_goals clear hU c1 c2
        all_goals go_region_held3 (fun Z => RegW w tag A B X Y Z ∧ Z.cell? ⟨w.heap.size + 1 + 1, 9, none⟩ = some (.int .u32 X) ∧ Z.cell? ⟨w.heap.size + 1 + 1, 10, none⟩ = some (.int .u32 Y))
          (first
            | (try go_split_ands
               repeat' apply And.intro
               all_goals first
                 | assumption
                 | exact HU.out
                 | exact RegW.next HU.out (Below.drew (Below.refl _ _))
                 | (rw [World.cell?_drew]; assumption)
                 | exact keepC hb (by first | assumption | (rw [World.cell?_drew]; assumption))
                 | exact RegW.next (by assumption) hb
                 | exact keepC (newB _ _) (by assumption)
                 | exact RegW.next (by assumption) (newB _ _)))
          (first
            | (go_at_call 17; refine (regtwo_any _).mono ?_; rintro e w' ⟨rfl, hI, hb⟩)
            | (go_at_call 15; refine (joined_any _ _ 2 2 2 2 twoB (fun i => [X, Y].getD i 0) _ (by first | exact hI | exact hI.below (newB _ _) | (simpa using hI)) (by first | exact words2 _ _ X Y | exact WordsAt.below (w := World.drew (U.alloc _)) (words2 U _ X Y) hb) (by omega) (by omega) two_lo two_hi (lt_two X Y hX hY) (by intro b off e; cases e; first | (simp; done) | (have := hb.size; simp at this; omega))).mono ?_; rintro e w' ⟨rfl, hb⟩; rw [(two_join X Y hX hY).1, (two_join X Y hX hY).2]))
        all_goals go_split_ands
        all_goals rename RegW w tag A B X Y _ => hZ
        all_goals have HZ := Lib.hid hZ
        all_goals obtain ⟨_, z0, _, _, _, _, r0, r1, r2, r3, f0, f1, f2, f3⟩ := hZ
        all_goals go_wp2_with fail
        all_goals (try simp only [Exit.inBlock, Exit.then])
        all_goals have hB := HZ.out.below
        all_goals refine bodyPost_ret (v := laidV tag A B X Y V) (by rw [HL.out]; simp [results, Try.f10, go_sem, r0, r1, r2, r3]) rfl ⟨by rw [hV], by (repeat (first | exact Below.refl _ _ | assumption | apply Below.drew | apply below_drewN | (refine Below.alloc ?_ (by simp <;> omega) _) | (refine Below.setCell ?_ (by simp <;> omega) _)))⟩

end Go.Proofs.Ytnaggpkcaioppaa
