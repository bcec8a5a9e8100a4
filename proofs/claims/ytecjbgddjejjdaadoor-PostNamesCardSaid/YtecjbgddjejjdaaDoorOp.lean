/- Contracts of op.Laid, op.Of and their references. -/
import Derived.Test.YtecjbgddjejjdaaDoorWords
import Derived.Laws.BitsLemmas
namespace Go.Proofs.YtecjbgddjejjdaaDoor
open Go.RowKit

def laidV (s k a b c : Nat) : Value := .agg #[.int .u64 s, .int .u64 ((a * 256 + k : Nat) : Int), .int .u64 b, .int .u64 c]
def ofV (t x b c : Nat) : Value := .tuple #[.int .u64 t, .agg #[.int .u8 ((x % 256 : Nat) : Int), .int .u32 ((x / 256 % 4294967296 : Nat) : Int), .int .u32 ((b % 4294967296 : Nat) : Int), .int .u32 ((c % 4294967296 : Nat) : Int)]]

theorem u8m (n : Nat) : IntKind.u8.wrap ((n : Int) % 256) = (n : Int) % 256 := by simp [IntKind.wrap, IntKind.bits, IntKind.signed]
theorem u32d (n : Nat) : IntKind.u32.wrap ((n : Int) / 256 % 4294967296) = (n : Int) / 256 % 4294967296 := by simp [IntKind.wrap, IntKind.bits, IntKind.signed]
theorem u8t (n : Nat) : IntKind.u8.wrap ((n : Int).tmod 256) = (n : Int) % 256 := by rw [Int.tmod_eq_emod_of_nonneg (by omega)]; simp [IntKind.wrap, IntKind.bits, IntKind.signed]
theorem u32t (n : Nat) : IntKind.u32.wrap ((n : Int).tmod 4294967296) = (n : Int) % 4294967296 := by rw [Int.tmod_eq_emod_of_nonneg (by omega)]; simp [IntKind.wrap, IntKind.bits, IntKind.signed]
theorem u32w (n : Nat) : IntKind.u32.wrap (n : Int) = ((n % 4294967296 : Nat) : Int) := by simp [IntKind.wrap, IntKind.bits, IntKind.signed]

theorem join832 (k a : Nat) (hk : k < 256) (ha : a < 4294967296) : joinV (fun i => [(8 : Int), 32].getD i 0) (fun i => [k, a].getD i 0) 2 = a * 256 + k ∧ joinE (fun i => [(8 : Int), 32].getD i 0) (fun i => [k, a].getD i 0) 2 = 0 :=
  join_two 8 32 k a (by omega) (by omega) (by omega) hk ha
theorem lt2 (k a : Nat) (hk : k < 256) (ha : a < 4294967296) (i : Nat) (hi : i < 2) : (fun i => [k, a].getD i 0) i < 18446744073709551616 := by
  match i, hi with
  | 0, _ => exact Nat.lt_trans hk (by decide)
  | 1, _ => exact Nat.lt_trans ha (by decide)

set_option maxHeartbeats 400000 in
theorem Laid_any (s k a b c : Nat) (w : World) (hk : k < 256) (ha : a < 4294967296) (hb : b < 4294967296) (hc : c < 4294967296) :
    Calls Tryd.prog 29 #[.int .u64 s, .agg #[.int .u8 k, .int .u32 a, .int .u32 b, .int .u32 c]] w fun e w' => e = .returned (laidV s k a b c) ∧ Below w.heap.size w w' := by
  have HJ := Lib.hid (join832 k a hk ha)
  have hl := lt2 k a hk ha
  have HL := Lib.hid hl
  clear hl
  go_enter Tryd.func29, Tryd.ntmps29
  go_wp2_with fail
  have hf := fields2 ((w.alloc (.cells #[.int .u8 k, .int .u32 a, .int .u32 b, .int .u32 c] 27)).alloc (.cells #[.int .u64 0, .int .u64 0, .int .u64 0, .int .u64 0] 29)) 114 8 32 k a _ rfl
  rw [show (((w.alloc (.cells #[.int .u8 k, .int .u32 a, .int .u32 b, .int .u32 c] 27)).alloc (.cells #[.int .u64 0, .int .u64 0, .int .u64 0, .int .u64 0] 29)).heap.size) = w.heap.size + 1 + 1 from by simp] at hf
  have g0 := newB ((w.alloc (.cells #[.int .u8 k, .int .u32 a, .int .u32 b, .int .u32 c] 27)).alloc (.cells #[.int .u64 0, .int .u64 0, .int .u64 0, .int .u64 0] 29)) (.cells #[.int .i64 8, .int .u64 k, .int .i64 32, .int .u64 a] 114)
  have hB0 : Below w.heap.size w ((w.alloc (.cells #[.int .u8 k, .int .u32 a, .int .u32 b, .int .u32 c] 27)).alloc (.cells #[.int .u64 0, .int .u64 0, .int .u64 0, .int .u64 0] 29)) := by (repeat (first | exact Below.refl _ _ | assumption | apply Below.drew | apply below_drewN | (refine Below.alloc ?_ (by simp <;> omega) _) | (refine Below.setCell ?_ (by simp <;> omega) _)))
  have c2 : ((w.alloc (.cells #[.int .u8 k, .int .u32 a, .int .u32 b, .int .u32 c] 27)).alloc (.cells #[.int .u64 0, .int .u64 0, .int .u64 0, .int .u64 0] 29)).cell? ⟨w.heap.size, 2, none⟩ = some (.int .u32 b) := by simp [go_sem]
  have c3 : ((w.alloc (.cells #[.int .u8 k, .int .u32 a, .int .u32 b, .int .u32 c] 27)).alloc (.cells #[.int .u64 0, .int .u64 0, .int .u64 0, .int .u64 0] 29)).cell? ⟨w.heap.size, 3, none⟩ = some (.int .u32 c) := by simp [go_sem]
  have d0 : ∀ j, j < 4 → ((w.alloc (.cells #[.int .u8 k, .int .u32 a, .int .u32 b, .int .u32 c] 27)).alloc (.cells #[.int .u64 0, .int .u64 0, .int .u64 0, .int .u64 0] 29)).cell? ⟨w.heap.size + 1, j, none⟩ = some (.int .u64 0) := fun j hj => by
    match j, hj with
    | 0, _ => simp [go_sem]
    | 1, _ => simp [go_sem]
    | 2, _ => simp [go_sem]
    | 3, _ => simp [go_sem]
  have f0 : ∀ j, ((w.alloc (.cells #[.int .u8 k, .int .u32 a, .int .u32 b, .int .u32 c] 27)).alloc (.cells #[.int .u64 0, .int .u64 0, .int .u64 0, .int .u64 0] 29)).frozen? ⟨w.heap.size + 1, j, none⟩ = false := fun j => by simp [go_sem]
  generalize ((w.alloc (.cells #[.int .u8 k, .int .u32 a, .int .u32 b, .int .u32 c] 27)).alloc (.cells #[.int .u64 0, .int .u64 0, .int .u64 0, .int .u64 0] 29)) = W at *
  refine (Join_any _ 2 2 (fun i => [(8 : Int), 32].getD i 0) (fun i => [k, a].getD i 0) _ (by omega) (two_of (by decide) (by decide)) (two_of (by decide) (by decide)) HL.out hf).mono ?_
  rintro e w1 ⟨rfl, hb1⟩
  rw [HJ.out.1, HJ.out.2]
  have hb2 : Below W.heap.size W w1 := g0.trans (hb1.mono g0.size)
  have e2 := keepC hb2 c2
  have e3 := keepC hb2 c3
  have q0 := keepC hb2 (d0 0 (by omega))
  have q1 := keepC hb2 (d0 1 (by omega))
  have q2 := keepC hb2 (d0 2 (by omega))
  have q3 := keepC hb2 (d0 3 (by omega))
  have r0 := keepF hb2 (d0 0 (by omega)) (f0 0)
  have r1 := keepF hb2 (d0 1 (by omega)) (f0 1)
  have r2 := keepF hb2 (d0 2 (by omega)) (f0 2)
  have r3 := keepF hb2 (d0 3 (by omega)) (f0 3)
  have HB := Lib.hid (keepB hb2 hB0)
  have hx : a * 256 + k < 18446744073709551616 := by omega
  clear hf g0 hB0 c2 c3 d0 f0 hb1 hb2
  go_wp2_with fail
  (try simp only [Exit.inBlock, Exit.then])
  have hB := HB.out
  refine bodyPost_ret (v := laidV s k a b c) (by simp [results, Tryd.f29, go_sem, laidV, q0, q1, q2, q3]) rfl ⟨rfl, by (repeat (first | exact Below.refl _ _ | assumption | apply Below.drew | apply below_drewN | (refine Below.alloc ?_ (by simp <;> omega) _) | (refine Below.setCell ?_ (by simp <;> omega) _)))⟩

theorem split832 (x : Nat) : splitE (fun i => [(8 : Int), 32].getD i 0) 2 = 0 ∧ splitL x (fun i => [(8 : Int), 32].getD i 0) 2 = [x % 256, x / 256 % 4294967296] := split_two x 8 32 (by omega) (by omega) (by omega)
theorem words_two {w : World} {b : Nat} {v : Value} {x y : Nat} (h : w.ownsRow b 22 1 v 2 (u64s [x, y])) : ∃ g cap, v = .slice (some ⟨g, 0, none⟩) 2 cap ∧ w.cell? ⟨g, 0, none⟩ = some (.int .u64 x) ∧ w.cell? ⟨g, 1, none⟩ = some (.int .u64 y) := by
  rcases h.2 with ⟨_, h0⟩ | ⟨g, cap, cur, rfl, _⟩
  · omega
  · exact ⟨g, cap, rfl, by rw [h.cellAt 0 (by omega)]; rfl, by rw [h.cellAt 1 (by omega)]; rfl⟩

set_option maxHeartbeats 3200000 in
theorem Of_any (t x b c : Nat) (w : World) (hx : x < 18446744073709551616) :
    Calls Tryd.prog 19 #[.agg #[.int .u64 t, .int .u64 x, .int .u64 b, .int .u64 c]] w fun e w' => e = .returned (ofV t x b c) ∧ Below w.heap.size w w' := by
  have HS := Lib.hid (split832 x)
  go_enter Tryd.func19, Tryd.ntmps19
  go_wp2_with fail
  have hf := ints2 ((w.alloc (.cells #[.int .u64 t, .int .u64 x, .int .u64 b, .int .u64 c] 29)).alloc (.cells #[.int .u8 0, .int .u32 0, .int .u32 0, .int .u32 0] 27)) 3 8 32 _ rfl
  rw [show (((w.alloc (.cells #[.int .u64 t, .int .u64 x, .int .u64 b, .int .u64 c] 29)).alloc (.cells #[.int .u8 0, .int .u32 0, .int .u32 0, .int .u32 0] 27)).heap.size) = w.heap.size + 1 + 1 from by simp] at hf
  have g0 := newB ((w.alloc (.cells #[.int .u64 t, .int .u64 x, .int .u64 b, .int .u64 c] 29)).alloc (.cells #[.int .u8 0, .int .u32 0, .int .u32 0, .int .u32 0] 27)) (.cells #[.int .i64 8, .int .i64 32] 3)
  have hB0 : Below w.heap.size w ((w.alloc (.cells #[.int .u64 t, .int .u64 x, .int .u64 b, .int .u64 c] 29)).alloc (.cells #[.int .u8 0, .int .u32 0, .int .u32 0, .int .u32 0] 27)) := by (repeat (first | exact Below.refl _ _ | assumption | apply Below.drew | apply below_drewN | (refine Below.alloc ?_ (by simp <;> omega) _) | (refine Below.setCell ?_ (by simp <;> omega) _)))
  have c0 : ((w.alloc (.cells #[.int .u64 t, .int .u64 x, .int .u64 b, .int .u64 c] 29)).alloc (.cells #[.int .u8 0, .int .u32 0, .int .u32 0, .int .u32 0] 27)).cell? ⟨w.heap.size, 0, none⟩ = some (.int .u64 t) := by simp [go_sem]
  have c2 : ((w.alloc (.cells #[.int .u64 t, .int .u64 x, .int .u64 b, .int .u64 c] 29)).alloc (.cells #[.int .u8 0, .int .u32 0, .int .u32 0, .int .u32 0] 27)).cell? ⟨w.heap.size, 2, none⟩ = some (.int .u64 b) := by simp [go_sem]
  have c3 : ((w.alloc (.cells #[.int .u64 t, .int .u64 x, .int .u64 b, .int .u64 c] 29)).alloc (.cells #[.int .u8 0, .int .u32 0, .int .u32 0, .int .u32 0] 27)).cell? ⟨w.heap.size, 3, none⟩ = some (.int .u64 c) := by simp [go_sem]
  have d0 : ((w.alloc (.cells #[.int .u64 t, .int .u64 x, .int .u64 b, .int .u64 c] 29)).alloc (.cells #[.int .u8 0, .int .u32 0, .int .u32 0, .int .u32 0] 27)).cell? ⟨w.heap.size + 1, 0, none⟩ = some (.int .u8 0) := by simp [go_sem]
  have d1 : ((w.alloc (.cells #[.int .u64 t, .int .u64 x, .int .u64 b, .int .u64 c] 29)).alloc (.cells #[.int .u8 0, .int .u32 0, .int .u32 0, .int .u32 0] 27)).cell? ⟨w.heap.size + 1, 1, none⟩ = some (.int .u32 0) := by simp [go_sem]
  have d2 : ((w.alloc (.cells #[.int .u64 t, .int .u64 x, .int .u64 b, .int .u64 c] 29)).alloc (.cells #[.int .u8 0, .int .u32 0, .int .u32 0, .int .u32 0] 27)).cell? ⟨w.heap.size + 1, 2, none⟩ = some (.int .u32 0) := by simp [go_sem]
  have d3 : ((w.alloc (.cells #[.int .u64 t, .int .u64 x, .int .u64 b, .int .u64 c] 29)).alloc (.cells #[.int .u8 0, .int .u32 0, .int .u32 0, .int .u32 0] 27)).cell? ⟨w.heap.size + 1, 3, none⟩ = some (.int .u32 0) := by simp [go_sem]
  have f0 : ∀ j, ((w.alloc (.cells #[.int .u64 t, .int .u64 x, .int .u64 b, .int .u64 c] 29)).alloc (.cells #[.int .u8 0, .int .u32 0, .int .u32 0, .int .u32 0] 27)).frozen? ⟨w.heap.size + 1, j, none⟩ = false := fun j => by simp [go_sem]
  have hsz : w.heap.size + 1 < ((w.alloc (.cells #[.int .u64 t, .int .u64 x, .int .u64 b, .int .u64 c] 29)).alloc (.cells #[.int .u8 0, .int .u32 0, .int .u32 0, .int .u32 0] 27)).heap.size := by simp
  generalize ((w.alloc (.cells #[.int .u64 t, .int .u64 x, .int .u64 b, .int .u64 c] 29)).alloc (.cells #[.int .u8 0, .int .u32 0, .int .u32 0, .int .u32 0] 27)) = W at *
  refine (Split_any _ x 2 2 (fun i => [(8 : Int), 32].getD i 0) _ (by omega) (by omega) hx (two_of (by decide) (by decide)) (two_of (by decide) (by decide)) hf).mono ?_
  rintro e w1 ⟨v, rfl, hown, hb1⟩
  rw [HS.out.1]
  rw [HS.out.2] at hown
  obtain ⟨g, cp, rfl, hw0, hw1⟩ := words_two hown
  have hb2 : Below W.heap.size W w1 := g0.trans (hb1.mono g0.size)
  have e0 := keepC hb2 c0
  have e2 := keepC hb2 c2
  have e3 := keepC hb2 c3
  have q0 := keepC hb2 d0
  have q1 := keepC hb2 d1
  have q2 := keepC hb2 d2
  have q3 := keepC hb2 d3
  have r0 := keepF hb2 d0 (f0 0)
  have r1 := keepF hb2 d1 (f0 1)
  have r2 := keepF hb2 d2 (f0 2)
  have r3 := keepF hb2 d3 (f0 3)
  have HB := Lib.hid (keepB hb2 hB0)
  have hgne : g ≠ w.heap.size + 1 := by
    have h1 := (hown.lt g rfl).1
    have h2 := g0.size
    omega
  clear hf g0 hB0 c0 c2 c3 d0 d1 d2 d3 f0 hb1 hb2 hown hsz
  go_wp2_with fail
  have hg1 : ¬ (w.heap.size + 1 = g) := fun h => hgne h.symm
  go_region_held3 (fun V => V.cell? ⟨w.heap.size, 0, none⟩ = some (.int .u64 t) ∧ V.cell? ⟨w.heap.size, 2, none⟩ = some (.int .u64 b) ∧ V.cell? ⟨w.heap.size, 3, none⟩ = some (.int .u64 c) ∧ V.cell? ⟨g, 0, none⟩ = some (.int .u64 (x % 256 : Nat)) ∧ V.cell? ⟨g, 1, none⟩ = some (.int .u64 (x / 256 % 4294967296 : Nat))) (go_keep) (fail)
  all_goals go_wp2
  all_goals (try simp only [Exit.inBlock, Exit.then])
  all_goals have hB := HB.out
  all_goals refine bodyPost_ret (v := ofV t x b c) (by simp [results, Tryd.f19, go_sem, ofV, q0, q1, q2, q3, u8m, u32w, u32d]) rfl ⟨rfl, by (repeat (first | exact Below.refl _ _ | assumption | apply Below.drew | apply below_drewN | (refine Below.alloc ?_ (by simp <;> omega) _) | (refine Below.setCell ?_ (by simp <;> omega) _)))⟩

end Go.Proofs.YtecjbgddjejjdaaDoor
