/- The chapter's examples, alive: it returns true. -/
import Derived.Test.YtmjgmfoaagomgaaListRef
namespace Go.Proofs.Ytmjgmfoaagomgaa
open Go.RowKit

/-- A list of two fields that was just built. -/
theorem fields2 (w : World) (t : TypeId) (p q : Int) (x y : Nat) (cs : Array Value) (h : cs = #[.int .i64 p, .int .u64 x, .int .i64 q, .int .u64 y]) :
    FieldsAt (w.alloc (.cells cs t)) (some ⟨w.heap.size, 0, none⟩) 2 (fun i => [p, q].getD i 0) (fun i => [x, y].getD i 0) := by
  subst h
  refine .inr ⟨w.heap.size, 0, rfl, by simp, fun i hi => ?_⟩
  match i, hi with
  | 0, _ => simp [go_sem]
  | 1, _ => simp [go_sem]

theorem ints2 (w : World) (t : TypeId) (p q : Int) (cs : Array Value) (h : cs = #[.int .i64 p, .int .i64 q]) : IntsAt (w.alloc (.cells cs t)) (some ⟨w.heap.size, 0, none⟩) 2 (fun i => [p, q].getD i 0) := by
  subst h
  refine .inr ⟨w.heap.size, 0, rfl, by simp, fun i hi => ?_⟩
  match i, hi with
  | 0, _ => simp [go_sem]
  | 1, _ => simp [go_sem]

theorem words2 (w : World) (t : TypeId) (p q : Nat) (cs : Array Value) (h : cs = #[.int .u64 p, .int .u64 q]) : WordsAt (w.alloc (.cells cs t)) (some ⟨w.heap.size, 0, none⟩) 2 (fun i => [p, q].getD i 0) := by
  subst h
  refine .inr ⟨w.heap.size, 0, rfl, fun i hi => ?_⟩
  match i, hi with
  | 0, _ => simp [go_sem]
  | 1, _ => simp [go_sem]

theorem WordsAt.below {w w' : World} {a : Option Addr} {n : Nat} {g : Nat → Nat} (h : WordsAt w a n g) (hb : Below w.heap.size w w') : WordsAt w' a n g := by
  rcases h with h | ⟨b, off, rfl, hc⟩
  · exact .inl h
  · refine .inr ⟨b, off, rfl, fun i hi => ?_⟩
    have := hc i hi
    rw [hb.cell (p := ⟨b, off + i, none⟩) ?_]
    · exact this
    · unfold World.cell? at this
      cases ho : w.heap[b]? with
      | none => simp [ho] at this
      | some o => exact (Array.getElem?_eq_some_iff.1 ho).1

theorem two_of {P : Nat → Prop} (h0 : P 0) (h1 : P 1) (i : Nat) (hi : i < 2) : P i := by
  match i, hi with
  | 0, _ => exact h0
  | 1, _ => exact h1

set_option maxHeartbeats 1000000 in
theorem alive_any (w : World) : Calls Try.prog 17 #[] w fun e w' => e = .returned (.bool true) ∧ Below w.heap.size w w' := by
  go_enter Try.func17, Try.ntmps17
  go_wp2_with fail
  refine (Get_any 48 4 2 _ (by omega) (by omega) (by omega)).mono ?_
  rintro e w1 ⟨rfl, hb1⟩
  rw [show getV 48 4 2 = 3 from by decide, show getE 4 2 = 0 from by decide]
  go_wp2_with fail
  refine (Put_any 0 15 8 4 _ (by omega) (by omega) (by omega)).mono ?_
  rintro e w2 ⟨rfl, hb2⟩
  rw [show putV 0 8 4 15 = 3840 from by decide, show putE 8 4 15 = 0 from by decide]
  go_wp2_with fail
  refine (Join_any _ 2 2 (fun i => [4, 8].getD i 0) (fun i => [5, 2].getD i 0) _ (by omega) (two_of (by decide) (by decide)) (two_of (by decide) (by decide)) (two_of (by decide) (by decide)) (fields2 _ _ 4 8 5 2 _ rfl)).mono ?_
  rintro e w3 ⟨rfl, hb3⟩
  rw [show joinV (fun i => [4, 8].getD i 0) (fun i => [5, 2].getD i 0) 2 = 37 from by decide, show joinE (fun i => [4, 8].getD i 0) (fun i => [5, 2].getD i 0) 2 = 0 from by decide]
  go_wp2_with fail
  refine (Split_any _ 37 2 2 (fun i => [4, 8].getD i 0) _ (by omega) (by omega) (by omega) (two_of (by decide) (by decide)) (two_of (by decide) (by decide)) (ints2 _ _ 4 8 _ rfl)).mono ?_
  rintro e w4 ⟨v, rfl, hown, hb4⟩
  rw [show splitE (fun i => [4, 8].getD i 0) 2 = 0 from by decide]
  rw [show splitL 37 (fun i => [4, 8].getD i 0) 2 = [5, 2] from by decide] at hown
  obtain ⟨a, cap, rfl, hwords⟩ := words_own hown
  have hb : Below w.heap.size w w4 := by
    have h2 := hb1.trans (hb2.mono hb1.size)
    have h3 := h2.trans ((((Below.refl _ _).alloc (Nat.le_refl _) _).trans (hb3.mono (by simp))).mono h2.size)
    exact h3.trans ((((Below.refl _ _).alloc (Nat.le_refl _) _).trans (hb4.mono (by simp))).mono h3.size)
  have HB := Lib.hid hb
  clear hb hb1 hb2 hb3 hb4 hown
  go_wp2_with fail
  refine (rSameWords_any a _ 2 2 cap 2 (fun i => [5, 2].getD i 0) (fun i => [5, 2].getD i 0) _ (hwords.below (by (repeat (first | exact Below.refl _ _ | assumption | apply Below.drew | apply below_drewN | (refine Below.alloc ?_ (by simp <;> omega) _) | (refine Below.setCell ?_ (by simp <;> omega) _))))) (words2 _ _ 5 2 _ rfl) (by omega)).mono ?_
  rintro e w' ⟨rfl, m, rfl⟩
  rw [show (decide (2 = 2) && sameN (fun i => [5, 2].getD i 0) (fun i => [5, 2].getD i 0) 2) = true from by decide]
  go_wp2_with fail
  go_ret
  exact ⟨rfl, below_drewN (HB.out.alloc HB.out.size _) m⟩

end Go.Proofs.Ytmjgmfoaagomgaa
