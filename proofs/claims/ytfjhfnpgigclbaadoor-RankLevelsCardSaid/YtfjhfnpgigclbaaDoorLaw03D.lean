/- The walk of RankLevels. -/
import Derived.Test.YtfjhfnpgigclbaaDoorLevels
namespace Go.Proofs.YtfjhfnpgigclbaaDoor
open Go.RowKit

theorem keepAt {w w1 w2 : World} (h1 : Below w.heap.size w w1) (h2 : Below w1.heap.size w1 w2) : Below w.heap.size w w2 := h1.trans (h2.mono h1.size)

theorem walk_RankLevels (n0 n1 n2 n3 : Int) (w : World) (_b0 : IntKind.i64.min ≤ n0 ∧ n0 ≤ IntKind.i64.max) (_b1 : IntKind.i64.min ≤ n1 ∧ n1 ≤ IntKind.i64.max) (_b2 : IntKind.i64.min ≤ n2 ∧ n2 ≤ IntKind.i64.max) (_b3 : IntKind.i64.min ≤ n3 ∧ n3 ≤ IntKind.i64.max) (hw : Pw w) :
    Calls Tryd.prog 3 #[.int .i64 n0, .int .i64 n1, .int .i64 n2, .int .i64 n3] w fun e w' => e = .returned (.bool true) ∧ Below w.heap.size w w' := by
  have hpos := hw.pos
  go_enter Tryd.func3, Tryd.ntmps3
  go_wp2_with fail
  refine (Levels_any n0 n1 _ hw).mono ?_
  rintro e w1 ⟨v1, rfl, hown1, hb1⟩
  go_wp2_with fail
  refine (rLevels_any n0 n1 _).mono ?_
  rintro e w2 ⟨v2, rfl, hown2, hb2⟩
  have hL1 := (list_own hown1).below hb2
  have hL2 := list_own hown2
  have hw2 := (hw.below hb1 hpos).below hb2 (by have := hb1.size; omega)
  have HB := Lib.hid (keepAt hb1 hb2)
  clear hown1 hown2 hb1 hb2
  go_wp2_with (first | (go_at_call 10; refine (Count_any n0 n1 n2 _ hw2).mono ?_; rintro e w' ⟨rfl, rfl⟩) | (go_at_call 11; refine (rCount_any n0 n1 n2 _).mono ?_; rintro e w' ⟨rfl, rfl⟩) | (go_at_call 12; refine (Last_any n0 n1 n2 n3 _ hw2).mono ?_; rintro e w' ⟨rfl, rfl⟩) | (go_at_call 13; refine (rLast_any n0 n1 n2 n3 _).mono ?_; rintro e w' ⟨rfl, rfl⟩) | (go_at_call 14; refine (SameInts_eq v1 v2 _ _ hL1 hL2 (levels_short _ _)).mono ?_; rintro e w' ⟨rfl, m, rfl⟩))
  go_ret
  exact ⟨rfl, below_drewN HB.out m⟩

end Go.Proofs.YtfjhfnpgigclbaaDoor
