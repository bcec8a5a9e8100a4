/- The chapter's examples, alive, and the walk of RankNames. -/
import Derived.Test.YtfjhfnpgigclbaaDoorLevels
namespace Go.Proofs.YtfjhfnpgigclbaaDoor
open Go.RowKit

theorem keepW {w w1 w2 : World} (h1 : Below w.heap.size w w1) (h2 : Below w1.heap.size w1 w2) : Below w.heap.size w w2 := h1.trans (h2.mono h1.size)
theorem newW (V : World) (o : Obj) : Below V.heap.size V (V.alloc o) := (Below.refl _ _).alloc (Nat.le_refl _) o

/-- A literal list. -/
theorem list_lit (w : World) (xs : List Int) (cs : Array Value) (t : TypeId) (h : cs = ⟨i64s xs⟩) (n : Nat) (hn : n = xs.length) : ListAt (w.alloc (.cells cs t)) (.slice (some ⟨w.heap.size, 0, none⟩) n n) xs := by
  subst h hn
  refine ⟨_, _, rfl, .inr ⟨_, rfl, fun i hi => ?_⟩⟩
  simp [go_sem, i64s, hi]

set_option maxHeartbeats 1600000 in
theorem alive_any (w : World) (hw : Pw w) : Calls Tryd.prog 18 #[] w fun e w' => e = .returned (.bool true) ∧ Below w.heap.size w w' := by
  have hpos := hw.pos
  go_enter Tryd.func18, Tryd.ntmps18
  go_wp2_with fail
  refine (Node_any 3 5 _).mono ?_
  rintro e w' ⟨rfl, rfl⟩
  rw [show nodeV 3 5 = 13 from by decide, show nodeE 3 5 = 0 from by decide]
  go_wp2_with fail
  refine (Depth_any 13 _).mono ?_
  rintro e w' ⟨rfl, rfl⟩
  rw [show depthV 13 = 3 from by decide, show depthE 13 = 0 from by decide]
  go_wp2_with fail
  refine (Over_any 13 2 _).mono ?_
  rintro e w' ⟨rfl, rfl⟩
  rw [show overV 13 2 = 3 from by decide, show overE 13 2 = 0 from by decide]
  go_wp2_with fail
  refine (Levels_any 7 2 _ hw).mono ?_
  rintro e w1 ⟨v1, rfl, hown1, hb1⟩
  rw [show levelsE 7 2 = 0 from by decide]
  have hL1 := list_own hown1
  rw [show levelsL 7 2 = [7, 4, 2] from by decide] at hL1
  have hw1 := hw.below hb1 hpos
  clear hown1
  go_wp2_with fail
  refine (Count_any 7 2 2 _ hw1).mono ?_
  rintro e w' ⟨rfl, rfl⟩
  rw [show countV 7 2 2 = 2 from by decide, show countE 7 2 2 = 0 from by decide]
  go_wp2_with fail
  refine (Last_any 7 2 1 3 _ hw1).mono ?_
  rintro e w' ⟨rfl, rfl⟩
  rw [show lastV 7 2 1 3 = 6 from by decide, show lastE 7 2 1 3 = 0 from by decide]
  go_wp2_with fail
  refine (Last_any 7 2 1 0 _ hw1).mono ?_
  rintro e w' ⟨rfl, rfl⟩
  rw [show lastV 7 2 1 0 = 1 from by decide, show lastE 7 2 1 0 = 0 from by decide]
  go_wp2_with fail
  refine (SameInts_eq v1 _ [7, 4, 2] _ (hL1.below (newW w1 _)) (list_lit w1 [7, 4, 2] _ _ rfl 3 rfl) (by decide)).mono ?_
  rintro e w' ⟨rfl, m, rfl⟩
  go_wp2_with fail
  go_ret
  exact ⟨rfl, below_drewN (keepW hb1 (newW w1 _)) m⟩

set_option maxHeartbeats 1600000 in
theorem walk_RankNames (w : World) (hw : Pw w) : Calls Tryd.prog 4 #[] w fun e w' => e = .returned (.bool true) ∧ Below w.heap.size w w' := by
  have hpos := hw.pos
  go_enter Tryd.func4, Tryd.ntmps4
  go_wp2_with fail
  refine (Levels_any 4 4 _ hw).mono ?_
  rintro e w1 ⟨v1, rfl, hown1, hb1⟩
  rw [show levelsE 4 4 = 0 from by decide]
  have hL1 := list_own hown1
  rw [show levelsL 4 4 = [4] from by decide] at hL1
  have hw1 := hw.below hb1 hpos
  have hpos1 := hw1.pos
  clear hown1
  go_wp2_with fail
  refine (Levels_any 32 2 _ hw1).mono ?_
  rintro e w2 ⟨v2, rfl, hown2, hb2⟩
  rw [show levelsE 32 2 = 0 from by decide]
  have hL2 := list_own hown2
  rw [show levelsL 32 2 = [32, 16, 8, 4, 2] from by decide] at hL2
  have hw2 := hw1.below hb2 hpos1
  have hpos2 := hw2.pos
  have hL1' := hL1.below hb2
  have hb2' := keepW hb1 hb2
  clear hown2 hb1 hb2 hL1 hpos1 hw1
  go_wp2_with fail
  refine (Count_any 0 3 1 _ hw2).mono ?_
  rintro e w' ⟨rfl, rfl⟩
  rw [show countV 0 3 1 = 0 from by decide, show countE 0 3 1 = 0 from by decide]
  go_wp2_with fail
  refine (Node_any 7 0 _).mono ?_
  rintro e w' ⟨rfl, rfl⟩
  rw [show nodeE 7 0 = 2 from by decide]
  generalize nodeV 7 0 = z1
  go_wp2_with fail
  refine (Node_any 2 4 _).mono ?_
  rintro e w' ⟨rfl, rfl⟩
  rw [show nodeE 2 4 = 2 from by decide]
  generalize nodeV 2 4 = z2
  go_wp2_with fail
  refine (Depth_any 128 _).mono ?_
  rintro e w' ⟨rfl, rfl⟩
  rw [show depthE 128 = 2 from by decide]
  generalize depthV 128 = z3
  go_wp2_with fail
  refine (Over_any 1 1 _).mono ?_
  rintro e w' ⟨rfl, rfl⟩
  rw [show overE 1 1 = 2 from by decide]
  generalize overV 1 1 = z4
  go_wp2_with fail
  refine (Levels_any 33 2 _ hw2).mono ?_
  rintro e w3 ⟨v3, rfl, _, hb3⟩
  rw [show levelsE 33 2 = 2 from by decide]
  have hw3 := hw2.below hb3 hpos2
  have hpos3 := hw3.pos
  go_wp2_with fail
  refine (Levels_any 4 5 _ hw3).mono ?_
  rintro e w4 ⟨v4, rfl, _, hb4⟩
  rw [show levelsE 4 5 = 2 from by decide]
  have hw4 := hw3.below hb4 hpos3
  have hpos4 := hw4.pos
  have hL1 := (hL1'.below hb3).below hb4
  have hL2' := (hL2.below hb3).below hb4
  have hb := keepW (keepW hb2' hb3) hb4
  clear hb2' hb3 hb4 hL2 hL1' hw3 hw2 hpos3 hpos2
  go_wp2_with fail
  refine (Last_any 4 2 1 2 _ hw4).mono ?_
  rintro e w' ⟨rfl, rfl⟩
  rw [show lastE 4 2 1 2 = 2 from by decide]
  generalize lastV 4 2 1 2 = z5
  go_wp2_with fail
  refine (Count_any 4 2 5 _ hw4).mono ?_
  rintro e w' ⟨rfl, rfl⟩
  rw [show countE 4 2 5 = 2 from by decide]
  generalize countV 4 2 5 = z6
  go_wp2_with fail
  refine (alive_any _ hw4).mono ?_
  rintro e w5 ⟨rfl, hb5⟩
  have hL3 := hL1.below hb5
  have hL4 := hL2'.below hb5
  have hb6 := keepW hb hb5
  clear hL1 hL2' hb hb5 hw4 hpos4
  go_wp2_with fail
  refine (SameInts_eq v1 _ [4] _ (hL3.below (newW w5 _)) (list_lit w5 [4] _ _ rfl 1 rfl) (by decide)).mono ?_
  rintro e w6 ⟨rfl, m, hw6⟩
  have hb7 : Below w5.heap.size w5 w6 := by rw [hw6]; exact below_drewN (newW w5 _) m
  have hL5 := hL4.below hb7
  have hb8 := keepW hb6 hb7
  clear hL3 hL4 hb6 hb7 hw6
  go_wp2_with fail
  refine (SameInts_eq v2 _ [32, 16, 8, 4, 2] _ (hL5.below (newW w6 _)) (list_lit w6 [32, 16, 8, 4, 2] _ _ rfl 5 rfl) (by decide)).mono ?_
  rintro e w' ⟨rfl, m', rfl⟩
  go_wp2_with fail
  go_ret
  exact ⟨rfl, below_drewN (keepW hb8 (newW w6 _)) m'⟩

end Go.Proofs.YtfjhfnpgigclbaaDoor
