/- The walk of RegStarts. -/
import Derived.Test.YtnaggpkcaioppaaLaw11
namespace Go.Proofs.Ytnaggpkcaioppaa
open Go.RowKit

set_option maxHeartbeats 3200000 in
theorem starts_core (k a b c k' a' b' c' : Int) (w : World) (h : ((k == k') = true ∧ (a == a') = true ∧ (b == b') = true ∧ (c == c') = true) ∨ (k == k') = false ∨ ((k == k') = true ∧ (a == a') = false) ∨ ((k == k') = true ∧ (a == a') = true ∧ (b == b') = false) ∨ ((k == k') = true ∧ (a == a') = true ∧ (b == b') = true ∧ (c == c') = false)) :
    Calls Try.prog 3 #[.agg #[.int .u8 k, .int .u32 a, .int .u32 b, .int .u32 c], .agg #[.int .u8 k', .int .u32 a', .int .u32 b', .int .u32 c']] w fun e w' => e = .returned (.bool true) ∧ Below w.heap.size w w' := by
  go_enter Try.func3, Try.ntmps3
  go_wp2_with fail
  refine (Start_any k a b c _).mono ?_
  rintro e w1 ⟨rfl, hb1⟩
  rw [show startV k a b c = .agg #[.int .u8 k, .int .u32 a, .int .u32 b, .int .u8 0, .int .u8 0, .int .u8 0, .int .u8 0, .int .u8 0, .int .u8 0, .int .u32 0, .int .u32 c] from rfl]
  have ho := (((Box.new w 24 [.int .u8 k, .int .u32 a, .int .u32 b, .int .u32 c]).alloc (.cells #[.int .u8 k', .int .u32 a', .int .u32 b', .int .u32 c'] 24)).below hb1)
  have hp := ((Box.newAt (w.alloc (.cells #[.int .u8 k, .int .u32 a, .int .u32 b, .int .u32 c] 24)) 24 [.int .u8 k', .int .u32 a', .int .u32 b', .int .u32 c'] (g := w.heap.size + 1) (by simp)).below hb1)
  have HB1 := Lib.hid (keepB hb1 (moreB (newB w _) _))
  have ho2 := (ho.alloc (.cells #[.int .u8 k, .int .u32 a, .int .u32 b, .int .u8 0, .int .u8 0, .int .u8 0, .int .u8 0, .int .u8 0, .int .u8 0, .int .u32 0, .int .u32 c] 26)).alloc (.cells #[.int .u8 k, .int .u32 a, .int .u32 b, .int .u32 c] 24)
  have hp2 := (hp.alloc (.cells #[.int .u8 k, .int .u32 a, .int .u32 b, .int .u8 0, .int .u8 0, .int .u8 0, .int .u8 0, .int .u8 0, .int .u8 0, .int .u32 0, .int .u32 c] 26)).alloc (.cells #[.int .u8 k, .int .u32 a, .int .u32 b, .int .u32 c] 24)
  have hf2 := (Box.new w1 26 [.int .u8 k, .int .u32 a, .int .u32 b, .int .u8 0, .int .u8 0, .int .u8 0, .int .u8 0, .int .u8 0, .int .u8 0, .int .u32 0, .int .u32 c]).alloc (.cells #[.int .u8 k, .int .u32 a, .int .u32 b, .int .u32 c] 24)
  have hm2 := Box.newAt (w1.alloc (.cells #[.int .u8 k, .int .u32 a, .int .u32 b, .int .u8 0, .int .u8 0, .int .u8 0, .int .u8 0, .int .u8 0, .int .u8 0, .int .u32 0, .int .u32 c] 26)) 24 [.int .u8 k, .int .u32 a, .int .u32 b, .int .u32 c] (g := w1.heap.size + 1) (by simp)
  have HB2 := Lib.hid (moreB (moreB HB1.out (.cells #[.int .u8 k, .int .u32 a, .int .u32 b, .int .u8 0, .int .u8 0, .int .u8 0, .int .u8 0, .int .u8 0, .int .u8 0, .int .u32 0, .int .u32 c] 26)) (.cells #[.int .u8 k, .int .u32 a, .int .u32 b, .int .u32 c] 24))
  clear ho hp hb1 HB1
  have HH := Lib.hid h
  clear h
  go_wp2_with fail
  generalize w1.heap.size = g at *
  generalize (w1.alloc _).alloc _ = U at *
  have o0 := ho2.c 0 rfl
  have o1 := ho2.c 1 rfl
  have o2 := ho2.c 2 rfl
  have o3 := ho2.c 3 rfl
  have p0 := hp2.c 0 rfl
  have p1 := hp2.c 1 rfl
  have p2 := hp2.c 2 rfl
  have p3 := hp2.c 3 rfl
  have m0 := hm2.c 0 rfl
  have m1 := hm2.c 1 rfl
  have m2 := hm2.c 2 rfl
  have m3 := hm2.c 3 rfl
  have f0 := hf2.c 0 rfl
  have f1 := hf2.c 1 rfl
  have f2 := hf2.c 2 rfl
  have f3 := hf2.c 3 rfl
  have f4 := hf2.c 4 rfl
  have f5 := hf2.c 5 rfl
  have f6 := hf2.c 6 rfl
  have f7 := hf2.c 7 rfl
  have f8 := hf2.c 8 rfl
  have f9 := hf2.c 9 rfl
  have f10 := hf2.c 10 rfl
  clear ho2 hp2 hf2 hm2
  rcases HH.out with ⟨e1, e2, e3, e4⟩ | e1 | ⟨e1, e2⟩ | ⟨e1, e2, e3⟩ | ⟨e1, e2, e3, e4⟩
  all_goals clear HH
  all_goals go_region_held3 (fun V => Below w.heap.size w V ∧ V.cell? ⟨w.heap.size, 0, none⟩ = some (.int .u8 k) ∧ V.cell? ⟨w.heap.size, 1, none⟩ = some (.int .u32 a) ∧ V.cell? ⟨w.heap.size, 2, none⟩ = some (.int .u32 b) ∧ V.cell? ⟨w.heap.size, 3, none⟩ = some (.int .u32 c) ∧ V.cell? ⟨w.heap.size + 1, 0, none⟩ = some (.int .u8 k') ∧ V.cell? ⟨w.heap.size + 1, 1, none⟩ = some (.int .u32 a') ∧ V.cell? ⟨w.heap.size + 1, 2, none⟩ = some (.int .u32 b') ∧ V.cell? ⟨w.heap.size + 1, 3, none⟩ = some (.int .u32 c') ∧ V.cell? ⟨g + 1, 0, none⟩ = some (.int .u8 k) ∧ V.cell? ⟨g + 1, 1, none⟩ = some (.int .u32 a) ∧ V.cell? ⟨g + 1, 2, none⟩ = some (.int .u32 b) ∧ V.cell? ⟨g + 1, 3, none⟩ = some (.int .u32 c) ∧ V.cell? ⟨g, 0, none⟩ = some (.int .u8 k) ∧ V.cell? ⟨g, 1, none⟩ = some (.int .u32 a) ∧ V.cell? ⟨g, 2, none⟩ = some (.int .u32 b) ∧ V.cell? ⟨g, 3, none⟩ = some (.int .u8 0) ∧ V.cell? ⟨g, 4, none⟩ = some (.int .u8 0) ∧ V.cell? ⟨g, 5, none⟩ = some (.int .u8 0) ∧ V.cell? ⟨g, 6, none⟩ = some (.int .u8 0) ∧ V.cell? ⟨g, 7, none⟩ = some (.int .u8 0) ∧ V.cell? ⟨g, 8, none⟩ = some (.int .u8 0) ∧ V.cell? ⟨g, 9, none⟩ = some (.int .u32 0) ∧ V.cell? ⟨g, 10, none⟩ = some (.int .u32 c))
      (first
        | (try go_split_ands
           repeat' apply And.intro
           all_goals first
             | assumption
             | exact HB2.out
             | exact Below.drew HB2.out
             | (rw [World.cell?_drew]; assumption)
             | exact keepC hb (by first | assumption | (rw [World.cell?_drew]; assumption))
             | exact keepB hb (by first | assumption | exact Below.drew (by assumption))
             | exact Box.below (by first | assumption | exact Box.drew (by assumption)) hb))
      (first
        | (go_at_call 9; refine (alive_any _).mono ?_; rintro e w' ⟨rfl, hb⟩)
        | (go_at_call 8; refine (Start_any _ _ _ _ _).mono ?_; rintro e w' ⟨rfl, hb⟩; simp only [startV]))
  all_goals go_split_ands
  all_goals go_wp2_with fail
  all_goals go_ret
  all_goals exact ⟨rfl, by assumption⟩

theorem walk_RegStarts (n0_0 n0_1 n0_2 n0_3 n1_0 n1_1 n1_2 n1_3 : Int) (w : World) (_b0_0 : IntKind.u8.min ≤ n0_0 ∧ n0_0 ≤ IntKind.u8.max) (_b0_1 : IntKind.u32.min ≤ n0_1 ∧ n0_1 ≤ IntKind.u32.max) (_b0_2 : IntKind.u32.min ≤ n0_2 ∧ n0_2 ≤ IntKind.u32.max) (_b0_3 : IntKind.u32.min ≤ n0_3 ∧ n0_3 ≤ IntKind.u32.max) (_b1_0 : IntKind.u8.min ≤ n1_0 ∧ n1_0 ≤ IntKind.u8.max) (_b1_1 : IntKind.u32.min ≤ n1_1 ∧ n1_1 ≤ IntKind.u32.max) (_b1_2 : IntKind.u32.min ≤ n1_2 ∧ n1_2 ≤ IntKind.u32.max) (_b1_3 : IntKind.u32.min ≤ n1_3 ∧ n1_3 ≤ IntKind.u32.max) :
    Calls Try.prog 3 #[.agg #[.int .u8 n0_0, .int .u32 n0_1, .int .u32 n0_2, .int .u32 n0_3], .agg #[.int .u8 n1_0, .int .u32 n1_1, .int .u32 n1_2, .int .u32 n1_3]] w fun e w' => e = .returned (.bool true) ∧ Below w.heap.size w w' := by
  refine starts_core n0_0 n0_1 n0_2 n0_3 n1_0 n1_1 n1_2 n1_3 w ?_
  by_cases h1 : n0_0 = n1_0
  · by_cases h2 : n0_1 = n1_1
    · by_cases h3 : n0_2 = n1_2
      · by_cases h4 : n0_3 = n1_3
        · exact .inl ⟨by simp [h1], by simp [h2], by simp [h3], by simp [h4]⟩
        · exact .inr (.inr (.inr (.inr ⟨by simp [h1], by simp [h2], by simp [h3], by simp [h4]⟩)))
      · exact .inr (.inr (.inr (.inl ⟨by simp [h1], by simp [h2], by simp [h3]⟩)))
    · exact .inr (.inr (.inl ⟨by simp [h1], by simp [h2]⟩))
  · exact .inr (.inl (by simp [h1]))

end Go.Proofs.Ytnaggpkcaioppaa
