/- The walk of RegNames. -/
import Derived.Test.YtnaggpkcaioppaaLaw11b
namespace Go.Proofs.Ytnaggpkcaioppaa
open Go.RowKit

theorem full_laid : laidV 18446744073709551615 4294967295 4294967295 4294967295 4294967295 (nine 31 127 15 31 127 127 63 63 7) = .tuple #[.agg #[.int .u64 18446744073709551615, .int .u64 1125899906842623, .int .u64 18446744073709551615, .int .u64 18446744073709551615], .int .i64 0] := by simp [laidV, fits9, nine, sum9]
theorem full_of : ofD 18446744073709551615 1125899906842623 18446744073709551615 18446744073709551615 = .agg #[.int .u64 18446744073709551615, .int .u8 31, .int .u8 127, .int .u8 15, .int .u32 4294967295, .int .u32 4294967295, .int .u8 31, .int .u8 127, .int .u8 127, .int .u8 63, .int .u8 63, .int .u8 7, .int .u32 4294967295, .int .u32 4294967295] := by simp [ofD, descV]
theorem over0 : laidV 0 0 0 0 0 (nine 0 128 0 0 0 0 0 0 0) = .tuple #[.agg #[.int .u64 0, .int .u64 0, .int .u64 0, .int .u64 0], .int .i64 10] := by simp [laidV, fits9, nine]
theorem over1 : laidV 0 0 0 0 0 (nine 0 0 16 0 0 0 0 0 0) = .tuple #[.agg #[.int .u64 0, .int .u64 0, .int .u64 0, .int .u64 0], .int .i64 10] := by simp [laidV, fits9, nine]
theorem over2 : laidV 0 0 0 0 0 (nine 0 0 0 32 0 0 0 0 0) = .tuple #[.agg #[.int .u64 0, .int .u64 0, .int .u64 0, .int .u64 0], .int .i64 10] := by simp [laidV, fits9, nine]
theorem over3 : laidV 0 0 0 0 0 (nine 0 0 0 0 128 0 0 0 0) = .tuple #[.agg #[.int .u64 0, .int .u64 0, .int .u64 0, .int .u64 0], .int .i64 10] := by simp [laidV, fits9, nine]
theorem over4 : laidV 0 0 0 0 0 (nine 0 0 0 0 0 128 0 0 0) = .tuple #[.agg #[.int .u64 0, .int .u64 0, .int .u64 0, .int .u64 0], .int .i64 10] := by simp [laidV, fits9, nine]
theorem over5 : laidV 0 0 0 0 0 (nine 0 0 0 0 0 0 64 0 0) = .tuple #[.agg #[.int .u64 0, .int .u64 0, .int .u64 0, .int .u64 0], .int .i64 10] := by simp [laidV, fits9, nine]
theorem over6 : laidV 0 0 0 0 0 (nine 0 0 0 0 0 0 0 64 0) = .tuple #[.agg #[.int .u64 0, .int .u64 0, .int .u64 0, .int .u64 0], .int .i64 10] := by simp [laidV, fits9, nine]
theorem over7 : laidV 0 0 0 0 0 (nine 0 0 0 0 0 0 0 0 8) = .tuple #[.agg #[.int .u64 0, .int .u64 0, .int .u64 0, .int .u64 0], .int .i64 10] := by simp [laidV, fits9, nine]

set_option maxRecDepth 100000 in
set_option maxHeartbeats 3200000 in
theorem walk_RegNames (w : World) : Calls Try.prog 4 #[] w fun e w' => e = .returned (.bool true) ∧ Below w.heap.size w w' := by
  go_enter Try.func4, Try.ntmps4
  go_wp2_with fail
  refine (Laid_any 18446744073709551615 31 127 15 4294967295 4294967295 31 127 127 63 63 7 4294967295 4294967295 _ (by decide) (by decide) (by decide) (by decide) (by decide) (by decide) (by decide) (by decide) (by decide) (by decide) (by decide) (by decide) (by decide)).mono ?_
  rintro e w1 ⟨rfl, hb1⟩
  rw [full_laid]
  have hd := (Box.new w 32 [.int .u64 18446744073709551615, .int .u8 31, .int .u8 127, .int .u8 15, .int .u32 4294967295, .int .u32 4294967295, .int .u8 31, .int .u8 127, .int .u8 127, .int .u8 63, .int .u8 63, .int .u8 7, .int .u32 4294967295, .int .u32 4294967295]).below hb1
  have HD0 := Lib.hid hd
  have HB0 := Lib.hid (keepB hb1 (newB w _))
  clear hd hb1
  go_wp2_with fail
  refine (Laid_any 0 0 128 0 0 0 0 0 0 0 0 0 0 0 _ (by decide) (by decide) (by decide) (by decide) (by decide) (by decide) (by decide) (by decide) (by decide) (by decide) (by decide) (by decide) (by decide)).mono ?_
  rintro e w2 ⟨rfl, hb⟩
  rw [over0]
  have hd := (HD0.out.alloc _).below hb
  have hl := (Box.new w1 34 [.int .u64 18446744073709551615, .int .u64 1125899906842623, .int .u64 18446744073709551615, .int .u64 18446744073709551615]).below hb
  have HD1 := Lib.hid hd
  have HL1 := Lib.hid hl
  have HB1 := Lib.hid (keepB hb (moreB HB0.out _))
  clear hd hl hb HD0 HB0
  go_wp2_with fail
  refine (Laid_any 0 0 0 16 0 0 0 0 0 0 0 0 0 0 _ (by decide) (by decide) (by decide) (by decide) (by decide) (by decide) (by decide) (by decide) (by decide) (by decide) (by decide) (by decide) (by decide)).mono ?_
  rintro e w3 ⟨rfl, hb⟩
  rw [over1]
  have hd := (HD1.out.alloc _).below hb
  have hl := (HL1.out.alloc _).below hb
  have HD2 := Lib.hid hd
  have HL2 := Lib.hid hl
  have HB2 := Lib.hid (keepB hb (moreB HB1.out _))
  clear hd hl hb HD1 HB1 HL1
  go_wp2_with fail
  refine (Laid_any 0 0 0 0 0 0 32 0 0 0 0 0 0 0 _ (by decide) (by decide) (by decide) (by decide) (by decide) (by decide) (by decide) (by decide) (by decide) (by decide) (by decide) (by decide) (by decide)).mono ?_
  rintro e w4 ⟨rfl, hb⟩
  rw [over2]
  have hd := (HD2.out.alloc _).below hb
  have hl := (HL2.out.alloc _).below hb
  have HD3 := Lib.hid hd
  have HL3 := Lib.hid hl
  have HB3 := Lib.hid (keepB hb (moreB HB2.out _))
  clear hd hl hb HD2 HB2 HL2
  go_wp2_with fail
  refine (Laid_any 0 0 0 0 0 0 0 128 0 0 0 0 0 0 _ (by decide) (by decide) (by decide) (by decide) (by decide) (by decide) (by decide) (by decide) (by decide) (by decide) (by decide) (by decide) (by decide)).mono ?_
  rintro e w5 ⟨rfl, hb⟩
  rw [over3]
  have hd := (HD3.out.alloc _).below hb
  have hl := (HL3.out.alloc _).below hb
  have HD4 := Lib.hid hd
  have HL4 := Lib.hid hl
  have HB4 := Lib.hid (keepB hb (moreB HB3.out _))
  clear hd hl hb HD3 HB3 HL3
  go_wp2_with fail
  refine (Laid_any 0 0 0 0 0 0 0 0 128 0 0 0 0 0 _ (by decide) (by decide) (by decide) (by decide) (by decide) (by decide) (by decide) (by decide) (by decide) (by decide) (by decide) (by decide) (by decide)).mono ?_
  rintro e w6 ⟨rfl, hb⟩
  rw [over4]
  have hd := (HD4.out.alloc _).below hb
  have hl := (HL4.out.alloc _).below hb
  have HD5 := Lib.hid hd
  have HL5 := Lib.hid hl
  have HB5 := Lib.hid (keepB hb (moreB HB4.out _))
  clear hd hl hb HD4 HB4 HL4
  go_wp2_with fail
  refine (Laid_any 0 0 0 0 0 0 0 0 0 64 0 0 0 0 _ (by decide) (by decide) (by decide) (by decide) (by decide) (by decide) (by decide) (by decide) (by decide) (by decide) (by decide) (by decide) (by decide)).mono ?_
  rintro e w7 ⟨rfl, hb⟩
  rw [over5]
  have hd := (HD5.out.alloc _).below hb
  have hl := (HL5.out.alloc _).below hb
  have HD6 := Lib.hid hd
  have HL6 := Lib.hid hl
  have HB6 := Lib.hid (keepB hb (moreB HB5.out _))
  clear hd hl hb HD5 HB5 HL5
  go_wp2_with fail
  refine (Laid_any 0 0 0 0 0 0 0 0 0 0 64 0 0 0 _ (by decide) (by decide) (by decide) (by decide) (by decide) (by decide) (by decide) (by decide) (by decide) (by decide) (by decide) (by decide) (by decide)).mono ?_
  rintro e w8 ⟨rfl, hb⟩
  rw [over6]
  have hd := (HD6.out.alloc _).below hb
  have hl := (HL6.out.alloc _).below hb
  have HD7 := Lib.hid hd
  have HL7 := Lib.hid hl
  have HB7 := Lib.hid (keepB hb (moreB HB6.out _))
  clear hd hl hb HD6 HB6 HL6
  go_wp2_with fail
  refine (Laid_any 0 0 0 0 0 0 0 0 0 0 0 8 0 0 _ (by decide) (by decide) (by decide) (by decide) (by decide) (by decide) (by decide) (by decide) (by decide) (by decide) (by decide) (by decide) (by decide)).mono ?_
  rintro e w9 ⟨rfl, hb⟩
  rw [over7]
  have hd := (HD7.out.alloc _).below hb
  have hl := (HL7.out.alloc _).below hb
  have HD8 := Lib.hid hd
  have HL8 := Lib.hid hl
  have HB8 := Lib.hid (keepB hb (moreB HB7.out _))
  clear hd hl hb HD7 HB7 HL7
  go_wp2_with fail
  have hd := HD8.out.alloc (.cells #[.int .u64 0, .int .u64 0, .int .u64 0, .int .u64 0] 34)
  have hl := HL8.out.alloc (.cells #[.int .u64 0, .int .u64 0, .int .u64 0, .int .u64 0] 34)
  have HB9 := Lib.hid (moreB HB8.out (.cells #[.int .u64 0, .int .u64 0, .int .u64 0, .int .u64 0] 34))
  clear HD8 HL8 HB8
  generalize w1.heap.size = g at *
  generalize w9.alloc _ = U at *
  have d0 := hd.c 0 rfl
  have d1 := hd.c 1 rfl
  have d2 := hd.c 2 rfl
  have d3 := hd.c 3 rfl
  have d4 := hd.c 4 rfl
  have d5 := hd.c 5 rfl
  have d6 := hd.c 6 rfl
  have d7 := hd.c 7 rfl
  have d8 := hd.c 8 rfl
  have d9 := hd.c 9 rfl
  have d10 := hd.c 10 rfl
  have d11 := hd.c 11 rfl
  have d12 := hd.c 12 rfl
  have d13 := hd.c 13 rfl
  have l0 := hl.c 0 rfl
  have l1 := hl.c 1 rfl
  have l2 := hl.c 2 rfl
  have l3 := hl.c 3 rfl
  clear hd hl
  go_region_held3 (fun V => Below w.heap.size w V ∧ V.cell? ⟨w.heap.size, 0, none⟩ = some (.int .u64 18446744073709551615) ∧ V.cell? ⟨w.heap.size, 1, none⟩ = some (.int .u8 31) ∧ V.cell? ⟨w.heap.size, 2, none⟩ = some (.int .u8 127) ∧ V.cell? ⟨w.heap.size, 3, none⟩ = some (.int .u8 15) ∧ V.cell? ⟨w.heap.size, 4, none⟩ = some (.int .u32 4294967295) ∧ V.cell? ⟨w.heap.size, 5, none⟩ = some (.int .u32 4294967295) ∧ V.cell? ⟨w.heap.size, 6, none⟩ = some (.int .u8 31) ∧ V.cell? ⟨w.heap.size, 7, none⟩ = some (.int .u8 127) ∧ V.cell? ⟨w.heap.size, 8, none⟩ = some (.int .u8 127) ∧ V.cell? ⟨w.heap.size, 9, none⟩ = some (.int .u8 63) ∧ V.cell? ⟨w.heap.size, 10, none⟩ = some (.int .u8 63) ∧ V.cell? ⟨w.heap.size, 11, none⟩ = some (.int .u8 7) ∧ V.cell? ⟨w.heap.size, 12, none⟩ = some (.int .u32 4294967295) ∧ V.cell? ⟨w.heap.size, 13, none⟩ = some (.int .u32 4294967295) ∧ V.cell? ⟨g, 0, none⟩ = some (.int .u64 18446744073709551615) ∧ V.cell? ⟨g, 1, none⟩ = some (.int .u64 1125899906842623) ∧ V.cell? ⟨g, 2, none⟩ = some (.int .u64 18446744073709551615) ∧ V.cell? ⟨g, 3, none⟩ = some (.int .u64 18446744073709551615))
    (first
        | (try go_split_ands
           repeat' apply And.intro
           all_goals first
             | assumption
             | exact HB9.out
             | exact Below.drew HB9.out
             | (rw [World.cell?_drew]; assumption)
             | exact keepC hb (by first | assumption | (rw [World.cell?_drew]; assumption))
             | exact keepB hb (by first | assumption | exact Below.drew (by assumption))
             | exact Box.below (by first | assumption | exact Box.drew (by assumption)) hb))
    (first
      | (go_at_call 9; refine (alive_any _).mono ?_; rintro e w' ⟨rfl, hb⟩)
      | (go_at_call 11; refine (Of_any 18446744073709551615 1125899906842623 18446744073709551615 18446744073709551615 _ (by decide) (by decide) (by decide)).mono ?_; rintro e w' ⟨rfl, hb⟩; rw [full_of]))
  all_goals go_split_ands
  all_goals go_wp2_with fail
  all_goals go_ret
  all_goals exact ⟨rfl, by assumption⟩

end Go.Proofs.Ytnaggpkcaioppaa
