/- The walk of RegLays. -/
import Derived.Test.YtnaggpkcaioppaaLaw11b
namespace Go.Proofs.Ytnaggpkcaioppaa
open Go.RowKit

/-- What Laid answers, as four numbers and an error. -/
theorem laid_form (tag A B X Y : Nat) (v : Nat → Nat) : ∃ t0 t1 t2 t3 : Nat, ∃ e : Int, laidV tag A B X Y v = .tuple #[.agg #[.int .u64 t0, .int .u64 t1, .int .u64 t2, .int .u64 t3], .int .i64 e] := by
  unfold laidV
  split
  · exact ⟨_, _, _, _, _, rfl⟩
  · exact ⟨0, 0, 0, 0, _, rfl⟩
theorem ofD_form (t x b c : Nat) : ∃ l : List Int, l.length = 14 ∧ ofD t x b c = .agg #[.int .u64 (l.getD 0 0), .int .u8 (l.getD 1 0), .int .u8 (l.getD 2 0), .int .u8 (l.getD 3 0), .int .u32 (l.getD 4 0), .int .u32 (l.getD 5 0), .int .u8 (l.getD 6 0), .int .u8 (l.getD 7 0), .int .u8 (l.getD 8 0), .int .u8 (l.getD 9 0), .int .u8 (l.getD 10 0), .int .u8 (l.getD 11 0), .int .u32 (l.getD 12 0), .int .u32 (l.getD 13 0)] :=
  ⟨[_, _, _, _, _, _, _, _, _, _, _, _, _, _], rfl, rfl⟩

set_option maxRecDepth 100000 in
set_option maxHeartbeats 3200000 in
theorem walk_RegLays (n0_0 n0_1 n0_2 n0_3 n0_4 n0_5 n0_6 n0_7 n0_8 n0_9 n0_10 n0_11 n0_12 n0_13 n1_0 n1_1 n1_2 n1_3 n2_0 n2_1 n2_2 n2_3 : Int) (w : World) (b0_0 : IntKind.u64.min ≤ n0_0 ∧ n0_0 ≤ IntKind.u64.max) (b0_1 : IntKind.u8.min ≤ n0_1 ∧ n0_1 ≤ IntKind.u8.max) (b0_2 : IntKind.u8.min ≤ n0_2 ∧ n0_2 ≤ IntKind.u8.max) (b0_3 : IntKind.u8.min ≤ n0_3 ∧ n0_3 ≤ IntKind.u8.max) (b0_4 : IntKind.u32.min ≤ n0_4 ∧ n0_4 ≤ IntKind.u32.max) (b0_5 : IntKind.u32.min ≤ n0_5 ∧ n0_5 ≤ IntKind.u32.max) (b0_6 : IntKind.u8.min ≤ n0_6 ∧ n0_6 ≤ IntKind.u8.max) (b0_7 : IntKind.u8.min ≤ n0_7 ∧ n0_7 ≤ IntKind.u8.max) (b0_8 : IntKind.u8.min ≤ n0_8 ∧ n0_8 ≤ IntKind.u8.max) (b0_9 : IntKind.u8.min ≤ n0_9 ∧ n0_9 ≤ IntKind.u8.max) (b0_10 : IntKind.u8.min ≤ n0_10 ∧ n0_10 ≤ IntKind.u8.max) (b0_11 : IntKind.u8.min ≤ n0_11 ∧ n0_11 ≤ IntKind.u8.max) (b0_12 : IntKind.u32.min ≤ n0_12 ∧ n0_12 ≤ IntKind.u32.max) (b0_13 : IntKind.u32.min ≤ n0_13 ∧ n0_13 ≤ IntKind.u32.max) (b1_0 : IntKind.u64.min ≤ n1_0 ∧ n1_0 ≤ IntKind.u64.max) (b1_1 : IntKind.u64.min ≤ n1_1 ∧ n1_1 ≤ IntKind.u64.max) (b1_2 : IntKind.u64.min ≤ n1_2 ∧ n1_2 ≤ IntKind.u64.max) (b1_3 : IntKind.u64.min ≤ n1_3 ∧ n1_3 ≤ IntKind.u64.max) (_b2_0 : IntKind.u8.min ≤ n2_0 ∧ n2_0 ≤ IntKind.u8.max) (_b2_1 : IntKind.u32.min ≤ n2_1 ∧ n2_1 ≤ IntKind.u32.max) (_b2_2 : IntKind.u32.min ≤ n2_2 ∧ n2_2 ≤ IntKind.u32.max) (_b2_3 : IntKind.u32.min ≤ n2_3 ∧ n2_3 ≤ IntKind.u32.max) :
    Calls Try.prog 5 #[.agg #[.int .u64 n0_0, .int .u8 n0_1, .int .u8 n0_2, .int .u8 n0_3, .int .u32 n0_4, .int .u32 n0_5, .int .u8 n0_6, .int .u8 n0_7, .int .u8 n0_8, .int .u8 n0_9, .int .u8 n0_10, .int .u8 n0_11, .int .u32 n0_12, .int .u32 n0_13], .agg #[.int .u64 n1_0, .int .u64 n1_1, .int .u64 n1_2, .int .u64 n1_3], .agg #[.int .u8 n2_0, .int .u32 n2_1, .int .u32 n2_2, .int .u32 n2_3]] w fun e w' => e = .returned (.bool true) ∧ Below w.heap.size w w' := by
  clear _b2_0 _b2_1 _b2_2 _b2_3
  simp [IntKind.min, IntKind.max, IntKind.signed, IntKind.bits] at *
  obtain ⟨tag, rfl⟩ := Int.eq_ofNat_of_zero_le b0_0.1
  obtain ⟨K, rfl⟩ := Int.eq_ofNat_of_zero_le b0_1.1
  obtain ⟨sq, rfl⟩ := Int.eq_ofNat_of_zero_le b0_2.1
  obtain ⟨ki, rfl⟩ := Int.eq_ofNat_of_zero_le b0_3.1
  obtain ⟨A, rfl⟩ := Int.eq_ofNat_of_zero_le b0_4.1
  obtain ⟨B, rfl⟩ := Int.eq_ofNat_of_zero_le b0_5.1
  obtain ⟨pc, rfl⟩ := Int.eq_ofNat_of_zero_le b0_6.1
  obtain ⟨i, rfl⟩ := Int.eq_ofNat_of_zero_le b0_7.1
  obtain ⟨j, rfl⟩ := Int.eq_ofNat_of_zero_le b0_8.1
  obtain ⟨n, rfl⟩ := Int.eq_ofNat_of_zero_le b0_9.1
  obtain ⟨p, rfl⟩ := Int.eq_ofNat_of_zero_le b0_10.1
  obtain ⟨h, rfl⟩ := Int.eq_ofNat_of_zero_le b0_11.1
  obtain ⟨X, rfl⟩ := Int.eq_ofNat_of_zero_le b0_12.1
  obtain ⟨Y, rfl⟩ := Int.eq_ofNat_of_zero_le b0_13.1
  have u_tag : tag < 18446744073709551616 := by omega
  have u_K : K < 256 := by omega
  have u_sq : sq < 256 := by omega
  have u_ki : ki < 256 := by omega
  have u_A : A < 4294967296 := by omega
  have u_B : B < 4294967296 := by omega
  have u_pc : pc < 256 := by omega
  have u_i : i < 256 := by omega
  have u_j : j < 256 := by omega
  have u_n : n < 256 := by omega
  have u_p : p < 256 := by omega
  have u_h : h < 256 := by omega
  have u_X : X < 4294967296 := by omega
  have u_Y : Y < 4294967296 := by omega
  clear b0_0 b0_1 b0_2 b0_3 b0_4 b0_5 b0_6 b0_7 b0_8 b0_9 b0_10 b0_11 b0_12 b0_13
  obtain ⟨x0, rfl⟩ := Int.eq_ofNat_of_zero_le b1_0.1
  obtain ⟨x1, rfl⟩ := Int.eq_ofNat_of_zero_le b1_1.1
  obtain ⟨x2, rfl⟩ := Int.eq_ofNat_of_zero_le b1_2.1
  obtain ⟨x3, rfl⟩ := Int.eq_ofNat_of_zero_le b1_3.1
  have u_x0 : x0 < 18446744073709551616 := by omega
  have u_x1 : x1 < 18446744073709551616 := by omega
  have u_x2 : x2 < 18446744073709551616 := by omega
  have u_x3 : x3 < 18446744073709551616 := by omega
  clear b1_0 b1_1 b1_2 b1_3
  have HT1 := Lib.hid u_x1; have HT2 := Lib.hid u_x2; have HT3 := Lib.hid u_x3
  clear u_x0 u_x1 u_x2 u_x3
  go_enter Try.func5, Try.ntmps5
  go_wp2_with fail
  refine (Laid_any tag K sq ki A B pc i j n p h X Y _ u_K u_sq u_ki u_A u_B u_pc u_i u_j u_n u_p u_h u_X u_Y).mono ?_
  rintro e w1 ⟨rfl, hb1⟩
  have hd := ((Box.new w 32 [.int .u64 tag, .int .u8 K, .int .u8 sq, .int .u8 ki, .int .u32 A, .int .u32 B, .int .u8 pc, .int .u8 i, .int .u8 j, .int .u8 n, .int .u8 p, .int .u8 h, .int .u32 X, .int .u32 Y]).alloc (.cells #[.int .u64 x0, .int .u64 x1, .int .u64 x2, .int .u64 x3] 34)).alloc (.cells #[.int .u8 n2_0, .int .u32 n2_1, .int .u32 n2_2, .int .u32 n2_3] 24) |>.below hb1
  have hl := ((Box.newAt (w.alloc (.cells #[.int .u64 tag, .int .u8 K, .int .u8 sq, .int .u8 ki, .int .u32 A, .int .u32 B, .int .u8 pc, .int .u8 i, .int .u8 j, .int .u8 n, .int .u8 p, .int .u8 h, .int .u32 X, .int .u32 Y] 32)) 34 [.int .u64 x0, .int .u64 x1, .int .u64 x2, .int .u64 x3] (g := w.heap.size + 1) (by simp)).alloc (.cells #[.int .u8 n2_0, .int .u32 n2_1, .int .u32 n2_2, .int .u32 n2_3] 24)).below hb1
  have ho := (Box.newAt ((w.alloc (.cells #[.int .u64 tag, .int .u8 K, .int .u8 sq, .int .u8 ki, .int .u32 A, .int .u32 B, .int .u8 pc, .int .u8 i, .int .u8 j, .int .u8 n, .int .u8 p, .int .u8 h, .int .u32 X, .int .u32 Y] 32)).alloc (.cells #[.int .u64 x0, .int .u64 x1, .int .u64 x2, .int .u64 x3] 34)) 24 [.int .u8 n2_0, .int .u32 n2_1, .int .u32 n2_2, .int .u32 n2_3] (g := w.heap.size + 1 + 1) (by simp)).below hb1
  have HB1 := Lib.hid (keepB hb1 (moreB (moreB (newB w _) _) _))
  obtain ⟨t0, t1, t2, t3, er, hlf⟩ := laid_form tag A B X Y (nine K sq ki pc i j n p h)
  rw [hlf]
  have HLF := Lib.hid hlf
  have d0 := fun o => (hd.alloc o).c 0 rfl
  have d1 := fun o => (hd.alloc o).c 1 rfl
  have d2 := fun o => (hd.alloc o).c 2 rfl
  have d3 := fun o => (hd.alloc o).c 3 rfl
  have d4 := fun o => (hd.alloc o).c 4 rfl
  have d5 := fun o => (hd.alloc o).c 5 rfl
  have d6 := fun o => (hd.alloc o).c 6 rfl
  have d7 := fun o => (hd.alloc o).c 7 rfl
  have d8 := fun o => (hd.alloc o).c 8 rfl
  have d9 := fun o => (hd.alloc o).c 9 rfl
  have d10 := fun o => (hd.alloc o).c 10 rfl
  have d11 := fun o => (hd.alloc o).c 11 rfl
  have d12 := fun o => (hd.alloc o).c 12 rfl
  have d13 := fun o => (hd.alloc o).c 13 rfl
  have HD := Lib.hid hd; have HL := Lib.hid hl; have HO := Lib.hid ho
  clear hb1 hlf hd hl ho
  go_wp2_with fail
  refine (rLaid_any tag K sq ki A B pc i j n p h X Y _ u_A u_B u_X u_Y).mono ?_
  rintro e w2 ⟨rfl, hb2⟩
  rw [HLF.out]
  have ha2 := (Box.new w1 34 [.int .u64 t0, .int .u64 t1, .int .u64 t2, .int .u64 t3]).below hb2
  have hl2 := (HL.out.alloc (.cells #[.int .u64 t0, .int .u64 t1, .int .u64 t2, .int .u64 t3] 34)).below hb2
  have ho2 := (HO.out.alloc (.cells #[.int .u64 t0, .int .u64 t1, .int .u64 t2, .int .u64 t3] 34)).below hb2
  have HB2 := Lib.hid (moreB (keepB hb2 (moreB HB1.out (.cells #[.int .u64 t0, .int .u64 t1, .int .u64 t2, .int .u64 t3] 34))) (.cells #[.int .u64 t0, .int .u64 t1, .int .u64 t2, .int .u64 t3] 34))
  have ha3 := ha2.alloc (.cells #[.int .u64 t0, .int .u64 t1, .int .u64 t2, .int .u64 t3] 34)
  have hl3 := hl2.alloc (.cells #[.int .u64 t0, .int .u64 t1, .int .u64 t2, .int .u64 t3] 34)
  have ho3 := ho2.alloc (.cells #[.int .u64 t0, .int .u64 t1, .int .u64 t2, .int .u64 t3] 34)
  have hb3 := Box.new w2 34 [.int .u64 t0, .int .u64 t1, .int .u64 t2, .int .u64 t3]
  clear ha2 hl2 ho2 hb2 HB1 HL HO HD HLF d0 d1 d2 d3 d4 d5 d6 d7 d8 d9 d10 d11 d12 d13
  go_wp2_with fail
  generalize w1.heap.size = g1 at *
  generalize w2.heap.size = g2 at *
  generalize w2.alloc _ = U at *
  have a0 := ha3.c 0 rfl
  have a1 := ha3.c 1 rfl
  have a2 := ha3.c 2 rfl
  have a3 := ha3.c 3 rfl
  have b0 := hb3.c 0 rfl
  have b1 := hb3.c 1 rfl
  have b2 := hb3.c 2 rfl
  have b3 := hb3.c 3 rfl
  have l0 := hl3.c 0 rfl
  have l1 := hl3.c 1 rfl
  have l2 := hl3.c 2 rfl
  have l3 := hl3.c 3 rfl
  have o0 := ho3.c 0 rfl
  have o1 := ho3.c 1 rfl
  have o2 := ho3.c 2 rfl
  have o3 := ho3.c 3 rfl
  clear ha3 hl3 ho3 hb3
  obtain ⟨ol, _, hof⟩ := ofD_form x0 x1 x2 x3
  have HOF := Lib.hid hof
  clear hof
  go_region_held3 (fun V => Below w.heap.size w V ∧ V.cell? ⟨g1, 0, none⟩ = some (.int .u64 t0) ∧ V.cell? ⟨g1, 1, none⟩ = some (.int .u64 t1) ∧ V.cell? ⟨g1, 2, none⟩ = some (.int .u64 t2) ∧ V.cell? ⟨g1, 3, none⟩ = some (.int .u64 t3) ∧ V.cell? ⟨g2, 0, none⟩ = some (.int .u64 t0) ∧ V.cell? ⟨g2, 1, none⟩ = some (.int .u64 t1) ∧ V.cell? ⟨g2, 2, none⟩ = some (.int .u64 t2) ∧ V.cell? ⟨g2, 3, none⟩ = some (.int .u64 t3) ∧ V.cell? ⟨w.heap.size + 1, 0, none⟩ = some (.int .u64 x0) ∧ V.cell? ⟨w.heap.size + 1, 1, none⟩ = some (.int .u64 x1) ∧ V.cell? ⟨w.heap.size + 1, 2, none⟩ = some (.int .u64 x2) ∧ V.cell? ⟨w.heap.size + 1, 3, none⟩ = some (.int .u64 x3) ∧ V.cell? ⟨w.heap.size + 1 + 1, 0, none⟩ = some (.int .u8 n2_0) ∧ V.cell? ⟨w.heap.size + 1 + 1, 1, none⟩ = some (.int .u32 n2_1) ∧ V.cell? ⟨w.heap.size + 1 + 1, 2, none⟩ = some (.int .u32 n2_2) ∧ V.cell? ⟨w.heap.size + 1 + 1, 3, none⟩ = some (.int .u32 n2_3))
    (first
        | (try go_split_ands
           repeat' apply And.intro
           all_goals first
             | assumption
             | exact HB2.out
             | exact Below.drew HB2.out
             | (rw [World.cell?_drew]; assumption)
             | exact keepC hb (by first | assumption | (rw [World.cell?_drew]; assumption))
             | exact keepB hb (by first | assumption | exact Below.drew (by assumption))
             | exact Box.below (by first | assumption | exact Box.drew (by assumption)) hb))
    (first
      | (go_at_call 11; refine (Of_any x0 x1 x2 x3 _ HT1.out HT2.out HT3.out).mono ?_; rintro e w' ⟨rfl, hb⟩; rw [HOF.out])
      | (go_at_call 13; refine (rOf_any x0 x1 x2 x3 _ HT1.out HT2.out HT3.out).mono ?_; rintro e w' ⟨rfl, hb⟩; rw [HOF.out])
      | (go_at_call 8; refine (Start_any n2_0 n2_1 n2_2 n2_3 _).mono ?_; rintro e w' ⟨rfl, hb⟩; simp only [startV])
      | (go_at_call 14; refine (rStart_any n2_0 n2_1 n2_2 n2_3 _).mono ?_; rintro e w' ⟨rfl, hb⟩; simp only [startV]))
  all_goals go_split_ands
  all_goals go_wp2_with fail
  all_goals go_ret
  all_goals exact ⟨rfl, by assumption⟩

end Go.Proofs.Ytnaggpkcaioppaa
