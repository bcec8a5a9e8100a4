/- The walk of RegBack. -/
import Derived.Test.YtnaggpkcaioppaaLaw11
namespace Go.Proofs.Ytnaggpkcaioppaa
open Go.RowKit

def pairN (B A : Nat) : Nat := B * 4294967296 + A
theorem pairAt (A B : Nat) (hA : A < 4294967296) (hB : B < 4294967296) : (B * 4294967296 + A) % 4294967296 = A ∧ (B * 4294967296 + A) / 4294967296 % 4294967296 = B ∧ B * 4294967296 + A < 18446744073709551616 := by
  refine ⟨by omega, by omega, by omega⟩
theorem fieldAt {x m q lo k r : Nat} (hm : lo < m) (hk : k < q) (hx : x = lo + m * (k + q * r)) : x / m % q = k := by
  subst hx
  rw [Nat.add_mul_div_left _ _ (by omega), Nat.div_eq_of_lt hm, Nat.zero_add, Nat.add_mul_mod_self_left, Nat.mod_eq_of_lt hk]

set_option maxRecDepth 100000 in
theorem ofD_laid (tag K sq ki A B pc i j n p h X Y : Nat) (hf : fits9 (nine K sq ki pc i j n p h) = true) (hA : A < 4294967296) (hB : B < 4294967296) (hX : X < 4294967296) (hY : Y < 4294967296) :
    ofD tag (sum9 (nine K sq ki pc i j n p h)) (pairN B A) (pairN Y X) = descV tag K sq ki A B pc i j n p h X Y ∧ sum9 (nine K sq ki pc i j n p h) < 18446744073709551616 := by
  have hq := (fits9_iff _).1 hf
  have hs : sum9 (nine K sq ki pc i j n p h) = K + sq * 32 + ki * 4096 + pc * 65536 + i * 2097152 + j * 268435456 + n * 34359738368 + p * 2199023255552 + h * 140737488355328 := rfl
  rw [hs]
  obtain ⟨q0, q1, q2, q3, q4, q5, q6, q7, q8⟩ := (show K < 32 ∧ sq < 128 ∧ ki < 16 ∧ pc < 32 ∧ i < 128 ∧ j < 128 ∧ n < 64 ∧ p < 64 ∧ h < 8 from hq)
  clear hf hq hs
  refine ⟨?_, by omega⟩
  generalize hx : K + sq * 32 + ki * 4096 + pc * 65536 + i * 2097152 + j * 268435456 + n * 34359738368 + p * 2199023255552 + h * 140737488355328 = x
  have e0 : x % 32 = K := by have := fieldAt (x := x) (m := 1) (q := 32) (lo := 0) (k := K) (r := sq + ki * 128 + pc * 2048 + i * 65536 + j * 8388608 + n * 1073741824 + p * 68719476736 + h * 4398046511104) (by omega) (by omega) (by omega); rwa [Nat.div_one] at this
  have e1 : x / 32 % 128 = sq := fieldAt (lo := K) (r := ki + pc * 16 + i * 512 + j * 65536 + n * 8388608 + p * 536870912 + h * 34359738368) (by omega) (by omega) (by omega)
  have e2 : x / 4096 % 16 = ki := fieldAt (lo := K + sq * 32) (r := pc + i * 32 + j * 4096 + n * 524288 + p * 33554432 + h * 2147483648) (by omega) (by omega) (by omega)
  have e3 : x / 65536 % 32 = pc := fieldAt (lo := K + sq * 32 + ki * 4096) (r := i + j * 128 + n * 16384 + p * 1048576 + h * 67108864) (by omega) (by omega) (by omega)
  have e4 : x / 2097152 % 128 = i := fieldAt (lo := K + sq * 32 + ki * 4096 + pc * 65536) (r := j + n * 128 + p * 8192 + h * 524288) (by omega) (by omega) (by omega)
  have e5 : x / 268435456 % 128 = j := fieldAt (lo := K + sq * 32 + ki * 4096 + pc * 65536 + i * 2097152) (r := n + p * 64 + h * 4096) (by omega) (by omega) (by omega)
  have e6 : x / 34359738368 % 64 = n := fieldAt (lo := K + sq * 32 + ki * 4096 + pc * 65536 + i * 2097152 + j * 268435456) (r := p + h * 64) (by omega) (by omega) (by omega)
  have e7 : x / 2199023255552 % 64 = p := fieldAt (lo := K + sq * 32 + ki * 4096 + pc * 65536 + i * 2097152 + j * 268435456 + n * 34359738368) (r := h) (by omega) (by omega) (by omega)
  have e8 : x / 140737488355328 % 8 = h := fieldAt (lo := K + sq * 32 + ki * 4096 + pc * 65536 + i * 2097152 + j * 268435456 + n * 34359738368 + p * 2199023255552) (r := 0) (by omega) (by omega) (by omega)
  have e9 := (pairAt A B hA hB).1
  have e10 := (pairAt A B hA hB).2.1
  have e11 := (pairAt X Y hX hY).1
  have e12 := (pairAt X Y hX hY).2.1
  unfold ofD pairN
  rw [e0, e1, e2, e3, e4, e5, e6, e7, e8, e9, e10, e11, e12]

set_option maxRecDepth 100000 in
set_option maxHeartbeats 3200000 in
theorem walk_RegBack (n0_0 n0_1 n0_2 n0_3 n0_4 n0_5 n0_6 n0_7 n0_8 n0_9 n0_10 n0_11 n0_12 n0_13 : Int) (w : World) (b0_0 : IntKind.u64.min ≤ n0_0 ∧ n0_0 ≤ IntKind.u64.max) (b0_1 : IntKind.u8.min ≤ n0_1 ∧ n0_1 ≤ IntKind.u8.max) (b0_2 : IntKind.u8.min ≤ n0_2 ∧ n0_2 ≤ IntKind.u8.max) (b0_3 : IntKind.u8.min ≤ n0_3 ∧ n0_3 ≤ IntKind.u8.max) (b0_4 : IntKind.u32.min ≤ n0_4 ∧ n0_4 ≤ IntKind.u32.max) (b0_5 : IntKind.u32.min ≤ n0_5 ∧ n0_5 ≤ IntKind.u32.max) (b0_6 : IntKind.u8.min ≤ n0_6 ∧ n0_6 ≤ IntKind.u8.max) (b0_7 : IntKind.u8.min ≤ n0_7 ∧ n0_7 ≤ IntKind.u8.max) (b0_8 : IntKind.u8.min ≤ n0_8 ∧ n0_8 ≤ IntKind.u8.max) (b0_9 : IntKind.u8.min ≤ n0_9 ∧ n0_9 ≤ IntKind.u8.max) (b0_10 : IntKind.u8.min ≤ n0_10 ∧ n0_10 ≤ IntKind.u8.max) (b0_11 : IntKind.u8.min ≤ n0_11 ∧ n0_11 ≤ IntKind.u8.max) (b0_12 : IntKind.u32.min ≤ n0_12 ∧ n0_12 ≤ IntKind.u32.max) (b0_13 : IntKind.u32.min ≤ n0_13 ∧ n0_13 ≤ IntKind.u32.max) :
    Calls Try.prog 6 #[.agg #[.int .u64 n0_0, .int .u8 n0_1, .int .u8 n0_2, .int .u8 n0_3, .int .u32 n0_4, .int .u32 n0_5, .int .u8 n0_6, .int .u8 n0_7, .int .u8 n0_8, .int .u8 n0_9, .int .u8 n0_10, .int .u8 n0_11, .int .u32 n0_12, .int .u32 n0_13]] w fun e w' => e = .returned (.bool true) ∧ Below w.heap.size w w' := by
  simp [IntKind.min, IntKind.max, IntKind.signed, IntKind.bits] at *
  obtain ⟨tag, rfl⟩ := Int.eq_ofNat_of_zero_le b0_0.1
  obtain ⟨K, rfl⟩ := Int.eq_ofNat_of_zero_le b0_1.1
  obtain ⟨sq, rfl⟩ := Int.eq_ofNat_of_zero_le b0_2.1
  obtain ⟨ki, rfl⟩ := Int.eq_ofNat_of_zero_le b0_3.1
  obtain ⟨A, rfl⟩ := Int.eq_ofNat_of_zero_le b0_4.1
  obtain ⟨B, rfl⟩ := Int.eq_ofNat_of_zero_le b0_5.1
  obtain ⟨pc, rfl⟩ := Int.eq_ofNat_of_zero_le b0_6.1
  obtain ⟨i, rfl⟩ := Int.eq_ofNat_of_zero_le b0_7.1
  obtain ⟨j, rfl⟩ := Int.eq_ofNat_of_zero_le b0_8.1
  obtain ⟨n, rfl⟩ := Int.eq_ofNat_of_zero_le b0_9.1
  obtain ⟨p, rfl⟩ := Int.eq_ofNat_of_zero_le b0_10.1
  obtain ⟨h, rfl⟩ := Int.eq_ofNat_of_zero_le b0_11.1
  obtain ⟨X, rfl⟩ := Int.eq_ofNat_of_zero_le b0_12.1
  obtain ⟨Y, rfl⟩ := Int.eq_ofNat_of_zero_le b0_13.1
  have u_tag : tag < 18446744073709551616 := by omega
  have u_K : K < 256 := by omega
  have u_sq : sq < 256 := by omega
  have u_ki : ki < 256 := by omega
  have u_A : A < 4294967296 := by omega
  have u_B : B < 4294967296 := by omega
  have u_pc : pc < 256 := by omega
  have u_i : i < 256 := by omega
  have u_j : j < 256 := by omega
  have u_n : n < 256 := by omega
  have u_p : p < 256 := by omega
  have u_h : h < 256 := by omega
  have u_X : X < 4294967296 := by omega
  have u_Y : Y < 4294967296 := by omega
  clear b0_0 b0_1 b0_2 b0_3 b0_4 b0_5 b0_6 b0_7 b0_8 b0_9 b0_10 b0_11 b0_12 b0_13
  go_enter Try.func6, Try.ntmps6
  go_wp2_with fail
  refine (Laid_any tag K sq ki A B pc i j n p h X Y _ u_K u_sq u_ki u_A u_B u_pc u_i u_j u_n u_p u_h u_X u_Y).mono ?_
  rintro e w1 ⟨rfl, hb1⟩
  have hd := (Box.new w 32 [.int .u64 tag, .int .u8 K, .int .u8 sq, .int .u8 ki, .int .u32 A, .int .u32 B, .int .u8 pc, .int .u8 i, .int .u8 j, .int .u8 n, .int .u8 p, .int .u8 h, .int .u32 X, .int .u32 Y]).below hb1
  have HB1 := Lib.hid (keepB hb1 (newB w _))
  clear hb1
  cases hf : fits9 (nine K sq ki pc i j n p h) with
  | false =>
    rw [show laidV tag A B X Y (nine K sq ki pc i j n p h) = .tuple #[.agg #[.int .u64 0, .int .u64 0, .int .u64 0, .int .u64 0], .int .i64 10] by simp [laidV, hf]]
    clear hf hd
    go_wp2_with fail
    refine (alive_any _).mono ?_
    rintro e w2 ⟨rfl, hb2⟩
    have hl := (Box.new w1 34 [.int .u64 0, .int .u64 0, .int .u64 0, .int .u64 0]).below hb2
    obtain ⟨l0, l1, l2, l3⟩ := box4 hl
    have HB2 := Lib.hid (keepB hb2 (keepB (newB _ _) HB1.out))
    clear hl hb2 HB1
    go_wp2_with fail
    go_ret
    exact ⟨rfl, HB2.out⟩
  | true =>
    rw [show laidV tag A B X Y (nine K sq ki pc i j n p h) = .tuple #[.agg #[.int .u64 tag, .int .u64 (sum9 (nine K sq ki pc i j n p h)), .int .u64 ((pairN B A : Nat) : Int), .int .u64 ((pairN Y X : Nat) : Int)], .int .i64 0] by simp [laidV, hf, pairN]]
    have hO : ofD tag (sum9 (nine K sq ki pc i j n p h)) (pairN B A) (pairN Y X) = .agg #[.int .u64 tag, .int .u8 K, .int .u8 sq, .int .u8 ki, .int .u32 A, .int .u32 B, .int .u8 pc, .int .u8 i, .int .u8 j, .int .u8 n, .int .u8 p, .int .u8 h, .int .u32 X, .int .u32 Y] ∧ sum9 (nine K sq ki pc i j n p h) < 18446744073709551616 := ofD_laid tag K sq ki A B pc i j n p h X Y hf u_A u_B u_X u_Y
    have hba : pairN B A < 18446744073709551616 := (pairAt A B u_A u_B).2.2
    have hyx : pairN Y X < 18446744073709551616 := (pairAt X Y u_X u_Y).2.2
    clear hf
    generalize sum9 (nine K sq ki pc i j n p h) = S9 at *
    generalize pairN B A = BA at *
    generalize pairN Y X = YX at *
    have HO := Lib.hid hO
    have HBA := Lib.hid hba
    have HYX := Lib.hid hyx
    have hd2 := hd.alloc (.cells #[.int .u64 tag, .int .u64 S9, .int .u64 BA, .int .u64 YX] 34)
    have hl2 := Box.new w1 34 [.int .u64 tag, .int .u64 S9, .int .u64 BA, .int .u64 YX]
    have HB2 := Lib.hid (keepB (newB w1 (.cells #[.int .u64 tag, .int .u64 S9, .int .u64 BA, .int .u64 YX] 34)) HB1.out)
    clear hO hba hyx hd HB1 u_tag u_K u_sq u_ki u_A u_B u_pc u_i u_j u_n u_p u_h u_X u_Y
    go_wp2_with fail
    generalize w1.heap.size = g at *
    generalize w1.alloc _ = U at *
    have d0 := hd2.c 0 rfl
    have d1 := hd2.c 1 rfl
    have d2 := hd2.c 2 rfl
    have d3 := hd2.c 3 rfl
    have d4 := hd2.c 4 rfl
    have d5 := hd2.c 5 rfl
    have d6 := hd2.c 6 rfl
    have d7 := hd2.c 7 rfl
    have d8 := hd2.c 8 rfl
    have d9 := hd2.c 9 rfl
    have d10 := hd2.c 10 rfl
    have d11 := hd2.c 11 rfl
    have d12 := hd2.c 12 rfl
    have d13 := hd2.c 13 rfl
    have l0 := hl2.c 0 rfl
    have l1 := hl2.c 1 rfl
    have l2 := hl2.c 2 rfl
    have l3 := hl2.c 3 rfl
    have HD := Lib.hid hd2
    have HL := Lib.hid hl2
    clear hd2 hl2
    go_region_held3 (fun V => Below w.heap.size w V ∧ Box V w.heap.size [.int .u64 tag, .int .u8 K, .int .u8 sq, .int .u8 ki, .int .u32 A, .int .u32 B, .int .u8 pc, .int .u8 i, .int .u8 j, .int .u8 n, .int .u8 p, .int .u8 h, .int .u32 X, .int .u32 Y] ∧ Box V g [.int .u64 tag, .int .u64 S9, .int .u64 BA, .int .u64 YX] ∧ V.cell? ⟨w.heap.size, 0, none⟩ = some (.int .u64 tag) ∧ V.cell? ⟨w.heap.size, 1, none⟩ = some (.int .u8 K) ∧ V.cell? ⟨w.heap.size, 2, none⟩ = some (.int .u8 sq) ∧ V.cell? ⟨w.heap.size, 3, none⟩ = some (.int .u8 ki) ∧ V.cell? ⟨w.heap.size, 4, none⟩ = some (.int .u32 A) ∧ V.cell? ⟨w.heap.size, 5, none⟩ = some (.int .u32 B) ∧ V.cell? ⟨w.heap.size, 6, none⟩ = some (.int .u8 pc) ∧ V.cell? ⟨w.heap.size, 7, none⟩ = some (.int .u8 i) ∧ V.cell? ⟨w.heap.size, 8, none⟩ = some (.int .u8 j) ∧ V.cell? ⟨w.heap.size, 9, none⟩ = some (.int .u8 n) ∧ V.cell? ⟨w.heap.size, 10, none⟩ = some (.int .u8 p) ∧ V.cell? ⟨w.heap.size, 11, none⟩ = some (.int .u8 h) ∧ V.cell? ⟨w.heap.size, 12, none⟩ = some (.int .u32 X) ∧ V.cell? ⟨w.heap.size, 13, none⟩ = some (.int .u32 Y) ∧ V.cell? ⟨g, 0, none⟩ = some (.int .u64 tag) ∧ V.cell? ⟨g, 1, none⟩ = some (.int .u64 S9) ∧ V.cell? ⟨g, 2, none⟩ = some (.int .u64 BA) ∧ V.cell? ⟨g, 3, none⟩ = some (.int .u64 YX))
      (first
        | (try go_split_ands
           repeat' apply And.intro
           all_goals first
             | assumption
             | exact HB2.out
             | exact HD.out
             | exact HL.out
             | exact Below.drew HB2.out
             | exact Box.drew HD.out
             | exact Box.drew HL.out
             | (rw [World.cell?_drew]; assumption)
             | exact keepC hb (by first | assumption | (rw [World.cell?_drew]; assumption))
             | exact keepB hb (by first | assumption | exact Below.drew (by assumption))
             | exact Box.below (by first | assumption | exact Box.drew (by assumption)) hb))
      (first
        | (go_at_call 9; refine (alive_any _).mono ?_; rintro e w' ⟨rfl, hb⟩)
        | (go_at_call 11; refine (Of_any tag S9 BA YX _ HO.out.2 HBA.out HYX.out).mono ?_; rintro e w' ⟨rfl, hb⟩; rw [HO.out.1]))
    all_goals go_split_ands
    all_goals go_wp2_with fail
    all_goals go_ret
    all_goals exact ⟨rfl, by assumption⟩

end Go.Proofs.Ytnaggpkcaioppaa
