/- The walk of RegThere. -/
import Derived.Test.YtnaggpkcaioppaaLaw11b
namespace Go.Proofs.Ytnaggpkcaioppaa
open Go.RowKit

theorem pair_back (b : Nat) (hb : b < 18446744073709551616) : b / 4294967296 % 4294967296 * 4294967296 + b % 4294967296 = b := by omega
def low50 (x : Nat) : Nat := x % 1125899906842624
theorem there_word (x : Nat) : sum9 (nineOf x) = low50 x := by
  have h : ∀ m q y : Nat, y % q + q * (y / q % m) = y % (q * m) := fun m q y => (Nat.mod_mul).symm
  have e : ∀ a b y : Nat, y / a / b = y / (a * b) := fun a b y => Nat.div_div_eq_div_mul y a b
  show x % 32 + x / 32 % 128 * 32 + x / 4096 % 16 * 4096 + x / 65536 % 32 * 65536 + x / 2097152 % 128 * 2097152 + x / 268435456 % 128 * 268435456 + x / 34359738368 % 64 * 34359738368 + x / 2199023255552 % 64 * 2199023255552 + x / 140737488355328 % 8 * 140737488355328 = x % 1125899906842624
  rw [Nat.mul_comm (x / 32 % 128), h 128 32, Nat.mul_comm (x / 4096 % 16), h 16 4096, Nat.mul_comm (x / 65536 % 32), h 32 65536, Nat.mul_comm (x / 2097152 % 128), h 128 2097152, Nat.mul_comm (x / 268435456 % 128), h 128 268435456, Nat.mul_comm (x / 34359738368 % 64), h 64 34359738368, Nat.mul_comm (x / 2199023255552 % 64), h 64 2199023255552, Nat.mul_comm (x / 140737488355328 % 8), h 8 140737488355328]
theorem there_fits (x : Nat) : fits9 (nineOf x) = true := by
  refine (fits9_iff _).2 ?_
  show x % 32 < 32 ∧ x / 32 % 128 < 128 ∧ x / 4096 % 16 < 16 ∧ x / 65536 % 32 < 32 ∧ x / 2097152 % 128 < 128 ∧ x / 268435456 % 128 < 128 ∧ x / 34359738368 % 64 < 64 ∧ x / 2199023255552 % 64 < 64 ∧ x / 140737488355328 % 8 < 8
  exact ⟨Nat.mod_lt _ (by decide), Nat.mod_lt _ (by decide), Nat.mod_lt _ (by decide), Nat.mod_lt _ (by decide), Nat.mod_lt _ (by decide), Nat.mod_lt _ (by decide), Nat.mod_lt _ (by decide), Nat.mod_lt _ (by decide), Nat.mod_lt _ (by decide)⟩
theorem mod_lt2 (x m n : Nat) (h : m ≤ n) (hm : 0 < m) : x % m < n := Nat.lt_of_lt_of_le (Nat.mod_lt _ hm) h

/-- What is read and laid again. -/
theorem LaidOf_any (t x b c : Nat) (w : World) (hb : b < 18446744073709551616) (hc : c < 18446744073709551616) :
    ∃ args, ofD t x b c = args ∧ Calls Try.prog 10 #[args] w fun e w' => e = .returned (.tuple #[.agg #[.int .u64 t, .int .u64 (low50 x), .int .u64 b, .int .u64 c], .int .i64 0]) ∧ Below w.heap.size w w' := by
  refine ⟨_, rfl, ?_⟩
  refine (Laid_any t (x % 32) (x / 32 % 128) (x / 4096 % 16) (b % 4294967296) (b / 4294967296 % 4294967296) (x / 65536 % 32) (x / 2097152 % 128) (x / 268435456 % 128) (x / 34359738368 % 64) (x / 2199023255552 % 64) (x / 140737488355328 % 8) (c % 4294967296) (c / 4294967296 % 4294967296) w
    (mod_lt2 _ _ _ (by decide) (by decide)) (mod_lt2 _ _ _ (by decide) (by decide)) (mod_lt2 _ _ _ (by decide) (by decide)) (Nat.mod_lt _ (by decide)) (Nat.mod_lt _ (by decide)) (mod_lt2 _ _ _ (by decide) (by decide)) (mod_lt2 _ _ _ (by decide) (by decide)) (mod_lt2 _ _ _ (by decide) (by decide)) (mod_lt2 _ _ _ (by decide) (by decide)) (mod_lt2 _ _ _ (by decide) (by decide)) (mod_lt2 _ _ _ (by decide) (by decide)) (Nat.mod_lt _ (by decide)) (Nat.mod_lt _ (by decide))).mono ?_
  rintro e w' ⟨rfl, hb'⟩
  refine ⟨?_, hb'⟩
  have hf := there_fits x
  have hs := there_word x
  have h1 := pair_back b hb
  have h2 := pair_back c hc
  show Ending.returned (laidV t (b % 4294967296) (b / 4294967296 % 4294967296) (c % 4294967296) (c / 4294967296 % 4294967296) (nineOf x)) = _
  unfold laidV
  rw [if_pos hf, hs, h1, h2]

set_option maxHeartbeats 3200000 in
theorem walk_RegThere (n0_0 n0_1 n0_2 n0_3 : Int) (w : World) (b0_0 : IntKind.u64.min ≤ n0_0 ∧ n0_0 ≤ IntKind.u64.max) (b0_1 : IntKind.u64.min ≤ n0_1 ∧ n0_1 ≤ IntKind.u64.max) (b0_2 : IntKind.u64.min ≤ n0_2 ∧ n0_2 ≤ IntKind.u64.max) (b0_3 : IntKind.u64.min ≤ n0_3 ∧ n0_3 ≤ IntKind.u64.max) :
    Calls Try.prog 7 #[.agg #[.int .u64 n0_0, .int .u64 n0_1, .int .u64 n0_2, .int .u64 n0_3]] w fun e w' => e = .returned (.bool true) ∧ Below w.heap.size w w' := by
  simp [IntKind.min, IntKind.max, IntKind.signed, IntKind.bits] at *
  obtain ⟨t, rfl⟩ := Int.eq_ofNat_of_zero_le b0_0.1
  obtain ⟨x, rfl⟩ := Int.eq_ofNat_of_zero_le b0_1.1
  obtain ⟨b, rfl⟩ := Int.eq_ofNat_of_zero_le b0_2.1
  obtain ⟨c, rfl⟩ := Int.eq_ofNat_of_zero_le b0_3.1
  have u_t : t < 18446744073709551616 := by omega
  have u_x : x < 18446744073709551616 := by omega
  have u_b : b < 18446744073709551616 := by omega
  have u_c : c < 18446744073709551616 := by omega
  clear b0_0 b0_1 b0_2 b0_3
  have HX := Lib.hid u_x; have HB := Lib.hid u_b; have HC := Lib.hid u_c
  clear u_t u_x u_b u_c
  go_enter Try.func7, Try.ntmps7
  go_wp2_with fail
  refine (Of_any t x b c _ HX.out HB.out HC.out).mono ?_
  rintro e w1 ⟨rfl, hb1⟩
  have hl1 := (Box.new w 34 [.int .u64 t, .int .u64 x, .int .u64 b, .int .u64 c]).below hb1
  have HB1 := Lib.hid (keepB hb1 (newB w _))
  have HL1 := Lib.hid hl1
  clear hb1 hl1
  generalize hargs : ofD t x b c = args
  have HA := Lib.hid hargs
  clear hargs
  go_wp2_with fail
  obtain ⟨args', ha, hcall⟩ := LaidOf_any t x b c w1 HB.out HC.out
  obtain rfl : args' = args := ha.symm.trans HA.out
  clear ha
  refine hcall.mono ?_
  clear hcall
  rintro e w2 ⟨rfl, hb2⟩
  have hlt : w.heap.size < w2.heap.size := (HL1.out.below hb2).lt
  have l1 := fun o => ((HL1.out.below hb2).alloc o).c 1 rfl
  have f1 := fun o => ((HL1.out.below hb2).alloc o).f 1
  have hl3 := (((HL1.out.below hb2).set 1 (.int .u64 ((x : Int) % 1125899906842624))).alloc (.cells #[.int .u64 t, .int .u64 (low50 x), .int .u64 b, .int .u64 c] 34)).as (ds := [.int .u64 t, .int .u64 (low50 x), .int .u64 b, .int .u64 c]) (by simp [low50])
  have hx3 := Box.newAt (w2.setCell ⟨w.heap.size, 1, none⟩ (.int .u64 ((x : Int) % 1125899906842624))) 34 [.int .u64 t, .int .u64 (low50 x), .int .u64 b, .int .u64 c] (g := w2.heap.size) (by simp)
  have HB3 := Lib.hid (moreB ((keepB hb2 HB1.out).setCell (p := ⟨w.heap.size, 1, none⟩) (Nat.le_refl _) (.int .u64 ((x : Int) % 1125899906842624))) (.cells #[.int .u64 t, .int .u64 (low50 x), .int .u64 b, .int .u64 c] 34))
  have HL3 := Lib.hid hl3
  have HX3 := Lib.hid hx3
  clear hb2 hl3 hx3 HB1 HL1
  go_wp2_with fail
  refine (alive_any _).mono ?_
  rintro e w3 ⟨rfl, hb3⟩
  obtain ⟨l0, l1', l2, l3⟩ := box4 (HL3.out.below hb3)
  obtain ⟨x0, x1, x2, x3⟩ := box4 (HX3.out.below hb3)
  have HB4 := Lib.hid (keepB hb3 HB3.out)
  clear hb3 HB3 HL3 HX3 l1 f1
  go_wp2_with fail
  go_ret
  exact ⟨rfl, HB4.out⟩

end Go.Proofs.Ytnaggpkcaioppaa
