/- Plain arithmetic of fields of words: no program in sight. -/
import Derived.Laws.Bits64b
import Derived.Laws.BitsLemmas
namespace Go.Proofs.YtecjbgddjejjdaaDoor
open Go

/-- May there be a field of so many bits at a place? -/
def mayB (a b : Int) : Bool := decide (1 ≤ b) && decide (b ≤ 64) && decide (0 ≤ a) && decide (a ≤ 64 - b)
/-- The greatest number of so many bits. -/
def maskN (b : Nat) : Nat := 2 ^ b - 1
/-- A word's field. -/
def fieldN (w a b : Nat) : Nat := w / 2 ^ a % 2 ^ b
/-- A word in which a field is a number. -/
def withN (w a b v : Nat) : Nat := w % 2 ^ a + (v % 2 ^ b) * 2 ^ a + w / 2 ^ (a + b) * 2 ^ (a + b)

theorem mayB_iff (a b : Int) : mayB a b = true ↔ 1 ≤ b ∧ b ≤ 64 ∧ 0 ≤ a ∧ a ≤ 64 - b := by
  simp [mayB, and_assoc]

theorem pow64 : (2 : Nat) ^ 64 = 18446744073709551616 := by decide

theorem maskN_lt (b : Nat) (hb : b ≤ 64) : maskN b < 18446744073709551616 := by
  have h := Nat.pow_le_pow_right (n := 2) (by decide) hb
  rw [pow64] at h
  have := Nat.two_pow_pos b
  unfold maskN; omega

theorem fieldN_lt (w a b : Nat) : fieldN w a b < 2 ^ b := Nat.mod_lt _ (Nat.two_pow_pos b)

theorem fieldN_le (w a b : Nat) (hw : w < 18446744073709551616) : fieldN w a b < 18446744073709551616 := by
  have h1 : fieldN w a b ≤ w / 2 ^ a := Nat.mod_le _ _
  have h2 : w / 2 ^ a ≤ w := Nat.div_le_self _ _
  omega

/-- What the walk leaves of a mask. -/
theorem maskN_int (b : Nat) (hb : b < 64) : IntKind.u64.wrap (IntKind.u64.wrap (2 ^ b) - 1) = (maskN b : Int) := by
  have h := Nat.pow_lt_pow_right (a := 2) (by decide) hb
  rw [pow64] at h
  have hp := Nat.two_pow_pos b
  have e : ((2 : Int) ^ b) = ((2 ^ b : Nat) : Int) := by simp
  rw [e, IntKind.wrap_u64, IntKind.wrap_u64]
  unfold maskN
  omega

theorem maskN_64 : (maskN 64 : Int) = 18446744073709551615 := by decide

/-- What the walk leaves of a field. -/
theorem field_int (w a b : Nat) (hw : w < 18446744073709551616) (hb : b ≤ 64) :
    bits .and .u64 ((w : Int) / 2 ^ a) (maskN b : Int) = (fieldN w a b : Int) := by
  have e : ((w : Int) / 2 ^ a) = ((w / 2 ^ a : Nat) : Int) := by simp
  have h2 : w / 2 ^ a ≤ w := Nat.div_le_self _ _
  rw [e, bits_and_u64_nat _ _ (by omega) (maskN_lt b hb)]
  unfold maskN fieldN
  rw [Nat.and_two_pow_sub_one_eq_mod]

theorem withN_eq (w a b v : Nat) : withN w a b v = 2 ^ a * (2 ^ b * (w / 2 ^ (a + b)) + v % 2 ^ b) + w % 2 ^ a := by
  unfold withN
  rw [Nat.mul_add, ← Nat.mul_assoc, ← Nat.pow_add, Nat.mul_comm (2 ^ a) (v % 2 ^ b), Nat.mul_comm (2 ^ (a + b))]
  omega

theorem withN_bit (w a b v i : Nat) : (withN w a b v).testBit i = if a ≤ i ∧ i < a + b then v.testBit (i - a) else w.testBit i := by
  rw [withN_eq, Nat.testBit_two_pow_mul_add _ (Nat.mod_lt _ (Nat.two_pow_pos a)), Nat.testBit_two_pow_mul_add _ (Nat.mod_lt _ (Nat.two_pow_pos b))]
  by_cases h1 : i < a
  · rw [if_pos h1, if_neg (by omega), Nat.testBit_mod_two_pow]
    simp [h1]
  · rw [if_neg h1]
    by_cases h2 : i - a < b
    · rw [if_pos h2, if_pos (by omega), Nat.testBit_mod_two_pow]
      simp [h2]
    · rw [if_neg h2, if_neg (by omega), Nat.testBit_div_two_pow]
      congr 1
      omega

theorem withN_lt (w a b v : Nat) (hw : w < 18446744073709551616) (hab : a + b ≤ 64) : withN w a b v < 18446744073709551616 := by
  rw [← pow64]
  refine Nat.lt_pow_two_of_testBit _ fun i hi => ?_
  rw [withN_bit, if_neg (by omega)]
  exact Nat.testBit_lt_two_pow (Nat.lt_of_lt_of_le hw (by rw [← pow64]; exact Nat.pow_le_pow_right (by decide) hi))

theorem mask_shift (a b : Nat) (hab : a + b ≤ 64) : maskN b * 2 ^ a < 18446744073709551616 := by
  have h1 : maskN b * 2 ^ a < 2 ^ b * 2 ^ a := Nat.mul_lt_mul_of_pos_right (by have := Nat.two_pow_pos b; unfold maskN; omega) (Nat.two_pow_pos a)
  rw [← Nat.pow_add] at h1
  have h2 : 2 ^ (b + a) ≤ 2 ^ 64 := Nat.pow_le_pow_right (by decide) (by omega)
  rw [pow64] at h2
  omega

theorem val_shift (a b v : Nat) (hab : a + b ≤ 64) (hv : v ≤ maskN b) : v * 2 ^ a < 18446744073709551616 :=
  Nat.lt_of_le_of_lt (Nat.mul_le_mul_right _ hv) (mask_shift a b hab)

theorem bits_andNot_u64_nat (a b : Nat) (ha : a < 18446744073709551616) (hb : b < 18446744073709551616) :
    bits .andNot .u64 (a : Int) (b : Int) = ((a &&& (18446744073709551615 - b) : Nat) : Int) := by
  have hx : a &&& (18446744073709551615 - b) < 2 ^ 64 := Nat.and_lt_two_pow _ (by omega)
  have h1 : (BitVec.ofInt 64 (a : Int)).toNat = a := by
    rw [BitVec.ofInt_natCast, BitVec.toNat_ofNat]; exact Nat.mod_eq_of_lt (by omega)
  have h2 : (BitVec.ofInt 64 (b : Int)).toNat = b := by
    rw [BitVec.ofInt_natCast, BitVec.toNat_ofNat]; exact Nat.mod_eq_of_lt (by omega)
  show IntKind.u64.wrap ((BitVec.ofInt 64 (a : Int) &&& ~~~ BitVec.ofInt 64 (b : Int)).toNat : Int) = _
  rw [BitVec.toNat_and, BitVec.toNat_not, h1, h2, IntKind.wrap_u64, show (2 : Nat) ^ 64 - 1 - b = 18446744073709551615 - b from by rw [pow64]]
  omega

/-- What the walk leaves of a put. -/
theorem put_int (x a b v : Nat) (hx : x < 18446744073709551616) (hab : a + b ≤ 64) (hv : v ≤ maskN b) :
    bits .or .u64 (bits .andNot .u64 (x : Int) (IntKind.u64.wrap ((maskN b : Int) * 2 ^ a))) (IntKind.u64.wrap ((v : Int) * 2 ^ a)) = (withN x a b v : Int) := by
  have h1 := mask_shift a b hab
  have h2 := val_shift a b v hab hv
  have e1 : ((maskN b : Int) * 2 ^ a) = ((maskN b * 2 ^ a : Nat) : Int) := by simp
  have e2 : ((v : Int) * 2 ^ a) = ((v * 2 ^ a : Nat) : Int) := by simp
  have e3 : ∀ n : Nat, n < 18446744073709551616 → IntKind.u64.wrap (n : Int) = n := fun n hn => by rw [IntKind.wrap_u64]; omega
  rw [e1, e2, e3 _ h1, e3 _ h2, bits_andNot_u64_nat _ _ hx h1]
  have h3 : x &&& (18446744073709551615 - maskN b * 2 ^ a) < 18446744073709551616 := by
    have := @Nat.and_le_left x (18446744073709551615 - maskN b * 2 ^ a)
    omega
  rw [bits_or_u64_nat _ _ h3 h2]
  congr 1
  refine Nat.eq_of_testBit_eq fun i => ?_
  rw [withN_bit, Nat.testBit_or, Nat.testBit_and, Nat.mul_comm v, Nat.testBit_two_pow_mul]
  have hm : (18446744073709551615 - maskN b * 2 ^ a).testBit i = (decide (i < 64) && !(decide (a ≤ i) && decide (i < a + b))) := by
    have e : 18446744073709551615 - maskN b * 2 ^ a = 2 ^ 64 - ((maskN b * 2 ^ a) + 1) := by rw [pow64]; omega
    rw [e, Nat.testBit_two_pow_sub_succ (by rw [pow64]; omega), Nat.mul_comm, Nat.testBit_two_pow_mul]
    unfold maskN
    rw [Nat.testBit_two_pow_sub_one]
    by_cases g1 : a ≤ i
    · have : decide (i - a < b) = decide (i < a + b) := by congr 1; exact propext ⟨fun _ => by omega, fun _ => by omega⟩
      simp [g1, this]
    · simp [g1]
  rw [hm]
  by_cases g1 : a ≤ i ∧ i < a + b
  · rw [if_pos g1]
    simp [g1.1, g1.2]
  · rw [if_neg g1]
    have hvb : v < 2 ^ b := by have := Nat.two_pow_pos b; unfold maskN at hv; omega
    by_cases g2 : a ≤ i
    · have g3 : ¬ i < a + b := fun h => g1 ⟨g2, h⟩
      have : v.testBit (i - a) = false := Nat.testBit_lt_two_pow (Nat.lt_of_lt_of_le hvb (Nat.pow_le_pow_right (by decide) (by omega)))
      simp [g2, g3, this]
      intro hxi
      refine Classical.byContradiction fun hn => ?_
      have := Nat.testBit_lt_two_pow (Nat.lt_of_lt_of_le hx (by rw [← pow64]; exact Nat.pow_le_pow_right (n := 2) (by decide) (show 64 ≤ i by omega)))
      rw [this] at hxi
      cases hxi
    · simp [g2]
      intro hxi
      omega

/-! ### The reference's loops -/

theorem fieldN_step (w a b : Nat) : fieldN w a (b + 1) = 2 * fieldN w (a + 1) b + w / 2 ^ a % 2 := by
  unfold fieldN
  rw [Nat.pow_succ 2 a, ← Nat.div_div_eq_div_mul, Nat.pow_succ', Nat.mod_mul]
  omega

theorem fieldN_zero (w a : Nat) : fieldN w a 0 = 0 := by unfold fieldN; simp [Nat.mod_one]

theorem bit_mod (w i : Nat) : w / 2 ^ i % 2 = if w.testBit i then 1 else 0 := by
  rw [Nat.testBit_eq_decide_div_mod_eq]
  have : w / 2 ^ i % 2 < 2 := Nat.mod_lt _ (by decide)
  by_cases h : w / 2 ^ i % 2 = 1
  · simp [h]
  · have : w / 2 ^ i % 2 = 0 := by omega
    simp [this]

theorem div_step (n i : Nat) : n / 2 ^ i = 2 * (n / 2 ^ (i + 1)) + n / 2 ^ i % 2 := by
  rw [Nat.pow_succ, ← Nat.div_div_eq_div_mul]
  omega

/-- One bit of a word in which a field is a number. -/
theorem withN_mod (w a b v i : Nat) : withN w a b v / 2 ^ i % 2 = if a ≤ i ∧ i < a + b then v / 2 ^ (i - a) % 2 else w / 2 ^ i % 2 := by
  rw [bit_mod, withN_bit, bit_mod, bit_mod]
  split <;> rfl

/-- A power of two, under a name. -/
def twoN (k : Nat) : Nat := 2 ^ k
theorem twoN_succ (k : Nat) : twoN (k + 1) = 2 * twoN k := by unfold twoN; rw [Nat.pow_succ']
theorem twoN_le (k : Nat) (hk : k ≤ 63) : twoN k ≤ 9223372036854775808 := by
  have := Nat.pow_le_pow_right (n := 2) (by decide) hk
  unfold twoN
  have e : (2 : Nat) ^ 63 = 9223372036854775808 := by decide
  omega
theorem twoN_pos (k : Nat) : 0 < twoN k := Nat.two_pow_pos k
/-- Bit i of a word. -/
def bitN (w i : Nat) : Nat := w / 2 ^ i % 2
theorem bitN_lt (w i : Nat) : bitN w i < 2 := Nat.mod_lt _ (by decide)
theorem bitN_int (w i : Nat) : ((w : Int) / 2 ^ i % 2) = (bitN w i : Int) := by unfold bitN; simp
theorem fieldN_step' (w a b : Nat) : fieldN w a (b + 1) = 2 * fieldN w (a + 1) b + bitN w a := fieldN_step w a b
/-- The upper part of a word in which a field is a number: the reference's 'out' before its round i - 1. -/
def upN (w a b v i : Nat) : Nat := withN w a b v / 2 ^ i
def wbitN (w a b v i : Nat) : Nat := if a ≤ i ∧ i < a + b then bitN v (i - a) else bitN w i
theorem upN_step (w a b v i : Nat) : upN w a b v i = 2 * upN w a b v (i + 1) + wbitN w a b v i := by
  unfold upN wbitN bitN
  rw [div_step, withN_mod]
theorem upN_zero (w a b v : Nat) : upN w a b v 0 = withN w a b v := by unfold upN; simp
theorem upN_64 (w a b v : Nat) (hw : w < 18446744073709551616) (hab : a + b ≤ 64) : upN w a b v 64 = 0 := by
  unfold upN
  rw [pow64]
  exact Nat.div_eq_of_lt (withN_lt w a b v hw hab)
theorem upN_lt (w a b v i : Nat) (hw : w < 18446744073709551616) (hab : a + b ≤ 64) (hi : 1 ≤ i) : upN w a b v i < 9223372036854775808 := by
  have h := withN_lt w a b v hw hab
  unfold upN
  have h2 : withN w a b v / 2 ^ i ≤ withN w a b v / 2 ^ 1 := Nat.div_le_div_left (Nat.pow_le_pow_right (by decide) hi) (by decide)
  omega
theorem fieldN_lt63 (w a b : Nat) (hb : b ≤ 63) : fieldN w a b < 9223372036854775808 := by
  have h1 := fieldN_lt w a b
  have h2 := twoN_le b hb
  unfold twoN at h2
  omega
theorem fits_iff (v b : Nat) : v ≤ maskN b ↔ v < 2 ^ b := by
  have := Nat.two_pow_pos b
  unfold maskN
  omega

end Go.Proofs.YtecjbgddjejjdaaDoor
