/- Plain: the first word of a register, joined and split. -/
import Derived.Test.YtnaggpkcaioppaaPlainThere
namespace Go.Proofs.Ytnaggpkcaioppaa

theorem withN_top {x a b v : Nat} (hx : x < 2 ^ a) (hv : v < 2 ^ b) : withN x a b v = x + v * 2 ^ a := by
  unfold withN
  rw [Nat.mod_eq_of_lt hx, Nat.mod_eq_of_lt hv, Nat.div_eq_of_lt (Nat.lt_of_lt_of_le hx (Nat.pow_le_pow_right (by decide) (by omega)))]
  omega

theorem accF_at {bs : Nat → Int} {vs : Nat → Nat} {n : Nat} (hf : accF bs vs (n + 1) = true) : accF bs vs n = true ∧ vs n < 2 ^ (bs n).toNat := by
  simp only [accF, Bool.and_eq_true] at hf
  refine ⟨hf.1, ?_⟩
  have := hf.2
  unfold fitB at this
  exact (fits_iff _ _).1 (of_decide_eq_true this)

theorem acc_lt {bs : Nat → Int} {vs : Nat → Nat} : ∀ {n : Nat}, roomN bs n = true → accF bs vs n = true → accX bs vs n < 2 ^ (accP bs n).toNat
  | 0, _, _ => by simp [accX, accP]
  | n + 1, hr, hf => by
    obtain ⟨hf1, hv⟩ := accF_at hf
    have hfit := hf
    simp only [accF, Bool.and_eq_true] at hfit
    simp only [roomN, Bool.and_eq_true] at hr
    obtain ⟨h1, h2, h3, h4⟩ := (mayB_iff _ _).1 hr.2
    have ih := acc_lt hr.1 hf1
    simp only [accX]
    rw [if_pos hfit.2, withN_top ih hv, show (accP bs (n + 1)).toNat = (accP bs n).toNat + (bs n).toNat from by simp only [accP]; omega, Nat.pow_add]
    have : (vs n + 1) * 2 ^ (accP bs n).toNat ≤ 2 ^ (bs n).toNat * 2 ^ (accP bs n).toNat := Nat.mul_le_mul_right _ hv
    rw [Nat.add_mul] at this
    rw [Nat.mul_comm (2 ^ (accP bs n).toNat)]
    omega

theorem acc_step {bs : Nat → Int} {vs : Nat → Nat} {n : Nat} (hr : roomN bs (n + 1) = true) (hf : accF bs vs (n + 1) = true) : accX bs vs (n + 1) = accX bs vs n + vs n * 2 ^ (accP bs n).toNat := by
  obtain ⟨hf1, hv⟩ := accF_at hf
  have hfit := hf
  simp only [accF, Bool.and_eq_true] at hfit
  simp only [roomN, Bool.and_eq_true] at hr
  simp only [accX]
  rw [if_pos hfit.2, withN_top (acc_lt hr.1 hf1) hv]

/-- The widths of the first word's fields. -/
def smallB (i : Nat) : Int := [5, 7, 4, 5, 7, 7, 6, 6, 3].getD i 0
theorem small_room : roomN smallB 9 = true := by decide

/-- Do the first word's fields fit? -/
def fits9 (v : Nat → Nat) : Bool := decide (v 0 < 32) && decide (v 1 < 128) && decide (v 2 < 16) && decide (v 3 < 32) && decide (v 4 < 128) && decide (v 5 < 128) && decide (v 6 < 64) && decide (v 7 < 64) && decide (v 8 < 8)
theorem fitB_dec (v : Nat) (b : Nat) : fitB v (b : Int) = decide (v < 2 ^ b) := by
  unfold fitB
  rw [Int.toNat_natCast]
  exact decide_eq_decide.2 (fits_iff v b)
theorem small_fits (v : Nat → Nat) : accF smallB v 9 = fits9 v := by
  show (true && fitB (v 0) ((5 : Nat) : Int) && fitB (v 1) ((7 : Nat) : Int) && fitB (v 2) ((4 : Nat) : Int) && fitB (v 3) ((5 : Nat) : Int) && fitB (v 4) ((7 : Nat) : Int) && fitB (v 5) ((7 : Nat) : Int) && fitB (v 6) ((6 : Nat) : Int) && fitB (v 7) ((6 : Nat) : Int) && fitB (v 8) ((3 : Nat) : Int)) = fits9 v
  simp only [fitB_dec, fits9, Bool.true_and]
def sum9 (v : Nat → Nat) : Nat := v 0 + v 1 * 32 + v 2 * 4096 + v 3 * 65536 + v 4 * 2097152 + v 5 * 268435456 + v 6 * 34359738368 + v 7 * 2199023255552 + v 8 * 140737488355328
theorem small_join (v : Nat → Nat) (hf : fits9 v = true) : joinV smallB v 9 = sum9 v ∧ joinE smallB v 9 = 0 := by
  have hF := (small_fits v).trans hf
  refine ⟨?_, by rw [joinE, if_pos small_room, if_pos hF]⟩
  rw [joinV, if_pos small_room, if_pos hF]
  have f8 := (accF_at hF).1
  have f7 := (accF_at f8).1
  have f6 := (accF_at f7).1
  have f5 := (accF_at f6).1
  have f4 := (accF_at f5).1
  have f3 := (accF_at f4).1
  have f2 := (accF_at f3).1
  have f1 := (accF_at f2).1
  rw [acc_step small_room hF, acc_step (by decide) f8, acc_step (by decide) f7, acc_step (by decide) f6, acc_step (by decide) f5, acc_step (by decide) f4, acc_step (by decide) f3, acc_step (by decide) f2, acc_step (by decide) f1]
  rw [show (accP smallB 0).toNat = 0 from by decide, show (accP smallB 1).toNat = 5 from by decide, show (accP smallB 2).toNat = 12 from by decide, show (accP smallB 3).toNat = 16 from by decide, show (accP smallB 4).toNat = 21 from by decide, show (accP smallB 5).toNat = 28 from by decide, show (accP smallB 6).toNat = 35 from by decide, show (accP smallB 7).toNat = 41 from by decide, show (accP smallB 8).toNat = 47 from by decide]
  simp [accX, sum9]
theorem small_no (v : Nat → Nat) (hf : fits9 v = false) : joinV smallB v 9 = 0 ∧ joinE smallB v 9 = 10 := by
  have hF := (small_fits v).trans hf
  exact ⟨by rw [joinV, if_pos small_room, hF]; rfl, by rw [joinE, if_pos small_room, hF]; rfl⟩

end Go.Proofs.Ytnaggpkcaioppaa
