/- Contracts of rank.Last and its reference. -/
import Derived.Test.YtfjhfnpgigclbaaDoorUp
namespace Go.Proofs.YtfjhfnpgigclbaaDoor
open Go.RowKit

def lastB (a c h i : Int) : Bool := widthB a 1 c && decide (1 ≤ h) && decide (h ≤ 4) && decide (0 ≤ i) && decide (i < (itemsN a.toNat c.toNat h.toNat : Nat))
def lastV (a c h i : Int) : Int := if lastB a c h i then min ((i + 1) * c) (itemsN a.toNat c.toNat (h.toNat - 1) : Nat) - 1 else 0
def lastE (a c h i : Int) : Int := if lastB a c h i then 0 else 2

theorem last_parts {a c h i : Int} (hB : lastB a c h i = true) : ∃ m k j q : Nat, a = m ∧ c = k ∧ h = (j + 1 : Nat) ∧ i = q ∧ m < 33 ∧ k < 5 ∧ 2 ≤ k ∧ j < 4 ∧ 1 ≤ m ∧ q < itemsN m k (j + 1) := by
  simp only [lastB, Bool.and_eq_true, decide_eq_true_eq] at hB
  obtain ⟨⟨⟨⟨hw, h1⟩, h2⟩, h3⟩, h4⟩ := hB
  obtain ⟨m, k, rfl, rfl, r1, r2, r3, r4⟩ := width_parts hw (by omega)
  refine ⟨m, k, h.toNat - 1, i.toNat, rfl, rfl, by omega, by omega, r1, r2, r3, by omega, by omega, ?_⟩
  rw [Int.toNat_natCast, Int.toNat_natCast] at h4
  rw [show h.toNat - 1 + 1 = h.toNat from by omega]
  omega

theorem last_no {a c h i : Int} (hB : lastB a c h i = false) : widthB a 1 c = false ∨ (widthB a 1 c = true ∧ h < 1) ∨ (widthB a 1 c = true ∧ 1 ≤ h ∧ 4 < h) ∨ (widthB a 1 c = true ∧ 1 ≤ h ∧ h ≤ 4 ∧ i < 0) ∨ (widthB a 1 c = true ∧ 1 ≤ h ∧ h ≤ 4 ∧ 0 ≤ i ∧ (itemsN a.toNat c.toNat h.toNat : Int) ≤ i) := by
  cases hw : widthB a 1 c with
  | false => exact .inl rfl
  | true =>
    by_cases h1 : 1 ≤ h
    · by_cases h2 : h ≤ 4
      · by_cases h3 : 0 ≤ i
        · simp [lastB, hw, h1, h2, h3] at hB
          exact .inr (.inr (.inr (.inr ⟨rfl, h1, h2, h3, hB⟩)))
        · exact .inr (.inr (.inr (.inl ⟨rfl, h1, h2, by omega⟩)))
      · exact .inr (.inr (.inl ⟨rfl, h1, by omega⟩))
    · exact .inr (.inl ⟨rfl, by omega⟩)

set_option maxHeartbeats 400000 in
theorem Last_any (a c h i : Int) (w : World) (hw : Pw w) : Calls Tryd.prog 12 #[.int .i64 a, .int .i64 c, .int .i64 h, .int .i64 i] w fun e w' => e = .returned (.tuple #[.int .i64 (lastV a c h i), .int .i64 (lastE a c h i)]) ∧ w = w' := by
  cases hB : lastB a c h i with
  | true =>
    rw [show lastV a c h i = min ((i + 1) * c) (itemsN a.toNat c.toNat (h.toNat - 1) : Nat) - 1 from by simp [lastV, hB], show lastE a c h i = 0 from by simp [lastE, hB]]
    obtain ⟨m, k, j, q, rfl, rfl, rfl, rfl, h1, h2, h3, h4, h5, h6⟩ := last_parts hB
    have hwid : widthB m 1 k = true := by simp [widthB]; omega
    clear hB
    rw [Int.toNat_natCast, Int.toNat_natCast, Int.toNat_natCast, Nat.add_sub_cancel]
    have hx := items_lt m h1 k h2 h3 (j + 1) (by omega)
    have hy := items_lt m h1 k h2 h3 j (by omega)
    have u1 := up_any m k (j + 1) w hw h1 h2 h3 (by omega)
    have u2 := up_any m k j w hw h1 h2 h3 (by omega)
    generalize itemsN m k (j + 1) = x at *
    generalize itemsN m k j = y at *
    have e1 : ((j + 1 : Nat) : Int) - 1 = (j : Nat) := by omega
    have hqk : (q + 1) * k ≤ 33 * 4 := Nat.mul_le_mul (by omega) (by omega)
    have e2 : ((q : Int) + 1) * (k : Int) = (((q + 1) * k : Nat) : Int) := by simp
    generalize (q + 1) * k = z at *
    rw [e2]
    have e3 : (1 : Int) ≤ ((j + 1 : Nat) : Int) := by omega
    have e4 : ((j + 1 : Nat) : Int) ≤ 4 := by omega
    generalize ((j + 1 : Nat) : Int) = hI at *
    clear hw
    go_enter Tryd.func12, Tryd.ntmps12
    go_wp2_with (first | (go_at_call 19; refine (width_any _ _ _ _).mono ?_; rw [hwid]; rintro e w' ⟨rfl, rfl⟩) | (go_at_call 20; with_reducible refine u1.mono ?_; rintro e w' ⟨rfl, rfl⟩) | (go_at_call 20; with_reducible refine u2.mono ?_; rintro e w' ⟨rfl, rfl⟩))
    go_ret2
    exact ⟨rfl, rfl⟩
  | false =>
    rw [show lastV a c h i = 0 from by simp [lastV, hB], show lastE a c h i = 2 from by simp [lastE, hB]]
    rcases last_no hB with hwid | ⟨hwid, c1⟩ | ⟨hwid, c1, c2⟩ | ⟨hwid, c1, c2, c3⟩ | ⟨hwid, c1, c2, c3, c4⟩
    iterate 4
      · clear hB
        go_enter Tryd.func12, Tryd.ntmps12
        go_wp2_with (go_at_call 19; refine (width_any _ _ _ _).mono ?_; rw [hwid]; rintro e w' ⟨rfl, rfl⟩)
        go_ret2
        exact ⟨rfl, rfl⟩
    · clear hB
      obtain ⟨m, k, rfl, rfl, r1, r2, r3, r4⟩ := width_parts hwid (by omega)
      obtain ⟨j, rfl⟩ := Int.eq_ofNat_of_zero_le (show 0 ≤ h by omega)
      rw [Int.toNat_natCast, Int.toNat_natCast, Int.toNat_natCast] at c4
      have u1 := up_any m k j w hw r1 r2 r3 (by omega)
      generalize itemsN m k j = x at *
      clear hw
      go_enter Tryd.func12, Tryd.ntmps12
      go_wp2_with (first | (go_at_call 19; refine (width_any _ _ _ _).mono ?_; rw [hwid]; rintro e w' ⟨rfl, rfl⟩) | (go_at_call 20; refine u1.mono ?_; rintro e w' ⟨rfl, rfl⟩))
      go_ret2
      exact ⟨rfl, rfl⟩

set_option maxHeartbeats 800000 in
/-- The reference's search: the last item of the level below whose node is i. -/
theorem rEnd_any (m k j q : Nat) (w : World) (h1 : m < 33) (h2 : k < 5) (h3 : 2 ≤ k) (h4 : j < 4) (h6 : q < itemsN m k (j + 1)) :
    Calls Tryd.prog 24 #[.int .i64 m, .int .i64 k, .int .i64 (j + 1 : Nat), .int .i64 q] w fun e w' => e = .returned (.int .i64 (min ((q + 1) * k) (itemsN m k j) - 1 : Nat)) ∧ w = w' := by
  have hy := items_lt m h1 k h2 h3 j (by omega)
  have hle := last_end h1 h2 h3 h4 h6
  have hx := items_lt m h1 k h2 h3 (j + 1) (by omega)
  have u2 := fun W => rItems_any m k j W h1 h2 h3 (by omega)
  generalize itemsN m k (j + 1) = x at *
  generalize itemsN m k j = y at *
  have e1 : ((j + 1 : Nat) : Int) - 1 = (j : Nat) := by omega
  have hsum : (q + 1) * k = q * k + k := by rw [Nat.add_mul]; omega
  have hdiv : ∀ n : Nat, (n / k = q ↔ q * k ≤ n ∧ n < q * k + k) := fun n => by
    rw [Nat.div_eq_iff (by omega)]
    constructor <;> intro h <;> constructor <;> omega
  have HS := Lib.hid hsum; clear hsum
  generalize q * k = z at *
  go_enter Tryd.func24, Tryd.ntmps24
  go_wp2_with (go_at_call 23; refine (u2 _).mono ?_; rintro e w' ⟨rfl, rfl⟩)
  go_loop [10, 11] (fun l n => ∃ r : Nat, r ≤ y ∧ n = .int .i64 r ∧ l = .int .i64 (if r ≤ z then 0 else min r (z + k) - 1 : Nat)) (fun _ n => y - (intOf n).toNat)
  case atStart => exact ⟨0, by omega, rfl, by simp⟩
  case round =>
    obtain ⟨r, hr, rfl, rfl⟩ := hrel
    by_cases hlt : r < y
    · have hd := hdiv r
      have hrk : ((r : Int).tdiv (k : Int)) = ((r / k : Nat) : Int) := by
        rw [Int.tdiv_eq_ediv_of_nonneg (by omega)]; exact (Int.natCast_ediv _ _).symm
      have hbd : r / k ≤ r := Nat.div_le_self _ _
      clear hdiv
      by_cases he : r / k = q
      · have hz := hd.1 he
        have H1 := Lib.hid (show (if r + 1 ≤ z then 0 else min (r + 1) (z + k) - 1) = r by rw [if_neg (by omega)]; omega)
        generalize (if r ≤ z then 0 else min r (z + k) - 1) = l at *
        have hq : ((r / k : Nat) : Int) = q := by omega
        generalize r / k = d at *
        clear hd he
        go_wp2
        go_round
        case rel => exact ⟨r + 1, by omega, by go_num, by rw [H1.out]⟩
        case measure => simp [intOf]; omega
      · have hz : ¬ (z ≤ r ∧ r < z + k) := fun h => he (hd.2 h)
        have H1 := Lib.hid (show (if r + 1 ≤ z then 0 else min (r + 1) (z + k) - 1) = (if r ≤ z then 0 else min r (z + k) - 1) by
          by_cases g : r + 1 ≤ z
          · rw [if_pos g, if_pos (by omega)]
          · rw [if_neg g, if_neg (by omega)]; omega)
        generalize (if r ≤ z then 0 else min r (z + k) - 1) = l at *
        have hq : ¬ ((r / k : Nat) : Int) = q := by omega
        generalize r / k = d at *
        clear hd he
        go_wp2
        go_round
        case rel => exact ⟨r + 1, by omega, by go_num, by rw [H1.out]⟩
        case measure => simp [intOf]; omega
    · obtain rfl : r = y := by omega
      have H1 := Lib.hid (show (if r ≤ z then 0 else min r (z + k) - 1) = min ((q + 1) * k) r - 1 by rw [HS.out, if_neg (by omega), Nat.min_comm])
      generalize (if r ≤ z then 0 else min r (z + k) - 1) = l at *
      clear hdiv
      go_wp2
      go_ret
      exact ⟨ret_i64 (by rw [H1.out]), rfl⟩

end Go.Proofs.YtfjhfnpgigclbaaDoor
