/- Contracts of rank's levels and of their references. -/
import Derived.Test.YtfjhfnpgigclbaaDoorRank
import Derived.Test.YtfjhfnpgigclbaaDoorPlainUp
import Derived.Deep.QuietTactic
import Derived.BigQuiet
namespace Go.Proofs.YtfjhfnpgigclbaaDoor
open Go.RowKit

/-- What the table of powers holds. -/
def Pw (w : World) : Prop := ∀ i, i < 3 → ∀ j, j < 5 → w.cell? ⟨0, i * 5 + j, none⟩ = some (.int .i64 (((i + 2) ^ j : Nat) : Int))
theorem Pw.below {w w' : World} {B : Nat} (h : Pw w) (hb : Below B w w') (hB : 0 < B) : Pw w' := fun i hi j hj => (hb.cell (p := ⟨0, i * 5 + j, none⟩) hB).trans (h i hi j hj)
theorem Pw.pos {w : World} (h : Pw w) : 0 < w.heap.size := World.block_lt_of_cell? w _ (h 0 (by omega) 0 (by omega))

theorem width_any (a b c : Int) (w : World) : Calls Tryd.prog 19 #[.int .i64 a, .int .i64 b, .int .i64 c] w fun e w' => e = .returned (.bool (widthB a b c)) ∧ w = w' := by
  by_cases h1 : b ≤ a
  · by_cases h2 : a ≤ 32
    · by_cases h3 : 2 ≤ c
      · by_cases h4 : c ≤ 4
        · go_enter Tryd.func19, Tryd.ntmps19
          go_wp2
          go_ret
          exact ⟨ret_bool (by simp [widthB]; omega), rfl⟩
        · go_enter Tryd.func19, Tryd.ntmps19
          go_wp2
          go_ret
          exact ⟨ret_bool (by simp [widthB]; omega), rfl⟩
      · go_enter Tryd.func19, Tryd.ntmps19
        go_wp2
        go_ret
        exact ⟨ret_bool (by simp [widthB]; omega), rfl⟩
    · go_enter Tryd.func19, Tryd.ntmps19
      go_wp2
      go_ret
      exact ⟨ret_bool (by simp [widthB]; omega), rfl⟩
  · go_enter Tryd.func19, Tryd.ntmps19
    go_wp2
    go_ret
    exact ⟨ret_bool (by simp [widthB]; omega), rfl⟩

theorem rWide_any (c : Int) (w : World) : Calls Tryd.prog 21 #[.int .i64 c] w fun e w' => e = .returned (.bool (decide (2 ≤ c) && decide (c ≤ 4))) ∧ w = w' := by
  by_cases h3 : 2 ≤ c
  · go_enter Tryd.func21, Tryd.ntmps21
    go_wp2
    go_ret
    exact ⟨ret_bool (by simp; omega), rfl⟩
  · go_enter Tryd.func21, Tryd.ntmps21
    go_wp2
    go_ret
    exact ⟨ret_bool (by simp; omega), rfl⟩

theorem up_any (m c h : Nat) (w : World) (hw : Pw w) (hm : m < 33) (hc : c < 5) (hc2 : 2 ≤ c) (hh : h < 5) :
    Calls Tryd.prog 20 #[.int .i64 m, .int .i64 c, .int .i64 h] w fun e w' => e = .returned (.int .i64 (itemsN m c h)) ∧ w = w' := by
  have d0 := hw (c - 2) (by omega) h hh
  rw [show c - 2 + 2 = c from by omega] at d0
  obtain ⟨q1, q2⟩ := pow_tab c hc hc2 h hh
  have HI := Lib.hid (show itemsN m c h = (m + c ^ h - 1) / c ^ h from rfl)
  generalize c ^ h = p at *
  obtain ⟨i, rfl⟩ : ∃ i, c = i + 2 := ⟨c - 2, by omega⟩
  rw [show i + 2 - 2 = i from by omega] at d0
  have e1 : ((i + 2 : Nat) : Int) - 2 = (i : Nat) := by omega
  have e2 : (i : Int).toNat = i := by omega
  clear hw
  go_enter Tryd.func20, Tryd.ntmps20
  go_wp2_with fail
  go_ret
  refine ⟨ret_i64 ?_, rfl⟩
  rw [HI.out]
  rw [show ((m : Int) + p - 1) = ((m + p - 1 : Nat) : Int) from by omega]
  exact (Int.natCast_ediv _ _).symm

/-- The reference's count of a level: rounds within rounds. -/
theorem rItems_any (m c h : Nat) (w : World) (hm : m < 33) (hc : c < 5) (hc2 : 2 ≤ c) (hh : h < 5) :
    Calls Tryd.prog 23 #[.int .i64 m, .int .i64 c, .int .i64 h] w fun e w' => e = .returned (.int .i64 (itemsN m c h)) ∧ w = w' := by
  go_enter Tryd.func23, Tryd.ntmps23
  go_wp2
  go_loop [0, 7] (fun v k => ∃ j : Nat, j ≤ h ∧ k = .int .i64 j ∧ v = .int .i64 (itemsN m c j)) (fun _ k => h - (intOf k).toNat)
  case atStart => exact ⟨0, by omega, rfl, by rw [items_zero]⟩
  case round =>
    obtain ⟨j, hj, rfl, rfl⟩ := hrel
    have hx := items_lt m hm c hc hc2 j (by omega)
    by_cases hlt : j < h
    · have hs := fun n => items_step (m := m) (w := c) (h := j) (n := n) hm hc hc2 (by omega)
      have HS := Lib.hid hs
      clear hs
      generalize itemsN m c j = x at *
      go_wp2
      go_loop [8, 9] (fun n i => ∃ q : Nat, q ≤ 32 ∧ n = .int .i64 q ∧ i = .int .i64 (q * c : Nat) ∧ (q = 0 ∨ (q - 1) * c < x)) (fun _ i => x + c - (intOf i).toNat)
      case atStart => exact ⟨0, by omega, rfl, by simp, .inl rfl⟩
      case round =>
        obtain ⟨q, hq, rfl, rfl, hlow⟩ := hrel
        have hqc : q * c ≤ 128 := Nat.mul_le_mul (show q ≤ 32 from hq) (show c ≤ 4 by omega)
        have hqq : (q + 1) * c = q * c + c := by rw [Nat.add_mul]; omega
        by_cases hin : q * c < x
        · have hq1 : q + 1 ≤ 32 := by
            have : q * 2 ≤ q * c := Nat.mul_le_mul_left _ hc2
            omega
          have HQ := Lib.hid hqq
          have hlow' : q + 1 = 0 ∨ (q + 1 - 1) * c < x := .inr (by simpa using hin)
          have HL := Lib.hid hlow'
          clear hqq hlow hlow'
          generalize hz : q * c = z at *
          go_wp2
          go_round
          case rel => exact ⟨q + 1, hq1, by go_num, by rw [HQ.out]; go_num, HL.out⟩
          case measure => simp [intOf]; omega
        · have HN := Lib.hid (HS.out q (by omega) hlow)
          clear hqq
          generalize hz : q * c = z at *
          go_wp2
          go_round
          case rel => exact ⟨j + 1, by omega, by go_num, by rw [HN.out]⟩
          case measure => simp [intOf]; omega
    · obtain rfl : j = h := by omega
      generalize hI : itemsN m c j = x at *
      have HI := Lib.hid hI; clear hI
      go_wp2
      go_ret
      exact ⟨ret_i64 (by rw [HI.out]), rfl⟩

theorem width_parts {a l c : Int} (h : widthB a l c = true) (hl : 0 ≤ l) : ∃ m k : Nat, a = m ∧ c = k ∧ m < 33 ∧ k < 5 ∧ 2 ≤ k ∧ l ≤ m := by
  simp [widthB] at h
  obtain ⟨⟨⟨h1, h2⟩, h3⟩, h4⟩ := h
  exact ⟨a.toNat, c.toNat, by omega, by omega, by omega, by omega, by omega, by omega⟩

theorem rTop_any (m c : Nat) (w : World) (hm : m < 33) (hc : c < 5) (hc2 : 2 ≤ c) :
    Calls Tryd.prog 22 #[.int .i64 m, .int .i64 c] w fun e w' => e = .returned (.int .i64 (topN m c)) ∧ w = w' := by
  have ht := top_le m hm c hc
  go_enter Tryd.func22, Tryd.ntmps22
  go_wp2
  go_loop [5] (fun h => ∃ j : Nat, j ≤ topN m c ∧ h = .int .i64 j) (fun h => 5 - (intOf h).toNat)
  case atStart => exact ⟨0, by omega, rfl⟩
  case round =>
    obtain ⟨j, hj, rfl⟩ := hrel
    have hx := items_lt m hm c hc hc2 j (by omega)
    have hat := top_at (m := m) (w := c) (h := j) hm hc hc2 (by omega) hj
    have hit := fun W => rItems_any m c j W hm hc hc2 (by omega)
    generalize itemsN m c j = x at *
    by_cases he : j = topN m c
    · have hle := hat.2 he
      have HE := Lib.hid he
      clear hat he hj ht
      go_wp2_with (go_at_call 23; refine (hit _).mono ?_; rintro e w' ⟨rfl, rfl⟩)
      go_ret
      exact ⟨ret_i64 (by rw [HE.out]), rfl⟩
    · have hgt : ¬ x ≤ c := fun h => he (hat.1 h)
      have HJ := Lib.hid (show j + 1 ≤ topN m c by omega)
      have hj4 : j < 4 := by omega
      clear hat he hj ht
      go_wp2_with (go_at_call 23; refine (hit _).mono ?_; rintro e w' ⟨rfl, rfl⟩)
      go_round
      case rel => exact ⟨j + 1, HJ.out, by go_num⟩
      case measure => simp [intOf]; omega

def countB (a c h : Int) : Bool := widthB a 0 c && decide (0 ≤ h) && decide (h ≤ 4)
def countV (a c h : Int) : Int := if countB a c h then (itemsN a.toNat c.toNat h.toNat : Nat) else 0
def countE (a c h : Int) : Int := if countB a c h then 0 else 2
theorem count_parts {a c h : Int} (hB : countB a c h = true) : ∃ m k j : Nat, a = m ∧ c = k ∧ h = j ∧ m < 33 ∧ k < 5 ∧ 2 ≤ k ∧ j < 5 := by
  simp only [countB, Bool.and_eq_true, decide_eq_true_eq] at hB
  obtain ⟨⟨hw, h1⟩, h2⟩ := hB
  obtain ⟨m, k, rfl, rfl, r1, r2, r3, _⟩ := width_parts hw (by omega)
  exact ⟨m, k, h.toNat, rfl, rfl, by omega, r1, r2, r3, by omega⟩

theorem Count_any (a c h : Int) (w : World) (hw : Pw w) : Calls Tryd.prog 10 #[.int .i64 a, .int .i64 c, .int .i64 h] w fun e w' => e = .returned (.tuple #[.int .i64 (countV a c h), .int .i64 (countE a c h)]) ∧ w = w' := by
  cases hB : countB a c h with
  | true =>
    rw [show countV a c h = (itemsN a.toNat c.toNat h.toNat : Nat) from by simp [countV, hB], show countE a c h = 0 from by simp [countE, hB]]
    obtain ⟨m, k, j, rfl, rfl, rfl, h1, h2, h3, h4⟩ := count_parts hB
    have hwid : widthB m 0 k = true := by simp [widthB]; omega
    clear hB
    rw [Int.toNat_natCast, Int.toNat_natCast, Int.toNat_natCast]
    go_enter Tryd.func10, Tryd.ntmps10
    go_wp2_with (first | (go_at_call 19; refine (width_any _ _ _ _).mono ?_; rw [hwid]; rintro e w' ⟨rfl, rfl⟩) | (go_at_call 20; refine (up_any m k j _ hw h1 h2 h3 h4).mono ?_; rintro e w' ⟨rfl, rfl⟩))
    go_ret2
    exact ⟨rfl, rfl⟩
  | false =>
    rw [show countV a c h = 0 from by simp [countV, hB], show countE a c h = 2 from by simp [countE, hB]]
    cases hwid : widthB a 0 c with
    | false =>
      clear hB
      go_enter Tryd.func10, Tryd.ntmps10
      go_wp2_with (go_at_call 19; refine (width_any _ _ _ _).mono ?_; rw [hwid]; rintro e w' ⟨rfl, rfl⟩)
      go_ret2
      exact ⟨rfl, rfl⟩
    | true =>
      by_cases c1 : 0 ≤ h
      · have c2 : 4 < h := by simp [countB, hwid, c1] at hB; exact hB
        clear hB
        go_enter Tryd.func10, Tryd.ntmps10
        go_wp2_with (go_at_call 19; refine (width_any _ _ _ _).mono ?_; rw [hwid]; rintro e w' ⟨rfl, rfl⟩)
        go_ret2
        exact ⟨rfl, rfl⟩
      · clear hB
        go_enter Tryd.func10, Tryd.ntmps10
        go_wp2_with (go_at_call 19; refine (width_any _ _ _ _).mono ?_; rw [hwid]; rintro e w' ⟨rfl, rfl⟩)
        go_ret2
        exact ⟨rfl, rfl⟩

theorem rCount_any (a c h : Int) (w : World) : Calls Tryd.prog 11 #[.int .i64 a, .int .i64 c, .int .i64 h] w fun e w' => e = .returned (.tuple #[.int .i64 (countV a c h), .int .i64 (countE a c h)]) ∧ w = w' := by
  cases hB : countB a c h with
  | true =>
    rw [show countV a c h = (itemsN a.toNat c.toNat h.toNat : Nat) from by simp [countV, hB], show countE a c h = 0 from by simp [countE, hB]]
    obtain ⟨m, k, j, rfl, rfl, rfl, h1, h2, h3, h4⟩ := count_parts hB
    clear hB
    rw [Int.toNat_natCast, Int.toNat_natCast, Int.toNat_natCast]
    have hwid : (decide ((2 : Int) ≤ (k : Int)) && decide ((k : Int) ≤ 4)) = true := by simp; omega
    go_enter Tryd.func11, Tryd.ntmps11
    go_wp2_with (first | (go_at_call 21; refine (rWide_any _ _).mono ?_; rw [hwid]; rintro e w' ⟨rfl, rfl⟩) | (go_at_call 23; refine (rItems_any m k j _ h1 h2 h3 h4).mono ?_; rintro e w' ⟨rfl, rfl⟩))
    go_ret2
    exact ⟨rfl, rfl⟩
  | false =>
    rw [show countV a c h = 0 from by simp [countV, hB], show countE a c h = 2 from by simp [countE, hB]]
    by_cases c1 : 0 ≤ a
    · by_cases c2 : a ≤ 32
      · cases hwid : (decide ((2 : Int) ≤ c) && decide (c ≤ 4)) with
        | false =>
          clear hB
          go_enter Tryd.func11, Tryd.ntmps11
          go_wp2_with (go_at_call 21; refine (rWide_any _ _).mono ?_; rw [hwid]; rintro e w' ⟨rfl, rfl⟩)
          go_ret2
          exact ⟨rfl, rfl⟩
        | true =>
          by_cases c3 : 0 ≤ h
          · have c4 : 4 < h := by
              simp at hwid
              simp [countB, widthB, c1, c2, hwid, c3] at hB
              exact hB
            clear hB
            go_enter Tryd.func11, Tryd.ntmps11
            go_wp2_with (go_at_call 21; refine (rWide_any _ _).mono ?_; rw [hwid]; rintro e w' ⟨rfl, rfl⟩)
            go_ret2
            exact ⟨rfl, rfl⟩
          · clear hB
            go_enter Tryd.func11, Tryd.ntmps11
            go_wp2_with (go_at_call 21; refine (rWide_any _ _).mono ?_; rw [hwid]; rintro e w' ⟨rfl, rfl⟩)
            go_ret2
            exact ⟨rfl, rfl⟩
      · clear hB
        go_enter Tryd.func11, Tryd.ntmps11
        go_wp2_with fail
        go_ret2
        exact ⟨rfl, rfl⟩
    · clear hB
      go_enter Tryd.func11, Tryd.ntmps11
      go_wp2_with fail
      go_ret2
      exact ⟨rfl, rfl⟩

end Go.Proofs.YtfjhfnpgigclbaaDoor
