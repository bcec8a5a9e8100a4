/- The walk of RankTop. -/
import Derived.Test.YtfjhfnpgigclbaaDoorLaw03E
namespace Go.Proofs.YtfjhfnpgigclbaaDoor
open Go.RowKit

set_option maxHeartbeats 1600000 in
theorem walk_RankTop (n0 n1 : Int) (w : World) (_b0 : IntKind.i64.min ≤ n0 ∧ n0 ≤ IntKind.i64.max) (_b1 : IntKind.i64.min ≤ n1 ∧ n1 ≤ IntKind.i64.max) (hw : Pw w) :
    Calls Tryd.prog 7 #[.int .i64 n0, .int .i64 n1] w fun e w' => e = .returned (.bool true) ∧ Below w.heap.size w w' := by
  have hpos := hw.pos
  cases hB : widthB n0 1 n1 with
  | false =>
    have E1 : levelsE n0 n1 = 2 := by simp [levelsE, hB]
    have E2 : levelsL n0 n1 = [] := by simp [levelsL, hB]
    clear hB
    go_enter Tryd.func7, Tryd.ntmps7
    go_wp2_with fail
    refine (alive_any _ hw).mono ?_
    rintro e w1 ⟨rfl, hb1⟩
    go_wp2_with fail
    refine (Levels_any n0 n1 _ (hw.below hb1 hpos)).mono ?_
    rintro e w2 ⟨v, rfl, hown, hb2⟩
    obtain ⟨a, c, rfl, _⟩ := list_own hown
    rw [E1, E2]
    have HB := Lib.hid (keepW hb1 hb2)
    clear hown hb1 hb2 hw
    go_wp2_with fail
    go_ret
    exact ⟨rfl, HB.out⟩
  | true =>
    obtain ⟨m, k, rfl, rfl, r1, r2, r3, r4⟩ := width_parts hB (by omega)
    have E1 : levelsE m k = 0 := by simp [levelsE, hB]
    have E2 : levelsL m k = levelsN m k (topN m k + 1) := by simp [levelsL, hB]
    have ht := top_le m r1 k r2
    have htop := (top_at r1 r2 r3 (show topN m k < 5 by omega) (Nat.le_refl _)).2 rfl
    have hlow := items_pos m r1 (by omega) k r2 r3 (topN m k) (by omega)
    have hx := items_lt m r1 k r2 r3 (topN m k) (by omega)
    have hall := fun h (hh : h < topN m k) => (top_at r1 r2 r3 (show h < 5 by omega) (Nat.le_of_lt hh)).1
    have hcv := fun h (hh : h ≤ topN m k) => count_val r1 r2 r3 (show h < 5 by omega)
    clear hB
    go_enter Tryd.func7, Tryd.ntmps7
    go_wp2_with fail
    refine (alive_any _ hw).mono ?_
    rintro e w1 ⟨rfl, hb1⟩
    go_wp2_with fail
    refine (Levels_any m k _ (hw.below hb1 hpos)).mono ?_
    rintro e w2 ⟨v, rfl, hown, hb2⟩
    have hw2 := (hw.below hb1 hpos).below hb2 (hw.below hb1 hpos).pos
    obtain ⟨a, c, rfl, hl⟩ := list_own hown
    rw [E1]
    rw [E2, levels_len] at hl
    rw [E2, levels_len]
    have HB := Lib.hid (keepW hb1 hb2)
    clear hown hb1 hb2 hw
    obtain ⟨b, rfl, hc⟩ : ∃ b, a = some ⟨b, 0, none⟩ ∧ ∀ i, i < topN m k + 1 → w2.cell? ⟨b, i, none⟩ = some (.int .i64 (itemsN m k i : Nat)) := by
      rcases hl with h | ⟨b, rfl, h⟩
      · omega
      · refine ⟨b, rfl, fun i hi => ?_⟩
        rw [h i hi]
        simp [levelsN, hi]
    have d0 := hc 0 (by omega)
    rw [items_zero] at d0
    have d1 := hc (topN m k) (by omega)
    have HC := Lib.hid hc; have HA := Lib.hid hall; have HV := Lib.hid hcv
    clear hl hc hall hcv E1 E2
    generalize hv : itemsN m k (topN m k) = x at *
    generalize hT : topN m k = T at *
    generalize hn : T + 1 = n at *
    have e1 : (n : Int) - 1 = (T : Int) := by omega
    have e2 : n ≤ 5 := by omega
    have e3 : 1 ≤ n := by omega
    clear hv hT
    have k1 : decide (k < x) = false := by simp; omega
    have k2 : decide ((n : Int) < 1) = false := by simp; omega
    have k3 : decide (5 < (n : Int)) = false := by simp; omega
    have k4 : decide ((x : Int) < 1) = false := by simp; omega
    go_wp2_with fail
    go_loop [8] (fun i => ∃ q : Nat, q ≤ n ∧ i = .int .i64 q) (fun i => n - (intOf i).toNat)
    case atStart => exact ⟨0, by omega, rfl⟩
    case round =>
      obtain ⟨q, hq, rfl⟩ := hrel
      by_cases hlt : q < n
      · have d2 := HC.out q (by omega)
        obtain ⟨cv, ce⟩ := HV.out q (by omega)
        have hy := items_lt m r1 k r2 r3 q (by omega)
        have hgt : q < T → ¬ itemsN m k q ≤ k := fun hh hle => by have := HA.out q hh hle; omega
        generalize itemsN m k q = y at *
        by_cases hl : q < T
        · have hg := hgt hl
          clear hgt
          go_wp2_with fail
          refine (Count_any m k q _ hw2).mono ?_
          rintro e w' ⟨rfl, rfl⟩
          rw [cv, ce]
          go_wp2_with fail
          go_round
          case rel => exact ⟨q + 1, by omega, by go_num⟩
          case measure => simp [intOf]; omega
        · clear hgt
          go_wp2_with fail
          refine (Count_any m k q _ hw2).mono ?_
          rintro e w' ⟨rfl, rfl⟩
          rw [cv, ce]
          go_wp2_with fail
          go_round
          case rel => exact ⟨q + 1, by omega, by go_num⟩
          case measure => simp [intOf]; omega
      · go_wp2_with fail
        go_ret
        exact ⟨rfl, HB.out⟩

end Go.Proofs.YtfjhfnpgigclbaaDoor
