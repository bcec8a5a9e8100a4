/- Chapter 4: how great the object is. -/
import Derived.Test.YtecjbgddjejjdaaPlainPartB
import Derived.Test.YtecjbgddjejjdaaBox
import Derived.Test.YtecjbgddjejjdaaLev
import Derived.WalkKit
import Derived.Deep.RegionHeld3
import Derived.Deep.QuietTactic
import Derived.BigQuiet
import Derived.BigRegion
namespace Go.Proofs.Ytecjbgddjejjdaa
open Go.RowKit


theorem Pw.more {w V : World} (h : Pw w) (hb : Below w.heap.size w V) : Pw V := h.below hb h.pos
/-- The table is known, if the object is an index. -/
def PwO (c : Cfg) (w : World) : Prop := c.ob = 2 → Pw w
theorem PwO.more {c : Cfg} {w V : World} (h : PwO c w) (hb : Below w.heap.size w V) : PwO c V := fun e => (h e).more hb

theorem bits6 {b : Int} (h1 : 1 ≤ b) (h2 : b ≤ 6) : b = 1 ∨ b = 2 ∨ b = 3 ∨ b = 4 ∨ b = 5 ∨ b = 6 := by omega

set_option maxHeartbeats 3200000 in
theorem size_any (c : Cfg) (w : World) (hm : c.May) (hp : PwO c w) : Calls Try.prog 87 #[.agg #[.int .u8 c.ob, .int .i64 c.inst, .int .i64 c.thr, .int .u8 c.kd, .int .i64 c.str, .int .i64 c.bits, .int .i64 c.cap, .int .i64 c.node, .int .i64 c.bat, .int .i64 c.chk, .int .u64 c.lim, .int .u64 c.most]] w fun e w' => e = .returned (.int .i64 (greatN c)) ∧ Below w.heap.size w w' := by
  have hm' := hm
  obtain ⟨h1, h2, h3, h4, h5⟩ := hm'
  have HM := Lib.hid hm
  clear hm
  by_cases ho : c.ob = 1
  · have hb := bits6 (show 1 ≤ c.bits by omega) (by omega)
    have HG := Lib.hid (show greatN c = 2 * 2 ^ c.bits.toNat from by simp [greatN, ho])
    obtain ⟨ob, inst, thr, kd, str, bits, cap, node, bat, chk, lim, most⟩ := c
    simp only at *
    subst ho
    clear h1 h2 h3 h4 h5 hp HM
    rcases hb with rfl | rfl | rfl | rfl | rfl | rfl
    all_goals
      go_enter Try.func87, Try.ntmps87
      go_wp2_with fail
      go_ret
      exact ⟨by rw [HG.out]; rfl, by (repeat (first | exact Below.refl _ _ | assumption | apply Below.drew | apply below_drewN | (refine Below.alloc ?_ (by simp <;> omega) _) | (refine Below.setCell ?_ (by simp <;> omega) _)))⟩
  · by_cases ho2 : c.ob = 2
    · obtain ⟨m, hcm⟩ := Int.eq_ofNat_of_zero_le (show 0 ≤ c.cap by omega)
      obtain ⟨k, hck⟩ := Int.eq_ofNat_of_zero_le (show 0 ≤ c.node by omega)
      have q1 : m < 33 := by omega
      have q2 : k < 5 := by omega
      have q3 : 2 ≤ k := by omega
      have q4 : 1 ≤ m := by omega
      have hwid : widthB m 1 k = true := by simp [widthB]; omega
      have HG := Lib.hid (show greatN c = sumN m k (topN m k + 1) from by simp [greatN, ho2, hcm, hck])
      have E1 := Lib.hid (show levelsE m k = 0 by simp [levelsE, hwid])
      have E2 := Lib.hid (show levelsL m k = levelsN m k (topN m k + 1) by simp [levelsL, hwid])
      have ht := top_le m q1 k q2
      replace hp := hp ho2
      obtain ⟨ob, inst, thr, kd, str, bits, cap, node, bat, chk, lim, most⟩ := c
      simp only at *
      subst ho2; subst hcm; subst hck
      have HP := Lib.hid hp
      clear h1 h2 h3 h4 h5 hp HM hwid ho
      go_enter Try.func87, Try.ntmps87
      go_wp2_with fail
      refine (Levels_any m k _ (HP.out.more (by (repeat (first | exact Below.refl _ _ | assumption | apply Below.drew | apply below_drewN | (refine Below.alloc ?_ (by simp <;> omega) _) | (refine Below.setCell ?_ (by simp <;> omega) _)))))).mono ?_
      rintro e w1 ⟨v, rfl, hown, hbel⟩
      rw [E1.out]
      rw [E2.out, levels_len] at hown
      obtain ⟨g, cap, rfl⟩ := own_succ hown
      have hcell : ∀ j, j < topN m k + 1 → w1.cell? ⟨g, j, none⟩ = some (.int .i64 (itemsN m k j)) := fun j hj => by
        rw [hown.cellAt j (by omega)]
        simp [i64s, levelsN, hj]
      have HC := Lib.hid hcell
      have HB := Lib.hid (keepB (w := w) hbel (by (repeat (first | exact Below.refl _ _ | assumption | apply Below.drew | apply below_drewN | (refine Below.alloc ?_ (by simp <;> omega) _) | (refine Below.setCell ?_ (by simp <;> omega) _)))))
      clear hown hbel hcell
      generalize hT : topN m k = T at *
      have HT := Lib.hid hT
      clear hT
      go_wp2_with fail
      go_loop [5, 27] (fun s i => ∃ j : Nat, j ≤ T + 1 ∧ i = .int .i64 j ∧ s = .int .i64 (sumN m k j : Nat)) (fun _ i => 6 - (intOf i).toNat)
      case atStart => exact ⟨0, by omega, rfl, rfl⟩
      case round =>
        obtain ⟨j, hj, rfl, rfl⟩ := hrel
        have hs := sumN_le m k q1 q2 q3 j (by omega)
        by_cases hlt : j < T + 1
        · have c0 := HC.out j hlt
          have hx := items_lt m q1 k q2 q3 j (by omega)
          have HS := Lib.hid (show sumN m k (j + 1) = sumN m k j + itemsN m k j from rfl)
          generalize itemsN m k j = x at *
          generalize sumN m k j = s at *
          go_wp2_with fail
          go_round
          case rel => exact ⟨j + 1, by omega, by go_num, by rw [HS.out]; go_num⟩
          case measure => simp [intOf]; omega
        · obtain rfl : j = T + 1 := by omega
          clear HC
          go_wp2_with fail
          go_ret
          exact ⟨ret_i64 (by rw [HG.out]), HB.out⟩
    · have HG := Lib.hid (show ((greatN c : Nat) : Int) = c.cap from by simp [greatN, ho, ho2]; omega)
      have e1 : (c.ob == 1) = false := by simpa using ho
      have e2 : (c.ob == 2) = false := by simpa using ho2
      clear h1 h2 h3 h4 h5 hp HM
      go_enter Try.func87, Try.ntmps87
      go_wp2_with fail
      go_ret
      exact ⟨ret_i64 (by rw [HG.out]), by (repeat (first | exact Below.refl _ _ | assumption | apply Below.drew | apply below_drewN | (refine Below.alloc ?_ (by simp <;> omega) _) | (refine Below.setCell ?_ (by simp <;> omega) _)))⟩

theorem pow_step (k : Nat) : 2 * 2 ^ (k + 1) = 2 * (2 * 2 ^ k) := by rw [Nat.pow_succ]; omega

set_option maxHeartbeats 3200000 in
theorem Great_any (c : Cfg) (w : World) (hm : c.May) : Calls Try.prog 51 #[.agg #[.int .u8 c.ob, .int .i64 c.inst, .int .i64 c.thr, .int .u8 c.kd, .int .i64 c.str, .int .i64 c.bits, .int .i64 c.cap, .int .i64 c.node, .int .i64 c.bat, .int .i64 c.chk, .int .u64 c.lim, .int .u64 c.most]] w fun e w' => e = .returned (.int .i64 (greatN c)) ∧ Below w.heap.size w w' := by
  have hm' := hm
  obtain ⟨h1, h2, h3, h4, h5⟩ := hm'
  have HM := Lib.hid hm
  clear hm
  by_cases ho : c.ob = 1
  · obtain ⟨b, hcb⟩ := Int.eq_ofNat_of_zero_le (show 0 ≤ c.bits by omega)
    have hb6 : b ≤ 6 := by omega
    have HG := Lib.hid (show greatN c = 2 * 2 ^ b from by simp [greatN, ho, hcb])
    obtain ⟨ob, inst, thr, kd, str, bits, cap, node, bat, chk, lim, most⟩ := c
    simp only at *
    subst ho; subst hcb
    clear h1 h2 h3 h4 h5 HM
    go_enter Try.func51, Try.ntmps51
    go_wp2_with fail
    go_loop [3, 4] (fun s i => ∃ j : Nat, j ≤ b ∧ i = .int .i64 j ∧ s = .int .i64 (2 * 2 ^ j : Nat)) (fun _ i => 7 - (intOf i).toNat)
    case atStart => exact ⟨0, by omega, rfl, rfl⟩
    case round =>
      obtain ⟨j, hj, rfl, rfl⟩ := hrel
      have hs := pow6 j (by omega)
      by_cases hlt : j < b
      · have HS := Lib.hid (pow_step j)
        generalize hx : 2 * 2 ^ j = x at *
        have hx1 : x ≤ 128 := by omega
        clear hx hs
        go_wp2_with fail
        go_round
        case rel => exact ⟨j + 1, by omega, by go_num, by rw [HS.out]; go_num⟩
        case measure => simp [intOf]; omega
      · obtain rfl : j = b := by omega
        generalize 2 * 2 ^ j = x at *
        clear hs
        go_wp2_with fail
        go_ret
        exact ⟨ret_i64 (by rw [HG.out]), by (repeat (first | exact Below.refl _ _ | assumption | apply Below.drew | apply below_drewN | (refine Below.alloc ?_ (by simp <;> omega) _) | (refine Below.setCell ?_ (by simp <;> omega) _)))⟩
  · by_cases ho2 : c.ob = 2
    · obtain ⟨m, hcm⟩ := Int.eq_ofNat_of_zero_le (show 0 ≤ c.cap by omega)
      obtain ⟨k, hck⟩ := Int.eq_ofNat_of_zero_le (show 0 ≤ c.node by omega)
      have q1 : m < 33 := by omega
      have q2 : k < 5 := by omega
      have q3 : 2 ≤ k := by omega
      have HG := Lib.hid (show greatN c = sumN m k (topN m k + 1) from by simp [greatN, ho2, hcm, hck])
      have ht := top_le m q1 k q2
      obtain ⟨ob, inst, thr, kd, str, bits, cap, node, bat, chk, lim, most⟩ := c
      simp only at *
      subst ho2; subst hcm; subst hck
      clear h1 h2 h3 h4 h5 HM ho
      have u1 := fun W => rTop_any m k W q1 q2 q3
      go_enter Try.func51, Try.ntmps51
      go_wp2_with fail
      generalize hT : topN m k = T at *
      have HT := Lib.hid hT
      clear hT
      go_loop [5, 6] (fun s i => ∃ j : Nat, j ≤ T + 1 ∧ i = .int .i64 j ∧ s = .int .i64 (sumN m k j : Nat)) (fun _ i => 6 - (intOf i).toNat)
      case atStart => exact ⟨0, by omega, rfl, rfl⟩
      case round =>
        obtain ⟨j, hj, rfl, rfl⟩ := hrel
        have hs := sumN_le m k q1 q2 q3 j (by omega)
        by_cases hlt : j < T + 1
        · have hx := items_lt m q1 k q2 q3 j (by omega)
          have u2 := fun W => rItems_any m k j W q1 q2 q3 (by omega)
          have HS := Lib.hid (show sumN m k (j + 1) = sumN m k j + itemsN m k j from rfl)
          generalize itemsN m k j = x at *
          generalize sumN m k j = s at *
          have hlt2 : (j : Int) ≤ (T : Int) := by omega
          go_wp2_with (first | (go_at_call 53; refine (u1 _).mono ?_; rintro e w' ⟨rfl, rfl⟩) | (go_at_call 54; refine (u2 _).mono ?_; rintro e w' ⟨rfl, rfl⟩))
          go_round
          case rel => exact ⟨j + 1, by omega, by go_num, by rw [HS.out]; go_num⟩
          case measure => simp [intOf]; omega
        · obtain rfl : j = T + 1 := by omega
          have hlt2 : (T : Int) < ((T + 1 : Nat) : Int) := by omega
          generalize ((T + 1 : Nat) : Int) = TI at *
          go_wp2_with ((go_at_call 53; refine (u1 _).mono ?_; rintro e w' ⟨rfl, rfl⟩))
          go_ret
          exact ⟨ret_i64 (by rw [HG.out]), by (repeat (first | exact Below.refl _ _ | assumption | apply Below.drew | apply below_drewN | (refine Below.alloc ?_ (by simp <;> omega) _) | (refine Below.setCell ?_ (by simp <;> omega) _)))⟩
    · have HG := Lib.hid (show ((greatN c : Nat) : Int) = c.cap from by simp [greatN, ho, ho2]; omega)
      have e1 : (c.ob == 1) = false := by simpa using ho
      have e2 : (c.ob == 2) = false := by simpa using ho2
      clear h1 h2 h3 h4 h5 HM
      go_enter Try.func51, Try.ntmps51
      go_wp2_with fail
      go_ret
      exact ⟨ret_i64 (by rw [HG.out]), by (repeat (first | exact Below.refl _ _ | assumption | apply Below.drew | apply below_drewN | (refine Below.alloc ?_ (by simp <;> omega) _) | (refine Below.setCell ?_ (by simp <;> omega) _)))⟩

end Go.Proofs.Ytecjbgddjejjdaa
