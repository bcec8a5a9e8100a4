/- The walks of RankPath, RankAll, RankTop. -/
import Derived.Test.YtfjhfnpgigclbaaDoorAlive03
namespace Go.Proofs.YtfjhfnpgigclbaaDoor
open Go.RowKit

theorem node_deep : ∀ m, m < 7 → ∀ q, q < 64 → (q < 2 ^ m → deep (2 ^ m + q) = m ∧ 2 ^ m + q < 128 ∧ 1 ≤ 2 ^ m + q) := by decide +kernel
theorem deep_up : ∀ n, n < 128 → ∀ j, j < 7 → (1 ≤ n ∧ j ≤ deep n → deep (n / 2 ^ j) = deep n - j ∧ 1 ≤ n / 2 ^ j) := by decide +kernel
theorem node_up (m : Nat) (hm : m < 7) (q : Nat) (hq : q < 64) (j : Nat) (hj : j < 7) (h : q < 2 ^ m ∧ j ≤ m) : deep ((2 ^ m + q) / 2 ^ j) = m - j ∧ (2 ^ m + q) / 2 ^ j < 128 ∧ 1 ≤ (2 ^ m + q) / 2 ^ j ∧ 2 ^ (m - j) + q / 2 ^ j = (2 ^ m + q) / 2 ^ j ∧ q / 2 ^ j < 2 ^ (m - j) := by
  obtain ⟨f1, f2, f3⟩ := node_deep m hm q hq h.1
  obtain ⟨d1, d2⟩ := deep_up _ f2 j hj ⟨f3, by omega⟩
  have hp := Nat.two_pow_pos j
  have e : 2 ^ m = 2 ^ j * 2 ^ (m - j) := by rw [← Nat.pow_add]; congr 1; omega
  refine ⟨by rw [d1, f1], Nat.lt_of_le_of_lt (Nat.div_le_self _ _) f2, d2, ?_, ?_⟩
  · rw [e, Nat.mul_add_div hp]
  · exact Nat.div_lt_of_lt_mul (by rw [← e]; exact h.1)
theorem node_val {m q : Nat} (hm : m ≤ 6) (hq : q < 2 ^ m) : nodeV m q = ((2 ^ m + q : Nat) : Int) ∧ nodeE m q = 0 := by
  have h : nodeB m q = true := by
    have : ((2 ^ m : Nat) : Int) = 2 ^ m := by simp
    simp [nodeB]
    omega
  simp [nodeV, nodeE, h]
theorem depth_val {n : Nat} (h1 : 1 ≤ n) (h2 : n < 128) : depthV n = (deep n : Nat) ∧ depthE n = 0 := by
  constructor
  · rw [depthV, if_pos (by omega), Int.toNat_natCast]
  · rw [depthE, if_pos (by omega)]
theorem over_val {n k : Nat} (h1 : 1 ≤ n) (h2 : n < 128) (h3 : k ≤ deep n) : overV n k = ((n / 2 ^ k : Nat) : Int) ∧ overE n k = 0 := by
  have h : overB n k = true := by
    simp [overB, (depth_val h1 h2).1]
    omega
  simp [overV, overE, h]
theorem over_no {n : Nat} {k : Int} (h1 : 1 ≤ n) (h2 : n < 128) (h3 : k < 0 ∨ (deep n : Int) < k) : overV n k = 0 ∧ overE n k = 2 := by
  have h : overB n k = false := by
    cases hb : overB n k with
    | false => rfl
    | true =>
      simp [overB, (depth_val h1 h2).1] at hb
      omega
  simp [overV, overE, h]

set_option maxHeartbeats 1600000 in
theorem walk_RankPath (n0 n1 n2 n3 : Int) (w : World) (_b0 : IntKind.i64.min ≤ n0 ∧ n0 ≤ IntKind.i64.max) (_b1 : IntKind.i64.min ≤ n1 ∧ n1 ≤ IntKind.i64.max) (_b2 : IntKind.i64.min ≤ n2 ∧ n2 ≤ IntKind.i64.max) (_b3 : IntKind.i64.min ≤ n3 ∧ n3 ≤ IntKind.i64.max) (hw : Pw w) :
    Calls Tryd.prog 5 #[.int .i64 n0, .int .i64 n1, .int .i64 n2, .int .i64 n3] w fun e w' => e = .returned (.bool true) ∧ Below w.heap.size w w' := by
  cases hB : nodeB n0 n1 with
  | false =>
    have hv : nodeV n0 n1 = 0 := by simp [nodeV, hB]
    have he : nodeE n0 n1 = 2 := by simp [nodeE, hB]
    have ho : overE 0 n2 = 2 := by simp [overE, overB]
    clear hB
    go_enter Tryd.func5, Tryd.ntmps5
    go_wp2_with fail
    refine (alive_any _ hw).mono ?_
    rintro e w1 ⟨rfl, hb1⟩
    go_wp2_with fail
    refine (Node_any n0 n1 _).mono ?_
    rintro e w' ⟨rfl, rfl⟩
    rw [hv, he]
    go_wp2_with fail
    refine (Over_any 0 n2 _).mono ?_
    rintro e w' ⟨rfl, rfl⟩
    rw [ho]
    generalize overV 0 n2 = z
    go_wp2_with fail
    go_ret
    exact ⟨rfl, hb1⟩
  | true =>
    obtain ⟨m, q, rfl, rfl, hm, hq⟩ := node_parts hB
    have h64 := pow_le6 m hm
    obtain ⟨f1, f2, f3⟩ := node_deep m (by omega) q (by omega) hq
    obtain ⟨hv, he⟩ := node_val hm hq
    have HU := Lib.hid fun j (hj : j ≤ m) => node_up m (by omega) q (by omega) j (by omega) ⟨hq, hj⟩
    clear hB
    by_cases hj : 0 ≤ n2 ∧ n2 ≤ m
    · obtain ⟨j, rfl⟩ := Int.eq_ofNat_of_zero_le hj.1
      have hjm : j ≤ m := by omega
      obtain ⟨g1, g2, g3, g4, g5⟩ := HU.out j hjm
      obtain ⟨ov, oe⟩ := over_val f3 f2 (show j ≤ deep (2 ^ m + q) by omega)
      obtain ⟨dv, de⟩ := depth_val g3 g2
      obtain ⟨nv, ne⟩ := node_val (m := m - j) (q := q / 2 ^ j) (by omega) g5
      rw [g4] at nv
      rw [g1] at dv
      have hdd := fun k => Nat.div_div_eq_div_mul (2 ^ m + q) (2 ^ j) (2 ^ k)
      have E1 : ((q : Int) / 2 ^ j) = ((q / 2 ^ j : Nat) : Int) := by simp
      have E2 : (m : Int) - (j : Int) = ((m - j : Nat) : Int) := by omega
      clear HU hj
      have hqle : q / 2 ^ j ≤ q := Nat.div_le_self _ _
      have f4 := fun k => over_val f3 f2 (k := k)
      rw [f1] at f4
      generalize hN : 2 ^ m + q = N at *
      have hO3 := fun k => over_val (k := k) g3 g2
      have hO4 := fun k => over_no (k := k) g3 g2
      rw [g1] at hO3 hO4
      have hX : ∀ k, N / 2 ^ (j + k) = N / 2 ^ j / 2 ^ k := fun k => by rw [hdd, Nat.pow_add]
      generalize hXd : N / 2 ^ j = X at *
      generalize hQd : q / 2 ^ j = Q at *
      have HX := Lib.hid hX; have HO3 := Lib.hid hO3; have HO4 := Lib.hid hO4; have HF4 := Lib.hid f4
      have HE1 := Lib.hid E1
      clear hX hO3 hO4 f4 hdd hXd hN hQd g4 g5 g1 E1
      go_enter Tryd.func5, Tryd.ntmps5
      go_wp2_with fail
      refine (alive_any _ hw).mono ?_
      rintro e w1 ⟨rfl, hb1⟩
      go_wp2_with fail
      refine (Node_any m q _).mono ?_
      rintro e w' ⟨rfl, rfl⟩
      rw [hv, he]
      go_wp2_with fail
      refine (Over_any N j _).mono ?_
      rintro e w' ⟨rfl, rfl⟩
      rw [ov, oe]
      go_wp2_with fail
      refine (Depth_any X _).mono ?_
      rintro e w' ⟨rfl, rfl⟩
      rw [dv, de]
      go_wp2_with fail
      rw [HE1.out]
      refine (Node_any ((m - j : Nat) : Int) Q _).mono ?_
      rintro e w' ⟨rfl, rfl⟩
      rw [nv, ne]
      go_wp2_with fail
      refine (Over_any X n3 _).mono ?_
      rintro e w' ⟨rfl, rfl⟩
      by_cases hk : 0 ≤ n3 ∧ n3 ≤ ((m - j : Nat) : Int)
      · obtain ⟨k, rfl⟩ := Int.eq_ofNat_of_zero_le hk.1
        obtain ⟨yv, ye⟩ := HO3.out k (by omega)
        obtain ⟨zv, ze⟩ := HF4.out (j + k) (by omega)
        rw [HX.out k, Int.natCast_add] at zv
        rw [Int.natCast_add] at ze
        rw [yv, ye]
        generalize X / 2 ^ k = Y at *
        have hk6 : k ≤ 6 := by omega
        clear hk yv ye
        go_wp2_with fail
        refine (Over_any N ((j : Int) + (k : Int)) _).mono ?_
        rintro e w' ⟨rfl, rfl⟩
        rw [zv, ze]
        go_wp2_with fail
        go_ret
        exact ⟨rfl, hb1⟩
      · have hno : n3 < 0 ∨ ((m - j : Nat) : Int) < n3 := by omega
        obtain ⟨yv, ye⟩ := HO4.out n3 hno
        rw [yv, ye]
        clear hk yv ye
        rcases hno with c | c
        iterate 2
          · go_wp2_with fail
            go_ret
            exact ⟨rfl, hb1⟩
    · have hno : n2 < 0 ∨ ((m : Nat) : Int) < n2 := by omega
      obtain ⟨ov, oe⟩ := over_no f3 f2 (k := n2) (by rw [f1]; exact hno)
      clear HU
      generalize hN : 2 ^ m + q = N at *
      clear hN hj
      rcases hno with c | c
      iterate 2
        · go_enter Tryd.func5, Tryd.ntmps5
          go_wp2_with fail
          refine (alive_any _ hw).mono ?_
          rintro e w1 ⟨rfl, hb1⟩
          go_wp2_with fail
          refine (Node_any m q _).mono ?_
          rintro e w' ⟨rfl, rfl⟩
          rw [hv, he]
          go_wp2_with fail
          refine (Over_any N n2 _).mono ?_
          rintro e w' ⟨rfl, rfl⟩
          rw [ov, oe]
          go_wp2_with fail
          go_ret
          exact ⟨rfl, hb1⟩

theorem count_val {m k h : Nat} (hm : m < 33) (hk : k < 5) (hk2 : 2 ≤ k) (hh : h < 5) : countV m k h = (itemsN m k h : Nat) ∧ countE m k h = 0 := by
  have hB : countB m k h = true := by simp [countB, widthB]; omega
  simp [countV, countE, hB]
theorem last_val {m k j i : Nat} (hm : m < 33) (h1 : 1 ≤ m) (hk : k < 5) (hk2 : 2 ≤ k) (hj : j < 4) (hi : i < itemsN m k (j + 1)) : lastV m k ((j + 1 : Nat) : Int) i = ((min ((i + 1) * k) (itemsN m k j) : Nat) : Int) - 1 ∧ lastE m k ((j + 1 : Nat) : Int) i = 0 := by
  have hB : lastB m k ((j + 1 : Nat) : Int) i = true := by
    simp only [lastB, Bool.and_eq_true, decide_eq_true_eq, Int.toNat_natCast]
    refine ⟨⟨⟨⟨by simp [widthB]; omega, by omega⟩, by omega⟩, by omega⟩, by omega⟩
  constructor
  · rw [show lastV m k ((j + 1 : Nat) : Int) i = min (((i : Int) + 1) * k) (itemsN (m : Int).toNat (k : Int).toNat (((j + 1 : Nat) : Int).toNat - 1) : Nat) - 1 from by simp only [lastV, hB, if_true]]
    rw [Int.toNat_natCast, Int.toNat_natCast, Int.toNat_natCast, Nat.add_sub_cancel, show ((i : Int) + 1) * (k : Int) = (((i + 1) * k : Nat) : Int) from by simp]
    omega
  · simp only [lastE, hB, if_true]

set_option maxHeartbeats 1600000 in
theorem walk_RankAll (n0 n1 n2 : Int) (w : World) (_b0 : IntKind.i64.min ≤ n0 ∧ n0 ≤ IntKind.i64.max) (_b1 : IntKind.i64.min ≤ n1 ∧ n1 ≤ IntKind.i64.max) (_b2 : IntKind.i64.min ≤ n2 ∧ n2 ≤ IntKind.i64.max) (hw : Pw w) :
    Calls Tryd.prog 6 #[.int .i64 n0, .int .i64 n1, .int .i64 n2] w fun e w' => e = .returned (.bool true) ∧ Below w.heap.size w w' := by
  have hpos := hw.pos
  cases hB : countB n0 n1 n2 with
  | false =>
    have he : countE n0 n1 n2 = 2 := by simp [countE, hB]
    generalize hv : countV n0 n1 n2 = z
    clear hB
    go_enter Tryd.func6, Tryd.ntmps6
    go_wp2_with fail
    refine (alive_any _ hw).mono ?_
    rintro e w1 ⟨rfl, hb1⟩
    go_wp2_with fail
    refine (Count_any n0 n1 n2 _ (hw.below hb1 hpos)).mono ?_
    rintro e w' ⟨rfl, rfl⟩
    rw [hv, he]
    go_wp2_with fail
    go_ret
    exact ⟨rfl, hb1⟩
  | true =>
    obtain ⟨m, k, h, rfl, rfl, rfl, h1, h2, h3, h4⟩ := count_parts hB
    obtain ⟨cv, ce⟩ := count_val h1 h2 h3 h4
    clear hB
    by_cases hm : 1 ≤ m
    · by_cases hh : 1 ≤ h
      · obtain ⟨j, rfl⟩ : ∃ j, h = j + 1 := ⟨h - 1, by omega⟩
        obtain ⟨bv, be⟩ := count_val h1 h2 h3 (show j < 5 by omega)
        have hn1 := items_pos m h1 hm k h2 h3 (j + 1) (by omega)
        have hn2 := items_lt m h1 k h2 h3 (j + 1) (by omega)
        have hy := items_lt m h1 k h2 h3 j (by omega)
        have hc := items_ceil m h1 k h2 h3 j (by omega)
        have hlv := fun i => last_val (i := i) h1 hm h2 h3 (show j < 4 by omega)
        have hle := fun i => last_end (i := i) h1 h2 h3 (show j < 4 by omega)
        generalize hN : itemsN m k (j + 1) = n at *
        generalize hY : itemsN m k j = y at *
        have hceil : y ≤ n * k ∧ (n - 1) * k < y := by
          rcases wide3 h2 h3 with rfl | rfl | rfl <;> omega
        have HLV := Lib.hid hlv; have HLE := Lib.hid hle; have HC := Lib.hid hceil
        have E0 : ((j + 1 : Nat) : Int) - 1 = (j : Nat) := by omega
        have E1 : (1 : Int) ≤ ((j + 1 : Nat) : Int) := by omega
        generalize hJ : ((j + 1 : Nat) : Int) = J at *
        clear hc hlv hle hceil hN hY hJ hh
        go_enter Tryd.func6, Tryd.ntmps6
        go_wp2_with fail
        refine (alive_any _ hw).mono ?_
        rintro e w1 ⟨rfl, hb1⟩
        have hw1 := hw.below hb1 hpos
        go_wp2_with fail
        refine (Count_any m k J _ hw1).mono ?_
        rintro e w' ⟨rfl, rfl⟩
        rw [cv, ce]
        go_wp2_with fail
        refine (Count_any m k j _ hw1).mono ?_
        rintro e w' ⟨rfl, rfl⟩
        rw [bv, be]
        go_wp2_with fail
        go_loop [12, 13] (fun at_ i => ∃ q : Nat, q ≤ n ∧ i = .int .i64 q ∧ at_ = .int .i64 (((min (q * k) y : Nat) : Int) - 1)) (fun _ i => n - (intOf i).toNat)
        case atStart => exact ⟨0, by omega, rfl, by simp⟩
        case round =>
          obtain ⟨q, hq, rfl, rfl⟩ := hrel
          have hqk : (q + 1) * k = q * k + k := by rw [Nat.add_mul]; omega
          have hqb : q * k ≤ 33 * 4 := Nat.mul_le_mul (by omega) (by omega)
          by_cases hlt : q < n
          · obtain ⟨lv, le⟩ := HLV.out q (by omega)
            have hlow := HLE.out q (by omega)
            have hnext : q + 1 < n → q * k + k < y := fun hh => by have := HLE.out (q + 1) (by omega); omega
            have HQ := Lib.hid hqk
            rw [hqk] at lv
            clear hqk
            generalize q * k = z at *
            rw [show ((min z y : Nat) : Int) = z from by omega]
            generalize hA : (z : Int) - 1 = A at *
            have hA0 : -1 ≤ A := by omega
            have hA1 : A ≤ 200 := by omega
            generalize hK : ((min (z + k) y : Nat) : Int) - 1 = K at *
            have hk0 : A < K := by omega
            have hk1 : K ≤ A + k := by omega
            have hk2 : q + 1 < n → K = A + k := fun hh => by have := hnext hh; omega
            have HK := Lib.hid (show K = ((min ((q + 1) * k) y : Nat) : Int) - 1 by rw [HQ.out]; exact hK.symm)
            clear hnext hlow hA hK
            by_cases hl : q + 1 < n
            · have hkk := hk2 hl
              have hl' : (q : Int) < (n : Int) - 1 := by omega
              clear hk2
              go_wp2_with fail
              refine (Last_any m k J q _ hw1).mono ?_
              rintro e w' ⟨rfl, rfl⟩
              rw [lv, le]
              go_wp2_with fail
              go_round
              case rel => exact ⟨q + 1, by omega, by go_num, by rw [← HK.out, hkk]⟩
              case measure => simp [intOf]; omega
            · have hl' : (n : Int) - 1 ≤ (q : Int) := by omega
              clear hk2
              go_wp2_with fail
              refine (Last_any m k J q _ hw1).mono ?_
              rintro e w' ⟨rfl, rfl⟩
              rw [lv, le]
              go_wp2_with fail
              go_round
              case rel => exact ⟨q + 1, by omega, by go_num, by rw [HK.out]⟩
              case measure => simp [intOf]; omega
          · obtain rfl : q = n := by omega
            have := HC.out.1
            clear hqk
            generalize q * k = z at *
            rw [show ((min z y : Nat) : Int) = y from by omega]
            go_wp2_with fail
            go_ret
            exact ⟨rfl, hb1⟩
      · obtain rfl : h = 0 := by omega
        generalize hN : itemsN m k 0 = n at *
        clear hh
        go_enter Tryd.func6, Tryd.ntmps6
        go_wp2_with fail
        refine (alive_any _ hw).mono ?_
        rintro e w1 ⟨rfl, hb1⟩
        go_wp2_with fail
        refine (Count_any m k (0 : Nat) _ (hw.below hb1 hpos)).mono ?_
        rintro e w' ⟨rfl, rfl⟩
        rw [cv, ce]
        go_wp2_with fail
        go_ret
        exact ⟨rfl, hb1⟩
    · generalize itemsN m k h = n at *
      go_enter Tryd.func6, Tryd.ntmps6
      go_wp2_with fail
      refine (alive_any _ hw).mono ?_
      rintro e w1 ⟨rfl, hb1⟩
      go_wp2_with fail
      refine (Count_any m k h _ (hw.below hb1 hpos)).mono ?_
      rintro e w' ⟨rfl, rfl⟩
      rw [cv, ce]
      go_wp2_with fail
      go_ret
      exact ⟨rfl, hb1⟩

end Go.Proofs.YtfjhfnpgigclbaaDoor
