/- The walk of PackThere. -/
import Derived.Test.YtmjgmfoaagomgaaAlive01
import Derived.Test.YtmjgmfoaagomgaaPlainThere
namespace Go.Proofs.Ytmjgmfoaagomgaa
open Go.RowKit

set_option maxHeartbeats 800000 in
theorem walk_PackThere (n0 n1 n2 n3 n4 n5 : Int) (w : World) (b0 : IntKind.u64.min ≤ n0 ∧ n0 ≤ IntKind.u64.max) (_b1 : IntKind.i64.min ≤ n1 ∧ n1 ≤ IntKind.i64.max) (b2 : IntKind.i64.min ≤ n2 ∧ n2 ≤ IntKind.i64.max) (b3 : IntKind.u64.min ≤ n3 ∧ n3 ≤ IntKind.u64.max) (_b4 : IntKind.i64.min ≤ n4 ∧ n4 ≤ IntKind.i64.max) (b5 : IntKind.i64.min ≤ n5 ∧ n5 ≤ IntKind.i64.max) :
    Calls Try.prog 6 #[.int .u64 n0, .int .i64 n1, .int .i64 n2, .int .u64 n3, .int .i64 n4, .int .i64 n5] w fun e w' => e = .returned (.bool true) ∧ Below w.heap.size w w' := by
  obtain ⟨h0, h0'⟩ := b0; obtain ⟨h2, h2'⟩ := b2; obtain ⟨h3, h3'⟩ := b3; obtain ⟨h5, h5'⟩ := b5
  simp [IntKind.min, IntKind.max, IntKind.signed, IntKind.bits] at h0 h0' h2 h2' h3 h3' h5 h5'
  obtain ⟨x, rfl⟩ := Int.eq_ofNat_of_zero_le h0
  obtain ⟨v, rfl⟩ := Int.eq_ofNat_of_zero_le h3
  have hx : x < 18446744073709551616 := by omega
  have hv : v < 18446744073709551616 := by omega
  clear h0 h0' h3 h3' _b1 _b4
  go_enter Try.func6, Try.ntmps6
  go_wp2_with fail
  refine (alive_any _).mono ?_
  rintro e w1 ⟨rfl, hb1⟩
  go_wp2_with fail
  refine (Put_any x v _ _ _ hx h2 h2').mono ?_
  rintro e w2 ⟨rfl, hb2⟩
  have HB2 := Lib.hid (hb1.trans (hb2.mono hb1.size)); clear hb1 hb2
  cases hm : mayB n1 n2 with
  | false =>
    rw [show putV x n1 n2 v = 0 from by simp [putV, hm], show putE n1 n2 v = 2 from by simp [putE, hm]]
    clear hm
    go_wp2_with fail
    go_ret
    exact ⟨rfl, HB2.out⟩
  | true =>
    cases hf : fitB v n2 with
    | false =>
      rw [show putV x n1 n2 v = 0 from by simp [putV, hm, hf], show putE n1 n2 v = 10 from by simp [putE, hm, hf]]
      clear hm hf
      go_wp2_with fail
      go_ret
      exact ⟨rfl, HB2.out⟩
    | true =>
      rw [show putV x n1 n2 v = withN x n1.toNat n2.toNat v from by simp [putV, hm, hf], show putE n1 n2 v = 0 from by simp [putE, hm, hf]]
      obtain ⟨m1, m2, m3, m4⟩ := (mayB_iff _ _).1 hm
      have hX := withN_lt x n1.toNat n2.toNat v hx (by omega)
      have hvb : v < 2 ^ n2.toNat := (fits_iff _ _).1 (of_decide_eq_true hf)
      generalize hXd : withN x n1.toNat n2.toNat v = X at hX ⊢
      go_wp2_with fail
      refine (Get_any X _ _ _ hX h2 h2').mono ?_
      rintro e w3 ⟨rfl, hb3⟩
      rw [show getV X n1 n2 = v from by rw [← hXd]; simp only [getV, hm, if_true]; exact fieldN_same _ _ _ _ hvb, show getE n1 n2 = 0 from by simp [getE, hm]]
      go_wp2_with fail
      refine (Get_any x _ _ _ hx h5 h5').mono ?_
      rintro e w4 ⟨rfl, hb4⟩
      go_wp2_with fail
      refine (Get_any X _ _ _ hX h5 h5').mono ?_
      rintro e w5 ⟨rfl, hb5⟩
      have HB5 := Lib.hid (HB2.out.trans ((hb3.trans ((hb4.trans (hb5.mono hb4.size)).mono hb3.size)).mono HB2.out.size))
      clear HB2 hb3 hb4 hb5 hf
      cases hm' : mayB n4 n5 with
      | false =>
        rw [show getE n4 n5 = 2 from by simp [getE, hm']]
        generalize getV x n4 n5 = q1
        generalize getV X n4 n5 = q2
        clear hm hm'
        go_wp2_with fail
        go_ret
        exact ⟨rfl, HB5.out⟩
      | true =>
        obtain ⟨k1, k2, k3, k4⟩ := (mayB_iff _ _).1 hm'
        rw [show getE n4 n5 = 0 from by simp [getE, hm']]
        have hsame : n4 + n5 ≤ n1 ∨ n1 + n2 ≤ n4 → getV X n4 n5 = getV x n4 n5 := by
          intro h
          simp only [getV, hm', if_true]
          rw [← hXd]
          exact fieldN_apart _ _ _ _ _ _ (by omega)
        have HS := Lib.hid hsame
        clear hsame
        generalize getV x n4 n5 = q1 at HS ⊢
        generalize getV X n4 n5 = q2 at HS ⊢
        clear hm hm'
        by_cases c1 : n4 + n5 ≤ n1
        · obtain rfl := HS.out (.inl c1)
          go_wp2_with fail
          go_ret
          exact ⟨rfl, HB5.out⟩
        · by_cases c2 : n1 + n2 ≤ n4
          · obtain rfl := HS.out (.inr c2)
            go_wp2_with fail
            go_ret
            exact ⟨rfl, HB5.out⟩
          · go_wp2_with fail
            go_ret
            exact ⟨rfl, HB5.out⟩

set_option maxHeartbeats 1000000 in
theorem walk_PackNames (w : World) : Calls Try.prog 5 #[] w fun e w' => e = .returned (.bool true) ∧ Below w.heap.size w w' := by
  go_enter Try.func5, Try.ntmps5
  go_wp2_with fail
  refine (Put_any 0 16 8 4 _ (by omega) (by omega) (by omega)).mono ?_
  rintro e w1 ⟨rfl, hb1⟩
  rw [show putE 8 4 16 = 10 from by decide]
  generalize putV 0 8 4 16 = z1
  go_wp2_with fail
  refine (Get_any 0 1 64 _ (by omega) (by omega) (by omega)).mono ?_
  rintro e w2 ⟨rfl, hb2⟩
  rw [show getE 1 64 = 2 from by decide]
  generalize getV 0 1 64 = z2
  go_wp2_with fail
  refine (Get_any 0 0 0 _ (by omega) (by omega) (by omega)).mono ?_
  rintro e w3 ⟨rfl, hb3⟩
  rw [show getE 0 0 = 2 from by decide]
  generalize getV 0 0 0 = z3
  go_wp2_with fail
  refine (Get_any 0 (-1) 4 _ (by omega) (by omega) (by omega)).mono ?_
  rintro e w4 ⟨rfl, hb4⟩
  rw [show getE (-1) 4 = 2 from by decide]
  generalize getV 0 (-1) 4 = z4
  go_wp2_with fail
  refine (Get_any 18446744073709551615 0 64 _ (by omega) (by omega) (by omega)).mono ?_
  rintro e w5 ⟨rfl, hb5⟩
  rw [show getE 0 64 = 0 from by decide, show getV 18446744073709551615 0 64 = 18446744073709551615 from by decide]
  go_wp2_with fail
  refine (Put_any 18446744073709551615 0 63 1 _ (by omega) (by omega) (by omega)).mono ?_
  rintro e w6 ⟨rfl, hb6⟩
  rw [show putE 63 1 0 = 0 from by decide, show putV 18446744073709551615 63 1 0 = 9223372036854775807 from by decide]
  have HB6 := Lib.hid (hb1.trans ((hb2.trans ((hb3.trans ((hb4.trans ((hb5.trans (hb6.mono hb5.size)).mono hb4.size)).mono hb3.size)).mono hb2.size)).mono hb1.size))
  clear hb1 hb2 hb3 hb4 hb5 hb6
  go_wp2_with fail
  refine (Join_any _ 2 2 (fun i => [60, 5].getD i 0) (fun i => [0, 99].getD i 0) _ (by omega) (two_of (by decide) (by decide)) (two_of (by decide) (by decide)) (two_of (by decide) (by decide)) (fields2 _ _ 60 5 0 99 _ rfl)).mono ?_
  rintro e w7 ⟨rfl, hb7⟩
  rw [show joinE (fun i => [60, 5].getD i 0) (fun i => [0, 99].getD i 0) 2 = 2 from by decide]
  generalize joinV (fun i => [60, 5].getD i 0) (fun i => [0, 99].getD i 0) 2 = z7
  go_wp2_with fail
  refine (Join_any _ 2 2 (fun i => [60, 4].getD i 0) (fun i => [0, 16].getD i 0) _ (by omega) (two_of (by decide) (by decide)) (two_of (by decide) (by decide)) (two_of (by decide) (by decide)) (fields2 _ _ 60 4 0 16 _ rfl)).mono ?_
  rintro e w8 ⟨rfl, hb8⟩
  rw [show joinE (fun i => [60, 4].getD i 0) (fun i => [0, 16].getD i 0) 2 = 10 from by decide]
  generalize joinV (fun i => [60, 4].getD i 0) (fun i => [0, 16].getD i 0) 2 = z8
  go_wp2_with fail
  refine (Join_any none 0 0 (fun _ => 0) (fun _ => 0) _ (by omega) (fun i hi => by omega) (fun i hi => by omega) (fun i hi => by omega) (.inl rfl)).mono ?_
  rintro e w9 ⟨rfl, hb9⟩
  rw [show joinE (fun _ => 0) (fun _ => 0) 0 = 0 from by decide, show joinV (fun _ => 0) (fun _ => 0) 0 = 0 from by decide]
  go_wp2_with fail
  refine (Split_any _ 0 2 2 (fun i => [64, 1].getD i 0) _ (by omega) (by omega) (by omega) (two_of (by decide) (by decide)) (two_of (by decide) (by decide)) (ints2 _ _ 64 1 _ rfl)).mono ?_
  rintro e w10 ⟨v, rfl, _, hb10⟩
  rw [show splitE (fun i => [64, 1].getD i 0) 2 = 2 from by decide]
  have h7 := HB6.out.trans ((((Below.refl _ _).alloc (Nat.le_refl _) _).trans (hb7.mono (by simp))).mono HB6.out.size)
  have h8 := h7.trans ((((Below.refl _ _).alloc (Nat.le_refl _) _).trans (hb8.mono (by simp))).mono h7.size)
  have h9 := h8.trans (hb9.mono h8.size)
  have h10 := h9.trans ((((Below.refl _ _).alloc (Nat.le_refl _) _).trans (hb10.mono (by simp))).mono h9.size)
  have HB := Lib.hid h10
  clear HB6 hb7 hb8 hb9 hb10 h7 h8 h9 h10
  go_wp2_with fail
  refine (alive_any _).mono ?_
  rintro e w11 ⟨rfl, hb11⟩
  go_wp2_with fail
  go_ret
  exact ⟨rfl, HB.out.trans (hb11.mono HB.out.size)⟩

end Go.Proofs.Ytmjgmfoaagomgaa
