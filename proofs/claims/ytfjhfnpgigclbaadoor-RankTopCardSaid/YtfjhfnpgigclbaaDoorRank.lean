/- Contracts of rank's functions of nodes and of their references. -/
import Derived.Test.YtfjhfnpgigclbaaDoorBits
import Derived.Test.YtfjhfnpgigclbaaDoorPlainRank
import Derived.WalkKit
import Derived.WalkSpells
import Derived.RowKit3
import Derived.Below
import Derived.Lib.Hide
import Derived.WalkSmall
import Derived.Laws.Bits64b
namespace Go.Proofs.YtfjhfnpgigclbaaDoor
open Go.RowKit

theorem ret_i64 {a b : Int} (h : a = b) : Ending.returned (.int .i64 a) = .returned (.int .i64 b) := by rw [h]
theorem ret_bool {a b : Bool} (h : a = b) : Ending.returned (.bool a) = .returned (.bool b) := by rw [h]
theorem bitLen_deep : ∀ n, n < 128 → 1 ≤ n → Lib.bitLen n = deep n + 1 := by decide +kernel

theorem Len_any (n : Nat) (w : World) (h1 : 1 ≤ n) (hn : n < 128) :
    Calls Tryd.prog 25 #[.int .u64 n] w fun e w' => e = .returned (.int .i64 ((deep n : Nat) + 1)) ∧ w = w' := by
  refine (Len_full n w (by omega) (by omega)).mono ?_
  rintro e w' ⟨rfl, rfl⟩
  have := bitLen_deep n hn h1
  refine ⟨ret_i64 ?_, rfl⟩
  rw [Int.toNat_natCast, this]
  simp

def depthV (n : Int) : Int := if 1 ≤ n ∧ n ≤ 127 then (deep n.toNat : Nat) else 0
def depthE (n : Int) : Int := if 1 ≤ n ∧ n ≤ 127 then 0 else 2

theorem Depth_any (n : Int) (w : World) : Calls Tryd.prog 16 #[.int .i64 n] w fun e w' => e = .returned (.tuple #[.int .i64 (depthV n), .int .i64 (depthE n)]) ∧ w = w' := by
  by_cases h1 : 1 ≤ n
  · by_cases h2 : n ≤ 127
    · rw [show depthV n = (deep n.toNat : Nat) from if_pos ⟨h1, h2⟩, show depthE n = 0 from if_pos ⟨h1, h2⟩]
      obtain ⟨m, rfl⟩ := Int.eq_ofNat_of_zero_le (show 0 ≤ n by omega)
      have hd := deep_le m (by omega)
      rw [Int.toNat_natCast]
      go_enter Tryd.func16, Tryd.ntmps16
      go_wp2_with (go_at_call 25; refine (Len_any m _ (by omega) (by omega)).mono ?_; rintro e w' ⟨rfl, rfl⟩)
      go_ret2
      exact ⟨rfl, rfl⟩
    · rw [show depthV n = 0 from if_neg (by omega), show depthE n = 2 from if_neg (by omega)]
      go_enter Tryd.func16, Tryd.ntmps16
      go_wp2
      go_ret2
      exact ⟨rfl, rfl⟩
  · rw [show depthV n = 0 from if_neg (by omega), show depthE n = 2 from if_neg (by omega)]
    go_enter Tryd.func16, Tryd.ntmps16
    go_wp2
    go_ret2
    exact ⟨rfl, rfl⟩

def overB (n k : Int) : Bool := decide (1 ≤ n) && decide (n ≤ 127) && decide (0 ≤ k) && decide (k ≤ depthV n)
def overV (n k : Int) : Int := if overB n k then (n.toNat / 2 ^ k.toNat : Nat) else 0
def overE (n k : Int) : Int := if overB n k then 0 else 2

theorem over_parts {n k : Int} (h : overB n k = true) : ∃ m j : Nat, n = m ∧ k = j ∧ 1 ≤ m ∧ m < 128 ∧ j ≤ deep m := by
  simp [overB] at h
  obtain ⟨⟨⟨h1, h2⟩, h3⟩, h4⟩ := h
  rw [show depthV n = (deep n.toNat : Nat) from if_pos ⟨h1, h2⟩] at h4
  exact ⟨n.toNat, k.toNat, by omega, by omega, by omega, by omega, by omega⟩

theorem Over_any (n k : Int) (w : World) : Calls Tryd.prog 17 #[.int .i64 n, .int .i64 k] w fun e w' => e = .returned (.tuple #[.int .i64 (overV n k), .int .i64 (overE n k)]) ∧ w = w' := by
  cases h : overB n k with
  | true =>
    rw [show overV n k = (n.toNat / 2 ^ k.toNat : Nat) from by simp [overV, h], show overE n k = 0 from by simp [overE, h]]
    obtain ⟨m, j, rfl, rfl, h1, h2, h3⟩ := over_parts h
    have hd := deep_le m h2
    rw [Int.toNat_natCast, Int.toNat_natCast]
    clear h
    go_enter Tryd.func17, Tryd.ntmps17
    go_wp2_with fail
    refine (Depth_any m _).mono ?_
    rintro e w' ⟨rfl, rfl⟩
    rw [show depthV m = (deep m : Nat) from by rw [depthV, if_pos (by omega), Int.toNat_natCast], show depthE m = 0 from if_pos (by omega)]
    go_wp2_with fail
    go_ret2
    exact ⟨by simp, rfl⟩
  | false =>
    rw [show overV n k = 0 from by simp [overV, h], show overE n k = 2 from by simp [overE, h]]
    go_enter Tryd.func17, Tryd.ntmps17
    go_wp2_with fail
    refine (Depth_any n _).mono ?_
    rintro e w' ⟨rfl, rfl⟩
    by_cases c : 1 ≤ n ∧ n ≤ 127
    · rw [show depthE n = 0 from if_pos c]
      by_cases c2 : 0 ≤ k
      · have c3 : depthV n < k := by
          simp [overB, c.1, c.2, c2] at h
          exact h
        generalize depthV n = d at *
        clear h
        go_wp2_with fail
        go_ret2
        exact ⟨rfl, rfl⟩
      · generalize depthV n = d at *
        clear h
        go_wp2_with fail
        go_ret2
        exact ⟨rfl, rfl⟩
    · rw [show depthE n = 2 from if_neg c]
      generalize depthV n = d at *
      clear h
      go_wp2_with fail
      go_ret2
      exact ⟨rfl, rfl⟩

def nodeB (l p : Int) : Bool := decide (0 ≤ l) && decide (l ≤ 6) && decide (0 ≤ p) && decide (p < 2 ^ l.toNat)
def nodeV (l p : Int) : Int := if nodeB l p then 2 ^ l.toNat + p else 0
def nodeE (l p : Int) : Int := if nodeB l p then 0 else 2
theorem node_parts {l p : Int} (h : nodeB l p = true) : ∃ m q : Nat, l = m ∧ p = q ∧ m ≤ 6 ∧ q < 2 ^ m := by
  simp [nodeB] at h
  obtain ⟨⟨⟨h1, h2⟩, h3⟩, h4⟩ := h
  refine ⟨l.toNat, p.toNat, by omega, by omega, by omega, ?_⟩
  have e : ((2 : Int) ^ l.toNat) = ((2 ^ l.toNat : Nat) : Int) := by simp
  rw [e] at h4
  omega
theorem pow_le6 (m : Nat) (h : m ≤ 6) : 2 ^ m ≤ 64 := by have := Nat.pow_le_pow_right (n := 2) (by decide) h; simpa using this

theorem bits_node : ∀ m : Nat, m < 7 → ∀ q : Nat, q < 64 → q < 2 ^ m → bits .or .i64 ((2 ^ m : Nat) : Int) (q : Int) = ((2 ^ m + q : Nat) : Int) := by decide +kernel

theorem node_out (l p : Int) (h : nodeB l p = false) : l < 0 ∨ 6 < l ∨ p < 0 ∨ ∃ m : Nat, l = m ∧ m ≤ 6 ∧ ((2 ^ m : Nat) : Int) ≤ p := by
  by_cases h1 : 0 ≤ l
  · by_cases h2 : l ≤ 6
    · by_cases h3 : 0 ≤ p
      · simp [nodeB, h1, h2, h3] at h
        refine .inr (.inr (.inr ⟨l.toNat, by omega, by omega, ?_⟩))
        simpa using h
      · exact .inr (.inr (.inl (by omega)))
    · exact .inr (.inl (by omega))
  · exact .inl (by omega)

theorem six (m : Nat) (h : m ≤ 6) : m = 0 ∨ m = 1 ∨ m = 2 ∨ m = 3 ∨ m = 4 ∨ m = 5 ∨ m = 6 := by omega

theorem Node_any (l p : Int) (w : World) : Calls Tryd.prog 15 #[.int .i64 l, .int .i64 p] w fun e w' => e = .returned (.tuple #[.int .i64 (nodeV l p), .int .i64 (nodeE l p)]) ∧ w = w' := by
  cases h : nodeB l p with
  | true =>
    rw [show nodeV l p = 2 ^ l.toNat + p from by simp [nodeV, h], show nodeE l p = 0 from by simp [nodeE, h]]
    obtain ⟨m, q, rfl, rfl, h1, h2⟩ := node_parts h
    have h3 := pow_le6 m h1
    have hb := bits_node m (by omega) q (by omega) h2
    rw [Int.toNat_natCast]
    clear h
    rcases six m h1 with rfl | rfl | rfl | rfl | rfl | rfl | rfl
    all_goals simp at h2 hb
    all_goals go_enter Tryd.func15, Tryd.ntmps15
    all_goals go_wp2_with fail
    all_goals go_ret2
    all_goals exact ⟨by first | (subst h2; rfl) | simp [*], rfl⟩
  | false =>
    rw [show nodeV l p = 0 from by simp [nodeV, h], show nodeE l p = 2 from by simp [nodeE, h]]
    rcases node_out l p h with h1 | h1 | h1 | ⟨m, rfl, h1, h2⟩
    · clear h
      go_enter Tryd.func15, Tryd.ntmps15
      go_wp2_with fail
      go_ret2
      exact ⟨rfl, rfl⟩
    · clear h
      go_enter Tryd.func15, Tryd.ntmps15
      go_wp2_with fail
      go_ret2
      exact ⟨rfl, rfl⟩
    · clear h
      by_cases c1 : 0 ≤ l
      · by_cases c2 : l ≤ 6
        · go_enter Tryd.func15, Tryd.ntmps15
          go_wp2_with fail
          go_ret2
          exact ⟨rfl, rfl⟩
        · go_enter Tryd.func15, Tryd.ntmps15
          go_wp2_with fail
          go_ret2
          exact ⟨rfl, rfl⟩
      · go_enter Tryd.func15, Tryd.ntmps15
        go_wp2_with fail
        go_ret2
        exact ⟨rfl, rfl⟩
    · clear h
      rcases six m h1 with rfl | rfl | rfl | rfl | rfl | rfl | rfl
      all_goals simp at h2
      all_goals go_enter Tryd.func15, Tryd.ntmps15
      all_goals go_wp2_with fail
      all_goals go_ret2
      all_goals exact ⟨rfl, rfl⟩

end Go.Proofs.YtfjhfnpgigclbaaDoor
