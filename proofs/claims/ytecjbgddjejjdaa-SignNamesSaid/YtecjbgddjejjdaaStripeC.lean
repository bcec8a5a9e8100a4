/- Chapter 20: stripe.which. -/
import Derived.Test.YtecjbgddjejjdaaStripeB
import Derived.Test.YtecjbgddjejjdaaPartF
import Derived.WalkMore
namespace Go.Proofs.Ytecjbgddjejjdaa
open Go.RowKit

set_option maxRecDepth 100000 in
set_option maxHeartbeats 3200000 in
theorem which_neg (c : Cfg) (i : Int) (w : World) (h : 1 ≤ c.str ∧ c.str ≤ 4) (hi : i < 0) : Calls Try.prog 104 #[.agg #[.int .u8 c.ob, .int .i64 c.inst, .int .i64 c.thr, .int .u8 c.kd, .int .i64 c.str, .int .i64 c.bits, .int .i64 c.cap, .int .i64 c.node, .int .i64 c.bat, .int .i64 c.chk, .int .u64 c.lim, .int .u64 c.most], .int .i64 i] w fun e w' => e = .returned (.tuple #[.int .i64 (whS c i), .int .i64 (whT c i)]) ∧ Below w.heap.size w w' := by
  have HW := Lib.hid (wh_out (c := c) (i := i) (by omega))
  have h1 : ((0 : Int) == i) = false := by simp; omega
  have h2 : i < 1 := by omega
  have h3 : (0 : Int) < c.str := by omega
  go_enter Try.func104, Try.ntmps104
  go_wp2_with fail
  have x4 := (Box.new w 37 (cfgL c)).c 4 rfl
  have HB := Lib.hid (newB w (.cells ⟨cfgL c⟩ 37))
  unfold cfgL at *
  generalize w.alloc _ = V at *
  clear h
  go_step3
  go_wp2_with fail
  go_step3
  go_wp2_with fail
  go_loop [6, 7] (fun n s => n = .int .i64 0 ∧ s = .int .i64 0) (fun _ _ => 0)
  case atStart => exact ⟨rfl, rfl⟩
  case round =>
    obtain ⟨rfl, rfl⟩ := hrel
    go_wp2_with fail
    go_loop [6, 8, 15] (fun n _ t => n = .int .i64 0 ∧ t = .int .i64 0) (fun _ _ _ => 0)
    case atStart => exact ⟨rfl, rfl⟩
    case round =>
      obtain ⟨rfl, rfl⟩ := hrel
      go_wp2_with fail
      (try rw [Exit.noGoto_ret])
      go_ret2
      exact ⟨by rw [HW.out.1, HW.out.2]; rfl, HB.out⟩

set_option maxRecDepth 100000 in
set_option maxHeartbeats 3200000 in
theorem which_in (c : Cfg) (q : Nat) (w : World) (h : 1 ≤ c.str ∧ c.str ≤ 4) (hq : q < 9223372036854775808) : Calls Try.prog 104 #[.agg #[.int .u8 c.ob, .int .i64 c.inst, .int .i64 c.thr, .int .u8 c.kd, .int .i64 c.str, .int .i64 c.bits, .int .i64 c.cap, .int .i64 c.node, .int .i64 c.bat, .int .i64 c.chk, .int .u64 c.lim, .int .u64 c.most], .int .i64 (q : Int)] w fun e w' => e = .returned (.tuple #[.int .i64 (whS c q), .int .i64 (whT c q)]) ∧ Below w.heap.size w w' := by
  obtain ⟨m, hm⟩ : ∃ m : Nat, c.str = m := Int.eq_ofNat_of_zero_le (by omega)
  have hm1 : 1 ≤ m ∧ m ≤ 4 := by omega
  have HW0 := Lib.hid (fun (s t : Nat) (h1 : s < 2) (h2 : t < m) (h3 : s * m + t = q) => (show whS c q = s ∧ whT c q = t by
    have : s = 0 ∨ s = 1 := by omega
    rcases this with rfl | rfl
    · obtain ⟨a, b⟩ := wh_0 (c := c) (i := q) ⟨by omega, by omega⟩
      exact ⟨a, by omega⟩
    · obtain ⟨a, b⟩ := wh_1 (c := c) (i := q) ⟨by omega, by omega⟩
      exact ⟨a, by omega⟩))
  have HW2 := Lib.hid (fun (h : 2 * m ≤ q) => wh_out (c := c) (i := q) (by omega))
  have HM := Lib.hid hm
  clear h hm
  go_enter Try.func104, Try.ntmps104
  go_wp2_with fail
  have x4 := (Box.new w 37 (cfgL c)).c 4 rfl
  have HB := Lib.hid (newB w (.cells ⟨cfgL c⟩ 37))
  unfold cfgL at *
  generalize w.alloc _ = V at *
  rw [HM.out] at x4
  go_step3
  go_wp2_with fail
  go_step3
  go_wp2_with fail
  go_loop [6, 7] (fun n s => ∃ k : Nat, k ≤ 2 ∧ k * m ≤ q ∧ n = .int .i64 (k * m : Nat) ∧ s = .int .i64 (k : Nat)) (fun _ s => 3 - (intOf s).toNat)
  case atStart => exact ⟨0, by omega, by omega, by rw [Nat.zero_mul]; rfl, rfl⟩
  case round =>
    obtain ⟨k, hk, hkq, rfl, rfl⟩ := hrel
    by_cases hk2 : k < 2
    · have i1 : (k : Int) < 2 := by omega
      go_wp2_with fail
      go_loop [6, 8, 15] (fun n _ t => ∃ j : Nat, j ≤ m ∧ k * m + j ≤ q ∧ n = .int .i64 (k * m + j : Nat) ∧ t = .int .i64 (j : Nat)) (fun _ _ t => m + 1 - (intOf t).toNat)
      case atStart => exact ⟨0, by omega, by omega, rfl, rfl⟩
      case round =>
        obtain ⟨j, hj, hjq, rfl, rfl⟩ := hrel
        by_cases hjm : j < m
        · have i2 : (j : Int) < (m : Int) := by omega
          by_cases hit : k * m + j = q
          · have HW := Lib.hid (HW0.out k j hk2 hjm hit)
            have e1 : (((k * m + j : Nat) : Int) == (q : Int)) = true := by simp [hit]
            go_wp2_with fail
            (try rw [Exit.noGoto_ret])
            go_ret2
            exact ⟨by rw [HW.out.1, HW.out.2]; rfl, HB.out⟩
          · have e1 : (((k * m + j : Nat) : Int) == (q : Int)) = false := by
              rw [beq_eq_false_iff_ne]; omega
            have e2 : IntKind.i64.wrap (((k * m + j : Nat) : Int) + 1) = ((k * m + (j + 1) : Nat) : Int) := wrapN (by omega) (by omega)
            have e3 : ¬ ((q : Int) < ((k * m + (j + 1) : Nat) : Int)) := by omega
            have hN : k * m + (j + 1) ≤ q := by omega
            have HN := Lib.hid hN
            go_wp2_with fail
            refine ⟨⟨j + 1, by omega, HN.out, congrArg (Value.int .i64) (by omega), congrArg (Value.int .i64) (by omega)⟩, ?_⟩
            simp [intOf]; omega
        · obtain rfl : j = m := by omega
          go_wp2_with fail
          refine ⟨⟨k + 1, by omega, by rw [Nat.add_mul]; omega, congrArg (Value.int .i64) (by rw [Nat.add_mul, Nat.one_mul]), congrArg (Value.int .i64) (by omega)⟩, ?_⟩
          simp [intOf]; omega
    · obtain rfl : k = 2 := by omega
      have HW := Lib.hid (HW2.out hkq)
      go_wp2_with fail
      (try rw [Exit.noGoto_ret])
      go_ret2
      exact ⟨by rw [HW.out.1, HW.out.2]; rfl, HB.out⟩

end Go.Proofs.Ytecjbgddjejjdaa
