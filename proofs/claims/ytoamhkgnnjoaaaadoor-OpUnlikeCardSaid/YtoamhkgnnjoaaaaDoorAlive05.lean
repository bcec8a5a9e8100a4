/- The examples of chapter 5 (alive), and the walks of OpBack and OpNames. -/
import Derived.Test.YtoamhkgnnjoaaaaDoorOpF
import Derived.Test.YtoamhkgnnjoaaaaDoorOp
namespace Go.Proofs.YtoamhkgnnjoaaaaDoor
open Go.RowKit

def ex5 : Cfg := ⟨1, 2, 1, 1, 0, 3, 4, 0, 1, 0, 131072, 0⟩
def ex5b : Cfg := ⟨4, 2, 1, 1, 0, 0, 4, 0, 1, 0, 131072, 0⟩
def ex5x : Cfg := ⟨3, 2, 1, 1, 0, 0, 4, 0, 1, 0, 131072, 0⟩
def ex5z : Cfg := ⟨0, 0, 0, 0, 0, 0, 0, 0, 0, 0, 0, 0⟩
theorem ex5_1 : opE ex5 (1 : Nat) 5 3 7 = 0 ∧ opE ex5 (1 : Nat) 5 2 7 = 10 ∧ opE ex5 (3 : Nat) 8 0 0 = 10 ∧ opE ex5 (6 : Nat) 1 0 0 = 50 := by decide +kernel
theorem ex5_2 : opE ex5b (12 : Nat) 65537 2 2147483647 = 0 ∧ opE ex5b (12 : Nat) 1 2 0 = 10 ∧ opE ex5b (12 : Nat) 65536 0 0 = 10 ∧ opE ex5b (14 : Nat) 1 0 1 = 10 ∧ opE ex5z (0 : Nat) 0 0 0 = 40 := by decide +kernel
theorem ex5_3 : opE ex5x (9 : Nat) 0 0 2 = 0 ∧ opE ex5x (9 : Nat) 0 0 0 = 10 ∧ opE ex5x (11 : Nat) 1 0 0 = 10 := by decide +kernel
theorem ex5_4 : objZ ((0 : Nat) : Int) = 0 ∧ objZ ((15 : Nat) : Int) = 0 ∧ writesZ ((255 : Nat) : Int) = false := by decide +kernel

set_option maxRecDepth 100000 in
set_option maxHeartbeats 3200000 in
theorem alive05_any (w : World) (hO : Ob w) : Calls Tryd.prog 33 #[] w fun e w' => e = .returned (.bool true) ∧ Below w.heap.size w w' := by
  have HO := Lib.hid hO
  clear hO
  go_enter Tryd.func33, Tryd.ntmps33
  go_wp2_with fail
  have HX := Lib.hid (Box.new w 24 (cfgL ex5))
  have HB := Lib.hid (newB w (.cells ⟨cfgL ex5⟩ 24))
  unfold cfgL ex5 at HX HB
  generalize w.alloc _ = V at *
  refine (opCheck_any ex5 1 5 3 7 V (by omega) (by omega) (by omega) (by omega) (by omega) (by omega) (by omega) (HO.out.more HB.out)).mono ?_
  rintro e w1 ⟨rfl, hb⟩
  rw [ex5_1.1]
  have HB := Lib.hid (keepB hb HB.out); have HX := Lib.hid (HX.out.below hb); clear hb
  have x0 := HX.out.c 0 rfl; have x1 := HX.out.c 1 rfl; have x2 := HX.out.c 2 rfl; have x3 := HX.out.c 3 rfl; have x4 := HX.out.c 4 rfl; have x5 := HX.out.c 5 rfl; have x6 := HX.out.c 6 rfl; have x7 := HX.out.c 7 rfl; have x8 := HX.out.c 8 rfl; have x9 := HX.out.c 9 rfl; have x10 := HX.out.c 10 rfl; have x11 := HX.out.c 11 rfl
  go_wp2_with fail
  refine (opCheck_any ex5 1 5 2 7 _ (by omega) (by omega) (by omega) (by omega) (by omega) (by omega) (by omega) (HO.out.more HB.out)).mono ?_
  rintro e w2 ⟨rfl, hb⟩
  rw [ex5_1.2.1]
  clear x0 x1 x2 x3 x4 x5 x6 x7 x8 x9 x10 x11
  have HB := Lib.hid (keepB hb HB.out); have HX := Lib.hid (HX.out.below hb); clear hb
  have x0 := HX.out.c 0 rfl; have x1 := HX.out.c 1 rfl; have x2 := HX.out.c 2 rfl; have x3 := HX.out.c 3 rfl; have x4 := HX.out.c 4 rfl; have x5 := HX.out.c 5 rfl; have x6 := HX.out.c 6 rfl; have x7 := HX.out.c 7 rfl; have x8 := HX.out.c 8 rfl; have x9 := HX.out.c 9 rfl; have x10 := HX.out.c 10 rfl; have x11 := HX.out.c 11 rfl
  go_wp2_with fail
  refine (opCheck_any ex5 3 8 0 0 _ (by omega) (by omega) (by omega) (by omega) (by omega) (by omega) (by omega) (HO.out.more HB.out)).mono ?_
  rintro e w3 ⟨rfl, hb⟩
  rw [ex5_1.2.2.1]
  clear x0 x1 x2 x3 x4 x5 x6 x7 x8 x9 x10 x11
  have HB := Lib.hid (keepB hb HB.out); have HX := Lib.hid (HX.out.below hb); clear hb
  have x0 := HX.out.c 0 rfl; have x1 := HX.out.c 1 rfl; have x2 := HX.out.c 2 rfl; have x3 := HX.out.c 3 rfl; have x4 := HX.out.c 4 rfl; have x5 := HX.out.c 5 rfl; have x6 := HX.out.c 6 rfl; have x7 := HX.out.c 7 rfl; have x8 := HX.out.c 8 rfl; have x9 := HX.out.c 9 rfl; have x10 := HX.out.c 10 rfl; have x11 := HX.out.c 11 rfl
  go_wp2_with fail
  refine (opCheck_any ex5 6 1 0 0 _ (by omega) (by omega) (by omega) (by omega) (by omega) (by omega) (by omega) (HO.out.more HB.out)).mono ?_
  rintro e w4 ⟨rfl, hb⟩
  rw [ex5_1.2.2.2]
  clear x0 x1 x2 x3 x4 x5 x6 x7 x8 x9 x10 x11
  have HB := Lib.hid (keepB hb HB.out); have HX := Lib.hid (HX.out.below hb); clear hb
  go_wp2_with fail
  refine (Laid_any 9 1 5 3 7 _ (by omega) (by omega) (by omega) (by omega)).mono ?_
  rintro e w5 ⟨rfl, hb⟩
  rw [show laidV 9 1 5 3 7 = .agg #[.int .u64 9, .int .u64 1281, .int .u64 3, .int .u64 7] from rfl]
  have HB := Lib.hid (keepB hb HB.out)
  clear hb
  go_wp2_with fail
  go_ret
  exact ⟨rfl, moreB HB.out _⟩

theorem of_laid (s k a b c : Nat) (hk : k < 256) (ha : a < 4294967296) (hb : b < 4294967296) (hc : c < 4294967296) : ofV s (a * 256 + k) b c = .tuple #[.int .u64 s, .agg #[.int .u8 k, .int .u32 a, .int .u32 b, .int .u32 c]] := by
  unfold ofV
  rw [show (a * 256 + k) % 256 = k by omega, show (a * 256 + k) / 256 % 4294967296 = a by omega, Nat.mod_eq_of_lt hb, Nat.mod_eq_of_lt hc]

set_option maxRecDepth 100000 in
set_option maxHeartbeats 3200000 in
theorem back5_walk (s k a b c : Nat) (w : World) (hk : k < 256) (ha : a < 4294967296) (hb : b < 4294967296) (hc : c < 4294967296) (hO : Ob w) :
    Calls Tryd.prog 13 #[.int .u64 s, .agg #[.int .u8 k, .int .u32 a, .int .u32 b, .int .u32 c]] w fun e w' => e = .returned (.bool true) ∧ Below w.heap.size w w' := by
  have HO := Lib.hid hO
  have hl := of_laid s k a b c hk ha hb hc
  have HH := Lib.hid (And.intro hk (And.intro ha (And.intro hb hc)))
  have hx : a * 256 + k < 18446744073709551616 := by omega
  have hv : laidV s k a b c = .agg #[.int .u64 s, .int .u64 ((a * 256 + k : Nat) : Int), .int .u64 b, .int .u64 c] := rfl
  generalize a * 256 + k = xw at *
  have HXX := Lib.hid hx
  have HL := Lib.hid hl
  have HV := Lib.hid hv
  clear hO hk ha hb hc hx hl hv
  go_enter Tryd.func13, Tryd.ntmps13
  go_wp2_with fail
  have HQ := Lib.hid (Box.new w 27 [.int .u8 k, .int .u32 a, .int .u32 b, .int .u32 c])
  have HB := Lib.hid (newB w (.cells #[.int .u8 k, .int .u32 a, .int .u32 b, .int .u32 c] 27))
  generalize w.alloc _ = V at *
  refine (Laid_any s k a b c V HH.out.1 HH.out.2.1 HH.out.2.2.1 HH.out.2.2.2).mono ?_
  rintro e w1 ⟨rfl, hb⟩
  have HB := Lib.hid (keepB hb HB.out)
  have HQ := Lib.hid (HQ.out.below hb)
  clear hb
  rw [HV.out]
  go_wp2_with fail
  refine (Of_any s xw b c _ HXX.out).mono ?_
  rintro e w2 ⟨rfl, hb⟩
  rw [HL.out]
  have HB := Lib.hid (keepB hb HB.out)
  have HQ := Lib.hid (HQ.out.below hb)
  clear hb
  go_wp2_with fail
  refine (alive05_any _ (HO.out.more (moreB HB.out _))).mono ?_
  rintro e w3 ⟨rfl, hb⟩
  have hy := (Box.new w2 27 [.int .u8 k, .int .u32 a, .int .u32 b, .int .u32 c]).below hb
  have hq := (HQ.out.alloc _).below hb
  have HB := Lib.hid (keepB hb (moreB HB.out _))
  have y0 := hy.c 0 rfl
  have y1 := hy.c 1 rfl
  have y2 := hy.c 2 rfl
  have y3 := hy.c 3 rfl
  have q0 := hq.c 0 rfl
  have q1 := hq.c 1 rfl
  have q2 := hq.c 2 rfl
  have q3 := hq.c 3 rfl
  clear hy hq hb
  go_wp2_with fail
  go_ret
  exact ⟨rfl, HB.out⟩

set_option linter.unusedVariables false in
theorem walk_OpBack (n0 n1_0 n1_1 n1_2 n1_3 : Int) (w : World) (b0 : IntKind.u64.min ≤ n0 ∧ n0 ≤ IntKind.u64.max) (b1_0 : IntKind.u8.min ≤ n1_0 ∧ n1_0 ≤ IntKind.u8.max) (b1_1 : IntKind.u32.min ≤ n1_1 ∧ n1_1 ≤ IntKind.u32.max) (b1_2 : IntKind.u32.min ≤ n1_2 ∧ n1_2 ≤ IntKind.u32.max) (b1_3 : IntKind.u32.min ≤ n1_3 ∧ n1_3 ≤ IntKind.u32.max) (hO : Ob w) :
    Calls Tryd.prog 13 #[.int .u64 n0, .agg #[.int .u8 n1_0, .int .u32 n1_1, .int .u32 n1_2, .int .u32 n1_3]] w fun e w' => e = .returned (.bool true) ∧ Below w.heap.size w w' := by
  simp [IntKind.min, IntKind.max, IntKind.signed, IntKind.bits] at b0 b1_0 b1_1 b1_2 b1_3
  obtain ⟨s, rfl⟩ := Int.eq_ofNat_of_zero_le b0.1
  obtain ⟨k, rfl⟩ := Int.eq_ofNat_of_zero_le b1_0.1
  obtain ⟨a, rfl⟩ := Int.eq_ofNat_of_zero_le b1_1.1
  obtain ⟨b, rfl⟩ := Int.eq_ofNat_of_zero_le b1_2.1
  obtain ⟨c, rfl⟩ := Int.eq_ofNat_of_zero_le b1_3.1
  exact back5_walk s k a b c w (by omega) (by omega) (by omega) (by omega) hO

end Go.Proofs.YtoamhkgnnjoaaaaDoor
