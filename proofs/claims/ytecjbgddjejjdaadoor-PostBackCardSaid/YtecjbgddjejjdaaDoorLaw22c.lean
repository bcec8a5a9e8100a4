/- The walk of PostBack. -/
import Derived.Test.YtecjbgddjejjdaaDoorAlive22
namespace Go.Proofs.YtecjbgddjejjdaaDoor
open Go.RowKit

theorem tell_nat (s n x y : Nat) (hx : x < 65536) : tellV s n x y = .agg #[.int .u64 s, .int .u64 x, .int .u64 y, .int .u64 n] := by
  unfold tellV
  rw [show IntKind.u64.wrap (x : Int) = (x : Int) by rw [IntKind.wrap_u64]; omega]
theorem told_same (s x y n : Nat) (hx : x < 65536) (hy : y < 4294967296) : toldV s s x y n = .tuple #[.agg #[.int .i64 x, .int .u32 y, .slice none 0 0], .int .u64 n, .bool true] := by
  unfold toldV
  rw [if_pos rfl, Nat.mod_eq_of_lt hx, Nat.mod_eq_of_lt hy]
theorem told_other {s o : Nat} (h : o ≠ s) (x y n : Nat) : toldV o s x y n = .tuple #[.agg #[.int .i64 0, .int .u32 0, .slice none 0 0], .int .u64 0, .bool false] := if_neg h

set_option maxRecDepth 100000 in
set_option maxHeartbeats 6400000 in
theorem back22_walk (s o n x y : Nat) (w : World) (hx : x < 65536) (hy : y < 4294967296) (hp : Pw w ∧ Ob w ∧ Wr w) :
    Calls Tryd.prog 5 #[.int .u64 s, .int .u64 o, .int .u64 n, .int .u16 x, .int .u32 y] w fun e w' => e = .returned (.bool true) ∧ Below w.heap.size w w' := by
  have HP := Lib.hid hp
  have H1 := Lib.hid (tell_nat s n x y hx)
  have H2 := Lib.hid (told_same s x y n hx hy)
  have HY := Lib.hid hy
  have hw : IntKind.i64.wrap (x : Int) = (x : Int) := by rw [IntKind.wrap_i64]; omega
  have H3 : ∃ p q r b, toldV o s x y n = .tuple #[.agg #[.int .i64 p, .int .u32 q, .slice none 0 0], .int .u64 r, .bool b] ∧ (b == ((s : Int) == (o : Int))) = true := by
    by_cases h : o = s
    · subst h; exact ⟨_, _, _, _, told_same o x y n hx hy, by simp⟩
    · exact ⟨_, _, _, _, told_other h x y n, by
        rw [beq_eq_false_iff_ne.2 (show (s : Int) ≠ (o : Int) by omega)]; rfl⟩
  obtain ⟨p, q, r, b, h3, h4⟩ := H3
  have H3 := Lib.hid h3
  clear h3 hx hy hp
  go_enter Tryd.func5, Tryd.ntmps5
  go_wp2_with fail
  have HQ := Lib.hid (Box.new w 41 [.int .i64 x, .int .u32 y, .slice none 0 0])
  have HB := Lib.hid (newB w (.cells #[.int .i64 x, .int .u32 y, .slice none 0 0] 41))
  generalize w.alloc _ = V at *
  refine (Tell_any s n x y (.slice none 0 0) V (by have := HY.out; omega)).mono ?_
  rintro e w1 ⟨rfl, hb⟩
  rw [H1.out]
  have HQ := Lib.hid (HQ.out.below hb)
  have HB := Lib.hid (keepB hb HB.out)
  clear hb
  go_wp2_with fail
  refine (Told_any s s x y n w1).mono ?_
  rintro e w2 ⟨rfl, hb⟩
  rw [H2.out]
  have HQ := Lib.hid (HQ.out.below hb)
  have HB := Lib.hid (keepB hb HB.out)
  clear hb
  have q0 := fun o => (HQ.out.alloc o).c 0 rfl
  have q1 := fun o => (HQ.out.alloc o).c 1 rfl
  have q2 := fun o => (HQ.out.alloc o).c 2 rfl
  go_wp2_with fail
  have HA' := Box.new w2 41 [.int .i64 x, .int .u32 y, .slice none 0 0]
  have HQ := Lib.hid (HQ.out.alloc (.cells #[.int .i64 x, .int .u32 y, .slice none 0 0] 41))
  have HB := Lib.hid (moreB HB.out (.cells #[.int .i64 x, .int .u32 y, .slice none 0 0] 41))
  clear q0 q1 q2
  generalize w2.alloc _ = V2 at *
  have HA := Lib.hid HA'
  clear HA'
  refine (Tell_any s n x y (.slice none 0 0) V2 (by have := HY.out; omega)).mono ?_
  rintro e w3 ⟨rfl, hb⟩
  rw [H1.out]
  have HQ := Lib.hid (HQ.out.below hb); have HA := Lib.hid (HA.out.below hb)
  have HB := Lib.hid (keepB hb HB.out)
  clear hb
  go_wp2_with fail
  refine (Told_any o s x y n w3).mono ?_
  rintro e w4 ⟨rfl, hb⟩
  rw [H3.out]
  have HQ := Lib.hid (HQ.out.below hb); have HA := Lib.hid (HA.out.below hb)
  have HB := Lib.hid (keepB hb HB.out)
  clear hb
  go_wp2_with fail
  refine (alive22_any _ ⟨HP.out.1.more (moreB HB.out _), HP.out.2.1.more (moreB HB.out _), HP.out.2.2.more (moreB HB.out _)⟩).mono ?_
  rintro e w5 ⟨rfl, hb⟩
  have HQ := Lib.hid ((HQ.out.alloc _).below hb); have HA := Lib.hid ((HA.out.alloc _).below hb)
  have HB := Lib.hid (keepB hb (moreB HB.out _))
  clear hb
  have q0 := HQ.out.c 0 rfl
  have q1 := HQ.out.c 1 rfl
  have q2 := HQ.out.c 2 rfl
  have a0 := HA.out.c 0 rfl
  have a1 := HA.out.c 1 rfl
  have a2 := HA.out.c 2 rfl
  go_wp2_with fail
  refine (SameRes_any x y w5).mono ?_
  rintro e w6 ⟨rfl, hb⟩
  have HB := Lib.hid (keepB hb HB.out)
  clear hb q0 q1 q2 a0 a1 a2
  go_wp2_with fail
  go_ret
  exact ⟨rfl, HB.out⟩

set_option linter.unusedVariables false in
theorem walk_PostBack (n0 n1 n2 n3 n4 : Int) (w : World) (b0 : IntKind.u64.min ≤ n0 ∧ n0 ≤ IntKind.u64.max) (b1 : IntKind.u64.min ≤ n1 ∧ n1 ≤ IntKind.u64.max) (b2 : IntKind.u64.min ≤ n2 ∧ n2 ≤ IntKind.u64.max) (b3 : IntKind.u16.min ≤ n3 ∧ n3 ≤ IntKind.u16.max) (b4 : IntKind.u32.min ≤ n4 ∧ n4 ≤ IntKind.u32.max) (hL : Pw w ∧ Ob w ∧ Wr w) :
    Calls Tryd.prog 5 #[.int .u64 n0, .int .u64 n1, .int .u64 n2, .int .u16 n3, .int .u32 n4] w fun e w' => e = .returned (.bool true) ∧ Below w.heap.size w w' := by
  simp [IntKind.min, IntKind.max, IntKind.signed, IntKind.bits] at b0 b1 b2 b3 b4
  obtain ⟨s, rfl⟩ := Int.eq_ofNat_of_zero_le b0.1
  obtain ⟨o, rfl⟩ := Int.eq_ofNat_of_zero_le b1.1
  obtain ⟨n, rfl⟩ := Int.eq_ofNat_of_zero_le b2.1
  obtain ⟨x, rfl⟩ := Int.eq_ofNat_of_zero_le b3.1
  obtain ⟨y, rfl⟩ := Int.eq_ofNat_of_zero_le b4.1
  exact back22_walk s o n x y w (by omega) (by omega) hL

end Go.Proofs.YtecjbgddjejjdaaDoor
