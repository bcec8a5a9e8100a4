/- Contracts of the reference of registers, the rest: Laid, Of. -/
import Derived.Test.YtnaggpkcaioppaaRegRef
namespace Go.Proofs.Ytnaggpkcaioppaa
open Go.RowKit

set_option maxHeartbeats 1600000 in
theorem rLaid_yes (tag K sq ki A B pc i j n p h X Y : Nat) (w : World) (hf : fits9 (nine K sq ki pc i j n p h) = true) (hA : A < 4294967296) (hB : B < 4294967296) (hX : X < 4294967296) (hY : Y < 4294967296) :
    Calls Try.prog 12 #[.agg #[.int .u64 tag, .int .u8 K, .int .u8 sq, .int .u8 ki, .int .u32 A, .int .u32 B, .int .u8 pc, .int .u8 i, .int .u8 j, .int .u8 n, .int .u8 p, .int .u8 h, .int .u32 X, .int .u32 Y]] w fun e w' => e = .returned (laidV tag A B X Y (nine K sq ki pc i j n p h)) ∧ Below w.heap.size w w' := by
  have HL := Lib.hid (show laidV tag A B X Y (nine K sq ki pc i j n p h) = .tuple #[.agg #[.int .u64 tag, .int .u64 (sum9 (nine K sq ki pc i j n p h)), .int .u64 ((B * 4294967296 + A : Nat) : Int), .int .u64 ((Y * 4294967296 + X : Nat) : Int)], .int .i64 0] by simp [laidV, hf])
  have HF := Lib.hid hf
  clear hf
  go_enter Try.func12, Try.ntmps12
  go_wp2_with fail
  refine (rFits_any tag K sq ki A B pc i j n p h X Y _).mono ?_
  rintro e w1 ⟨rfl, hb1⟩
  rw [HF.out]
  have hd := ((Box.new w 32 [.int .u64 tag, .int .u8 K, .int .u8 sq, .int .u8 ki, .int .u32 A, .int .u32 B, .int .u8 pc, .int .u8 i, .int .u8 j, .int .u8 n, .int .u8 p, .int .u8 h, .int .u32 X, .int .u32 Y]).alloc (.cells #[.int .u64 0, .int .u64 0, .int .u64 0, .int .u64 0] 34)).below hb1
  have hr := ((Box.newAt (w.alloc (.cells #[.int .u64 tag, .int .u8 K, .int .u8 sq, .int .u8 ki, .int .u32 A, .int .u32 B, .int .u8 pc, .int .u8 i, .int .u8 j, .int .u8 n, .int .u8 p, .int .u8 h, .int .u32 X, .int .u32 Y] 32)) 34 [.int .u64 0, .int .u64 0, .int .u64 0, .int .u64 0] (g := w.heap.size + 1) (by simp)).below hb1)
  have hBl := keepB (w := w) hb1 (by (repeat (first | exact Below.refl _ _ | assumption | apply Below.drew | apply below_drewN | (refine Below.alloc ?_ (by simp <;> omega) _) | (refine Below.setCell ?_ (by simp <;> omega) _))))
  have d0 := hd.c 0 rfl
  have d1 := hd.c 1 rfl
  have d2 := hd.c 2 rfl
  have d3 := hd.c 3 rfl
  have d4 := hd.c 4 rfl
  have d5 := hd.c 5 rfl
  have d6 := hd.c 6 rfl
  have d7 := hd.c 7 rfl
  have d8 := hd.c 8 rfl
  have d9 := hd.c 9 rfl
  have d10 := hd.c 10 rfl
  have d11 := hd.c 11 rfl
  have d12 := hd.c 12 rfl
  have d13 := hd.c 13 rfl
  have HBB := Lib.hid hBl
  have HR := Lib.hid hr
  clear hr hd hb1 hBl
  go_wp2_with fail
  refine (rCell_any tag K sq ki A B pc i j n p h X Y _ HF.out hA hB hX hY).mono ?_
  rintro e w2 ⟨rfl, hb2⟩
  have hr := HR.out.below hb2
  have HB2 := Lib.hid (keepB hb2 HBB.out)
  obtain ⟨q0, q1, q2, q3⟩ := box4 hr
  have f0 := hr.f 0
  have f1 := hr.f 1
  have f2 := hr.f 2
  have f3 := hr.f 3
  clear hr hb2 HR HBB d0 d1 d2 d3 d4 d5 d6 d7 d8 d9 d10 d11 d12 d13
  generalize sum9 (nine K sq ki pc i j n p h) = S9 at *
  go_wp2_with fail
  (try simp only [Exit.inBlock, Exit.then])
  refine bodyPost_ret (v := laidV tag A B X Y (nine K sq ki pc i j n p h)) (by rw [HL.out]; simp [results, Try.f12, go_sem, q0, q1, q2, q3]) rfl ⟨rfl, ?_⟩
  have hB := HB2.out
  clear q0 q1 q2 q3 f0 f1 f2 f3
  (repeat (first | exact Below.refl _ _ | assumption | apply Below.drew | apply below_drewN | (refine Below.alloc ?_ (by simp <;> omega) _) | (refine Below.setCell ?_ (by simp <;> omega) _)))
theorem rLaid_any (tag K sq ki A B pc i j n p h X Y : Nat) (w : World) (hA : A < 4294967296) (hB : B < 4294967296) (hX : X < 4294967296) (hY : Y < 4294967296) :
    Calls Try.prog 12 #[.agg #[.int .u64 tag, .int .u8 K, .int .u8 sq, .int .u8 ki, .int .u32 A, .int .u32 B, .int .u8 pc, .int .u8 i, .int .u8 j, .int .u8 n, .int .u8 p, .int .u8 h, .int .u32 X, .int .u32 Y]] w fun e w' => e = .returned (laidV tag A B X Y (nine K sq ki pc i j n p h)) ∧ Below w.heap.size w w' := by
  cases hf : fits9 (nine K sq ki pc i j n p h) with
  | false => exact rLaid_no tag K sq ki A B pc i j n p h X Y w hf
  | true => exact rLaid_yes tag K sq ki A B pc i j n p h X Y w hf hA hB hX hY

set_option maxRecDepth 100000 in
set_option maxHeartbeats 1600000 in
theorem rOf_any (tag x b c : Nat) (w : World) (hx : x < 18446744073709551616) (hb : b < 18446744073709551616) (hc : c < 18446744073709551616) :
    Calls Try.prog 13 #[.agg #[.int .u64 tag, .int .u64 x, .int .u64 b, .int .u64 c]] w fun e w' => e = .returned (ofD tag x b c) ∧ Below w.heap.size w w' := by
  go_enter Try.func13, Try.ntmps13
  go_wp2_with fail
  (try simp only [Exit.inBlock, Exit.then])
  refine bodyPost_ret (v := ofD tag x b c) ?_ rfl ⟨rfl, by (repeat (first | exact Below.refl _ _ | assumption | apply Below.drew | apply below_drewN | (refine Below.alloc ?_ (by simp <;> omega) _) | (refine Below.setCell ?_ (by simp <;> omega) _)))⟩
  simp [results, Try.f13, go_sem, ofD, descV]
  omega

end Go.Proofs.Ytnaggpkcaioppaa
