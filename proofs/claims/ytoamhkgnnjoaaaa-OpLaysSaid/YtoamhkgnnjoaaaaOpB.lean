/- The reference of op.Of, and the walk of OpLays. -/
import Derived.Test.YtoamhkgnnjoaaaaOp
namespace Go.Proofs.Ytoamhkgnnjoaaaa
open Go.RowKit

set_option maxHeartbeats 1600000 in
theorem rOf_any (t x b c : Nat) (w : World) (hx : x < 18446744073709551616) :
    Calls Try.prog 7 #[.agg #[.int .u64 t, .int .u64 x, .int .u64 b, .int .u64 c]] w fun e w' => e = .returned (ofV t x b c) ∧ Below w.heap.size w w' := by
  have hqq : IntKind.u32.wrap ((IntKind.u64.wrap ((x : Int) / 256)).tmod 4294967296) = (x : Int) / 256 % 4294967296 := by
    rw [show IntKind.u64.wrap ((x : Int) / 256) = (x : Int) / 256 from by simp [IntKind.wrap, IntKind.bits, IntKind.signed]; omega, Int.tmod_eq_emod_of_nonneg (by omega)]
    simp [IntKind.wrap, IntKind.bits, IntKind.signed]
  have HQ := Lib.hid hqq
  clear hqq
  go_enter Try.func7, Try.ntmps7
  go_wp2_with fail
  have c0 : ((w.alloc (.cells #[.int .u64 t, .int .u64 x, .int .u64 b, .int .u64 c] 27)).alloc (.cells #[.int .u8 0, .int .u32 0, .int .u32 0, .int .u32 0] 25)).cell? ⟨w.heap.size, 0, none⟩ = some (.int .u64 t) := by simp [go_sem]
  have c1 : ((w.alloc (.cells #[.int .u64 t, .int .u64 x, .int .u64 b, .int .u64 c] 27)).alloc (.cells #[.int .u8 0, .int .u32 0, .int .u32 0, .int .u32 0] 25)).cell? ⟨w.heap.size, 1, none⟩ = some (.int .u64 x) := by simp [go_sem]
  have c2 : ((w.alloc (.cells #[.int .u64 t, .int .u64 x, .int .u64 b, .int .u64 c] 27)).alloc (.cells #[.int .u8 0, .int .u32 0, .int .u32 0, .int .u32 0] 25)).cell? ⟨w.heap.size, 2, none⟩ = some (.int .u64 b) := by simp [go_sem]
  have c3 : ((w.alloc (.cells #[.int .u64 t, .int .u64 x, .int .u64 b, .int .u64 c] 27)).alloc (.cells #[.int .u8 0, .int .u32 0, .int .u32 0, .int .u32 0] 25)).cell? ⟨w.heap.size, 3, none⟩ = some (.int .u64 c) := by simp [go_sem]
  have q0 : ((w.alloc (.cells #[.int .u64 t, .int .u64 x, .int .u64 b, .int .u64 c] 27)).alloc (.cells #[.int .u8 0, .int .u32 0, .int .u32 0, .int .u32 0] 25)).cell? ⟨w.heap.size + 1, 0, none⟩ = some (.int .u8 0) := by simp [go_sem]
  have q1 : ((w.alloc (.cells #[.int .u64 t, .int .u64 x, .int .u64 b, .int .u64 c] 27)).alloc (.cells #[.int .u8 0, .int .u32 0, .int .u32 0, .int .u32 0] 25)).cell? ⟨w.heap.size + 1, 1, none⟩ = some (.int .u32 0) := by simp [go_sem]
  have q2 : ((w.alloc (.cells #[.int .u64 t, .int .u64 x, .int .u64 b, .int .u64 c] 27)).alloc (.cells #[.int .u8 0, .int .u32 0, .int .u32 0, .int .u32 0] 25)).cell? ⟨w.heap.size + 1, 2, none⟩ = some (.int .u32 0) := by simp [go_sem]
  have q3 : ((w.alloc (.cells #[.int .u64 t, .int .u64 x, .int .u64 b, .int .u64 c] 27)).alloc (.cells #[.int .u8 0, .int .u32 0, .int .u32 0, .int .u32 0] 25)).cell? ⟨w.heap.size + 1, 3, none⟩ = some (.int .u32 0) := by simp [go_sem]
  have r0 : ((w.alloc (.cells #[.int .u64 t, .int .u64 x, .int .u64 b, .int .u64 c] 27)).alloc (.cells #[.int .u8 0, .int .u32 0, .int .u32 0, .int .u32 0] 25)).frozen? ⟨w.heap.size + 1, 0, none⟩ = false := by simp [go_sem]
  have r1 : ((w.alloc (.cells #[.int .u64 t, .int .u64 x, .int .u64 b, .int .u64 c] 27)).alloc (.cells #[.int .u8 0, .int .u32 0, .int .u32 0, .int .u32 0] 25)).frozen? ⟨w.heap.size + 1, 1, none⟩ = false := by simp [go_sem]
  have r2 : ((w.alloc (.cells #[.int .u64 t, .int .u64 x, .int .u64 b, .int .u64 c] 27)).alloc (.cells #[.int .u8 0, .int .u32 0, .int .u32 0, .int .u32 0] 25)).frozen? ⟨w.heap.size + 1, 2, none⟩ = false := by simp [go_sem]
  have r3 : ((w.alloc (.cells #[.int .u64 t, .int .u64 x, .int .u64 b, .int .u64 c] 27)).alloc (.cells #[.int .u8 0, .int .u32 0, .int .u32 0, .int .u32 0] 25)).frozen? ⟨w.heap.size + 1, 3, none⟩ = false := by simp [go_sem]
  have HB0 : Below w.heap.size w ((w.alloc (.cells #[.int .u64 t, .int .u64 x, .int .u64 b, .int .u64 c] 27)).alloc (.cells #[.int .u8 0, .int .u32 0, .int .u32 0, .int .u32 0] 25)) := by (repeat (first | exact Below.refl _ _ | assumption | apply Below.drew | apply below_drewN | (refine Below.alloc ?_ (by simp <;> omega) _) | (refine Below.setCell ?_ (by simp <;> omega) _)))
  have HB := Lib.hid HB0
  clear HB0
  generalize ((w.alloc (.cells #[.int .u64 t, .int .u64 x, .int .u64 b, .int .u64 c] 27)).alloc (.cells #[.int .u8 0, .int .u32 0, .int .u32 0, .int .u32 0] 25)) = W at *
  go_region_held3 (fun V => V.cell? ⟨w.heap.size, 0, none⟩ = some (.int .u64 t) ∧ V.cell? ⟨w.heap.size, 1, none⟩ = some (.int .u64 x) ∧ V.cell? ⟨w.heap.size, 2, none⟩ = some (.int .u64 b) ∧ V.cell? ⟨w.heap.size, 3, none⟩ = some (.int .u64 c)) (go_keep) (fail)
  all_goals go_wp2
  all_goals (try simp only [Exit.inBlock, Exit.then])
  all_goals have hB := HB.out
  all_goals refine bodyPost_ret (v := ofV t x b c) (by simp [results, Try.f7, go_sem, ofV, q0, q1, q2, q3, u8t, u32t, HQ.out]) rfl ⟨rfl, by (repeat (first | exact Below.refl _ _ | assumption | apply Below.drew | apply below_drewN | (refine Below.alloc ?_ (by simp <;> omega) _) | (refine Below.setCell ?_ (by simp <;> omega) _)))⟩

/-- Four cells side by side. -/
structure B4 (b : Nat) (v0 v1 v2 v3 : Value) (V : World) : Prop where
  c0 : V.cell? ⟨b, 0, none⟩ = some v0
  c1 : V.cell? ⟨b, 1, none⟩ = some v1
  c2 : V.cell? ⟨b, 2, none⟩ = some v2
  c3 : V.cell? ⟨b, 3, none⟩ = some v3
theorem B4.next {b : Nat} {v0 v1 v2 v3 : Value} {V V' : World} (h : B4 b v0 v1 v2 v3 V) (hb : Below V.heap.size V V') : B4 b v0 v1 v2 v3 V' := ⟨keepC hb h.c0, keepC hb h.c1, keepC hb h.c2, keepC hb h.c3⟩
theorem B4.new (V : World) (v0 v1 v2 v3 : Value) (t : TypeId) : B4 V.heap.size v0 v1 v2 v3 (V.alloc (.cells #[v0, v1, v2, v3] t)) := ⟨by simp [go_sem], by simp [go_sem], by simp [go_sem], by simp [go_sem]⟩

set_option maxHeartbeats 1600000 in
theorem walk_OpLays (n0 n1_0 n1_1 n1_2 n1_3 n2_0 n2_1 n2_2 n2_3 : Int) (w : World) (b0 : IntKind.u64.min ≤ n0 ∧ n0 ≤ IntKind.u64.max) (b1_0 : IntKind.u8.min ≤ n1_0 ∧ n1_0 ≤ IntKind.u8.max) (b1_1 : IntKind.u32.min ≤ n1_1 ∧ n1_1 ≤ IntKind.u32.max) (b1_2 : IntKind.u32.min ≤ n1_2 ∧ n1_2 ≤ IntKind.u32.max) (b1_3 : IntKind.u32.min ≤ n1_3 ∧ n1_3 ≤ IntKind.u32.max)
    (b2_0 : IntKind.u64.min ≤ n2_0 ∧ n2_0 ≤ IntKind.u64.max) (b2_1 : IntKind.u64.min ≤ n2_1 ∧ n2_1 ≤ IntKind.u64.max) (b2_2 : IntKind.u64.min ≤ n2_2 ∧ n2_2 ≤ IntKind.u64.max) (b2_3 : IntKind.u64.min ≤ n2_3 ∧ n2_3 ≤ IntKind.u64.max) :
    Calls Try.prog 3 #[.int .u64 n0, .agg #[.int .u8 n1_0, .int .u32 n1_1, .int .u32 n1_2, .int .u32 n1_3], .agg #[.int .u64 n2_0, .int .u64 n2_1, .int .u64 n2_2, .int .u64 n2_3]] w fun e w' => e = .returned (.bool true) ∧ Below w.heap.size w w' := by
  simp [IntKind.min, IntKind.max, IntKind.signed, IntKind.bits] at *
  obtain ⟨s, rfl⟩ := Int.eq_ofNat_of_zero_le b0.1
  obtain ⟨k, rfl⟩ := Int.eq_ofNat_of_zero_le b1_0.1
  obtain ⟨a, rfl⟩ := Int.eq_ofNat_of_zero_le b1_1.1
  obtain ⟨b, rfl⟩ := Int.eq_ofNat_of_zero_le b1_2.1
  obtain ⟨c, rfl⟩ := Int.eq_ofNat_of_zero_le b1_3.1
  obtain ⟨t, rfl⟩ := Int.eq_ofNat_of_zero_le b2_0.1
  obtain ⟨x, rfl⟩ := Int.eq_ofNat_of_zero_le b2_1.1
  obtain ⟨y, rfl⟩ := Int.eq_ofNat_of_zero_le b2_2.1
  obtain ⟨z, rfl⟩ := Int.eq_ofNat_of_zero_le b2_3.1
  have hk : k < 256 := by omega
  have ha : a < 4294967296 := by omega
  have hb : b < 4294967296 := by omega
  have hc : c < 4294967296 := by omega
  have hx : x < 18446744073709551616 := by omega
  clear b0 b1_0 b1_1 b1_2 b1_3 b2_0 b2_1 b2_2 b2_3
  go_enter Try.func3, Try.ntmps3
  go_wp2_with fail
  refine (Laid_any s k a b c _ hk ha hb hc).mono ?_
  rintro e w1 ⟨rfl, hb1⟩
  rw [show laidV s k a b c = .agg #[.int .u64 s, .int .u64 ((a * 256 + k : Nat) : Int), .int .u64 b, .int .u64 c] from rfl]
  have o1 : B4 w.heap.size (.int .u8 k) (.int .u32 a) (.int .u32 b) (.int .u32 c) w1 := B4.next ⟨by simp [go_sem], by simp [go_sem], by simp [go_sem], by simp [go_sem]⟩ hb1
  have l1 : B4 (w.heap.size + 1) (.int .u64 t) (.int .u64 x) (.int .u64 y) (.int .u64 z) w1 := B4.next ⟨by simp [go_sem], by simp [go_sem], by simp [go_sem], by simp [go_sem]⟩ hb1
  have HB1 := Lib.hid (keepB (w := w) hb1 (by (repeat (first | exact Below.refl _ _ | assumption | apply Below.drew | apply below_drewN | (refine Below.alloc ?_ (by simp <;> omega) _) | (refine Below.setCell ?_ (by simp <;> omega) _)))))
  have O1 := Lib.hid o1; have L1 := Lib.hid l1
  have p0 := fun o => (o1.next (newB w1 o)).c0
  have p1 := fun o => (o1.next (newB w1 o)).c1
  have p2 := fun o => (o1.next (newB w1 o)).c2
  have p3 := fun o => (o1.next (newB w1 o)).c3
  clear o1 l1 hb1
  generalize hA : ((a * 256 + k : Nat) : Int) = A
  go_wp2_with fail
  refine (rLaid_any s k a b c _ hk ha hb hc).mono ?_
  rintro e w2 ⟨rfl, hb2⟩
  rw [show laidV s k a b c = .agg #[.int .u64 s, .int .u64 ((a * 256 + k : Nat) : Int), .int .u64 b, .int .u64 c] from rfl, hA]
  clear p0 p1 p2 p3
  have m2 := (B4.new w1 (.int .u64 s) (.int .u64 A) (.int .u64 b) (.int .u64 c) 27).next hb2
  have l2 := (L1.out.next (newB w1 _)).next hb2
  have HB2 := Lib.hid (keepB hb2 (keepB (newB w1 _) HB1.out))
  have M2 := Lib.hid m2; have L2 := Lib.hid l2
  have p0 := fun o => (l2.next (newB w2 o)).c0
  have p1 := fun o => (l2.next (newB w2 o)).c1
  have p2 := fun o => (l2.next (newB w2 o)).c2
  have p3 := fun o => (l2.next (newB w2 o)).c3
  clear m2 l2 hb2 O1 L1 HB1
  go_wp2_with fail
  refine (Of_any t x y z _ hx).mono ?_
  rintro e w3 ⟨rfl, hb3⟩
  rw [show ofV t x y z = .tuple #[.int .u64 t, .agg #[.int .u8 ((x % 256 : Nat) : Int), .int .u32 ((x / 256 % 4294967296 : Nat) : Int), .int .u32 ((y % 4294967296 : Nat) : Int), .int .u32 ((z % 4294967296 : Nat) : Int)]] from rfl]
  clear p0 p1 p2 p3
  have m3 := (M2.out.next (newB w2 (.cells #[.int .u64 s, .int .u64 A, .int .u64 b, .int .u64 c] 27))).next hb3
  have n3 := (B4.new w2 (.int .u64 s) (.int .u64 A) (.int .u64 b) (.int .u64 c) 27).next hb3
  have l3 := (L2.out.next (newB w2 _)).next hb3
  have HB3 := Lib.hid (keepB hb3 (keepB (newB w2 _) HB2.out))
  have M3 := Lib.hid m3; have N3 := Lib.hid n3
  have p0 := fun o => (l3.next (newB w3 o)).c0
  have p1 := fun o => (l3.next (newB w3 o)).c1
  have p2 := fun o => (l3.next (newB w3 o)).c2
  have p3 := fun o => (l3.next (newB w3 o)).c3
  clear m3 n3 l3 hb3 M2 L2 HB2
  generalize hQ0 : ((x % 256 : Nat) : Int) = Q0
  generalize hQ1 : ((x / 256 % 4294967296 : Nat) : Int) = Q1
  generalize hQ2 : ((y % 4294967296 : Nat) : Int) = Q2
  generalize hQ3 : ((z % 4294967296 : Nat) : Int) = Q3
  go_wp2_with fail
  refine (rOf_any t x y z _ hx).mono ?_
  rintro e w4 ⟨rfl, hb4⟩
  rw [show ofV t x y z = .tuple #[.int .u64 t, .agg #[.int .u8 ((x % 256 : Nat) : Int), .int .u32 ((x / 256 % 4294967296 : Nat) : Int), .int .u32 ((y % 4294967296 : Nat) : Int), .int .u32 ((z % 4294967296 : Nat) : Int)]] from rfl, hQ0, hQ1, hQ2, hQ3]
  clear p0 p1 p2 p3
  have m4 := (M3.out.next (newB w3 (.cells #[.int .u8 Q0, .int .u32 Q1, .int .u32 Q2, .int .u32 Q3] 25))).next hb4
  have n4 := (N3.out.next (newB w3 (.cells #[.int .u8 Q0, .int .u32 Q1, .int .u32 Q2, .int .u32 Q3] 25))).next hb4
  have u4 := (B4.new w3 (.int .u8 Q0) (.int .u32 Q1) (.int .u32 Q2) (.int .u32 Q3) 25).next hb4
  have HB4 := Lib.hid (keepB hb4 (keepB (newB w3 _) HB3.out))
  have p0 := fun o => (m4.next (newB w4 o)).c0
  have p1 := fun o => (m4.next (newB w4 o)).c1
  have p2 := fun o => (m4.next (newB w4 o)).c2
  have p3 := fun o => (m4.next (newB w4 o)).c3
  have q0 := fun o => (n4.next (newB w4 o)).c0
  have q1 := fun o => (n4.next (newB w4 o)).c1
  have q2 := fun o => (n4.next (newB w4 o)).c2
  have q3 := fun o => (n4.next (newB w4 o)).c3
  have v0 := fun o => (u4.next (newB w4 o)).c0
  have v1 := fun o => (u4.next (newB w4 o)).c1
  have v2 := fun o => (u4.next (newB w4 o)).c2
  have v3 := fun o => (u4.next (newB w4 o)).c3
  clear m4 n4 u4 hb4 M3 N3 HB3 hQ0 hQ1 hQ2 hQ3 hA
  go_wp2_with fail
  go_ret
  exact ⟨rfl, keepB (newB w4 _) HB4.out⟩

end Go.Proofs.Ytoamhkgnnjoaaaa
