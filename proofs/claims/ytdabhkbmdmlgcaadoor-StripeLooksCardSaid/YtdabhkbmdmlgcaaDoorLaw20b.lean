/- The walk of StripeLooks. -/
import Derived.Test.YtdabhkbmdmlgcaaDoorStripeS
namespace Go.Proofs.YtdabhkbmdmlgcaaDoor
open Go.RowKit

theorem ssR_form (c : Cfg) (tg i sm la : Int) : ∃ p q S b e, ssR c tg i sm la = .tuple #[.agg #[.int .u64 p, .int .i64 q, .int .u64 S], .bool b, .int .i64 e] := by
  unfold ssR
  split
  · split
    · split
      · exact ⟨_, _, _, _, _, rfl⟩
      · split
        · exact ⟨_, _, _, _, _, rfl⟩
        · exact ⟨_, _, _, _, _, rfl⟩
    · exact ⟨_, _, _, _, _, rfl⟩
  · exact ⟨_, _, _, _, _, rfl⟩


set_option maxRecDepth 100000 in
set_option maxHeartbeats 6400000 in
theorem slooks_walk (c : Cfg) (v tg t sm l0 la l2 l3 : Int) (w : World) (hk : 0 ≤ c.most) (hp : Pw w) (ht : t ≤ 9223372036854775807) :
    Calls Tryd.prog 7 #[.agg #[.int .u8 c.ob, .int .i64 c.inst, .int .i64 c.thr, .int .u8 c.kd, .int .i64 c.str, .int .i64 c.bits, .int .i64 c.cap, .int .i64 c.node, .int .i64 c.bat, .int .i64 c.chk, .int .u64 c.lim, .int .u64 c.most], .int .i64 v, .agg ⟨[.int .u64 tg, .int .i64 t, .int .u64 sm]⟩, .agg ⟨[.int .u64 l0, .int .u64 la, .int .u64 l2, .int .u64 l3]⟩] w fun e w' => e = .returned (.bool true) ∧ Below w.heap.size w w' := by
  have HKK := Lib.hid hk; have HP := Lib.hid hp; have HT := Lib.hid ht
  clear hk hp ht
  go_enter Tryd.func7, Tryd.ntmps7
  go_wp2_with fail
  have HX := Lib.hid (((Box.new w 24 (cfgL c)).alloc (.cells ⟨[.int .u64 tg, .int .i64 t, .int .u64 sm]⟩ 36)).alloc (.cells ⟨[.int .u64 l0, .int .u64 la, .int .u64 l2, .int .u64 l3]⟩ 26))
  have hk := (Box.new (w.alloc (.cells ⟨cfgL c⟩ 24)) 36 [.int .u64 tg, .int .i64 t, .int .u64 sm]).alloc (.cells ⟨[.int .u64 l0, .int .u64 la, .int .u64 l2, .int .u64 l3]⟩ 26)
  have hl := Box.new ((w.alloc (.cells ⟨cfgL c⟩ 24)).alloc (.cells ⟨[.int .u64 tg, .int .i64 t, .int .u64 sm]⟩ 36)) 26 [.int .u64 l0, .int .u64 la, .int .u64 l2, .int .u64 l3]
  have HB := Lib.hid (moreB (moreB (newB w (.cells ⟨cfgL c⟩ 24)) (.cells ⟨[.int .u64 tg, .int .i64 t, .int .u64 sm]⟩ 36)) (.cells ⟨[.int .u64 l0, .int .u64 la, .int .u64 l2, .int .u64 l3]⟩ 26))
  simp only [World.size_alloc] at hk hl
  have HK := Lib.hid hk; have HL := Lib.hid hl
  clear hk hl
  unfold cfgL at *
  generalize ((w.alloc _).alloc _).alloc _ = V at *
  refine (sLook_any c v tg t sm V (HP.out.more HB.out) HT.out).mono ?_
  rintro e w1 ⟨rfl, hb⟩
  generalize hq1 : lkA c v t = p
  generalize hq2 : lkE c v t = E
  have HQ1 := Lib.hid hq1; have HQ2 := Lib.hid hq2
  clear hq1 hq2
  rw [accV_form]
  have HK := Lib.hid (HK.out.below hb); have HL := Lib.hid (HL.out.below hb)
  have HB := Lib.hid (keepB hb HB.out); have HX := Lib.hid (HX.out.below hb); clear hb
  have x0 := fun o => (HX.out.alloc o).c 0 rfl; have x1 := fun o => (HX.out.alloc o).c 1 rfl; have x2 := fun o => (HX.out.alloc o).c 2 rfl; have x3 := fun o => (HX.out.alloc o).c 3 rfl; have x4 := fun o => (HX.out.alloc o).c 4 rfl; have x5 := fun o => (HX.out.alloc o).c 5 rfl; have x6 := fun o => (HX.out.alloc o).c 6 rfl; have x7 := fun o => (HX.out.alloc o).c 7 rfl; have x8 := fun o => (HX.out.alloc o).c 8 rfl; have x9 := fun o => (HX.out.alloc o).c 9 rfl; have x10 := fun o => (HX.out.alloc o).c 10 rfl; have x11 := fun o => (HX.out.alloc o).c 11 rfl
  have k0 := fun o => (HK.out.alloc o).c 0 rfl; have k1 := fun o => (HK.out.alloc o).c 1 rfl; have k2 := fun o => (HK.out.alloc o).c 2 rfl
  go_wp2_with fail
  refine (rsLook_any c v tg t sm _ HKK.out).mono ?_
  rintro e w2 ⟨rfl, hb⟩
  rw [HQ1.out, HQ2.out, accV_form]
  have HA := Lib.hid ((Box.new w1 28 [.int .u8 p.k, .int .i64 p.at', .int .u64 p.old.t, .int .u64 p.old.a, .int .u64 p.old.b, .int .u64 p.old.c, .int .u64 p.new.t, .int .u64 p.new.a, .int .u64 p.new.b, .int .u64 p.new.c]).below hb)
  clear x0 x1 x2 x3 x4 x5 x6 x7 x8 x9 x10 x11
  clear k0 k1 k2
  have HK := Lib.hid ((HK.out.alloc _).below hb); have HL := Lib.hid ((HL.out.alloc _).below hb)
  have HB := Lib.hid (keepB hb (moreB HB.out _)); have HX := Lib.hid ((HX.out.alloc _).below hb)
  clear hb
  have x0 := fun o => (HX.out.alloc o).c 0 rfl; have x1 := fun o => (HX.out.alloc o).c 1 rfl; have x2 := fun o => (HX.out.alloc o).c 2 rfl; have x3 := fun o => (HX.out.alloc o).c 3 rfl; have x4 := fun o => (HX.out.alloc o).c 4 rfl; have x5 := fun o => (HX.out.alloc o).c 5 rfl; have x6 := fun o => (HX.out.alloc o).c 6 rfl; have x7 := fun o => (HX.out.alloc o).c 7 rfl; have x8 := fun o => (HX.out.alloc o).c 8 rfl; have x9 := fun o => (HX.out.alloc o).c 9 rfl; have x10 := fun o => (HX.out.alloc o).c 10 rfl; have x11 := fun o => (HX.out.alloc o).c 11 rfl
  have k0 := fun o => (HK.out.alloc o).c 0 rfl; have k1 := fun o => (HK.out.alloc o).c 1 rfl; have k2 := fun o => (HK.out.alloc o).c 2 rfl
  have l0' := fun o => (HL.out.alloc o).c 0 rfl; have l1' := fun o => (HL.out.alloc o).c 1 rfl; have l2' := fun o => (HL.out.alloc o).c 2 rfl; have l3' := fun o => (HL.out.alloc o).c 3 rfl
  go_wp2_with fail
  refine (sSeen_any c tg t sm l0 la l2 l3 _ HT.out).mono ?_
  rintro e w3 ⟨rfl, hb⟩
  obtain ⟨x, y, S, b, E', hS⟩ := ssR_form c tg t sm la
  rw [hS]
  have HS := Lib.hid hS
  clear hS
  have HA := Lib.hid ((HA.out.alloc (.cells ⟨[.int .u8 p.k, .int .i64 p.at', .int .u64 p.old.t, .int .u64 p.old.a, .int .u64 p.old.b, .int .u64 p.old.c, .int .u64 p.new.t, .int .u64 p.new.a, .int .u64 p.new.b, .int .u64 p.new.c]⟩ 28)).below hb)
  have HC := Lib.hid ((Box.new w2 28 [.int .u8 p.k, .int .i64 p.at', .int .u64 p.old.t, .int .u64 p.old.a, .int .u64 p.old.b, .int .u64 p.old.c, .int .u64 p.new.t, .int .u64 p.new.a, .int .u64 p.new.b, .int .u64 p.new.c]).below hb)
  clear x0 x1 x2 x3 x4 x5 x6 x7 x8 x9 x10 x11
  clear k0 k1 k2 l0' l1' l2' l3'
  have HK := Lib.hid ((HK.out.alloc _).below hb); have HL := Lib.hid ((HL.out.alloc _).below hb)
  have HB := Lib.hid (keepB hb (moreB HB.out _)); have HX := Lib.hid ((HX.out.alloc _).below hb)
  clear hb
  have x0 := fun o => (HX.out.alloc o).c 0 rfl; have x1 := fun o => (HX.out.alloc o).c 1 rfl; have x2 := fun o => (HX.out.alloc o).c 2 rfl; have x3 := fun o => (HX.out.alloc o).c 3 rfl; have x4 := fun o => (HX.out.alloc o).c 4 rfl; have x5 := fun o => (HX.out.alloc o).c 5 rfl; have x6 := fun o => (HX.out.alloc o).c 6 rfl; have x7 := fun o => (HX.out.alloc o).c 7 rfl; have x8 := fun o => (HX.out.alloc o).c 8 rfl; have x9 := fun o => (HX.out.alloc o).c 9 rfl; have x10 := fun o => (HX.out.alloc o).c 10 rfl; have x11 := fun o => (HX.out.alloc o).c 11 rfl
  have k0 := fun o => (HK.out.alloc o).c 0 rfl; have k1 := fun o => (HK.out.alloc o).c 1 rfl; have k2 := fun o => (HK.out.alloc o).c 2 rfl
  have l0' := fun o => (HL.out.alloc o).c 0 rfl; have l1' := fun o => (HL.out.alloc o).c 1 rfl; have l2' := fun o => (HL.out.alloc o).c 2 rfl; have l3' := fun o => (HL.out.alloc o).c 3 rfl
  go_wp2_with fail
  refine (rsSeen_any c tg t sm l0 la l2 l3 _ HKK.out).mono ?_
  rintro e w4 ⟨rfl, hb⟩
  rw [HS.out]
  have HA := Lib.hid ((HA.out.alloc (.cells #[.int .u64 x, .int .i64 y, .int .u64 S] 36)).below hb)
  have HC := Lib.hid ((HC.out.alloc (.cells #[.int .u64 x, .int .i64 y, .int .u64 S] 36)).below hb)
  have HD := Lib.hid ((Box.new w3 36 [.int .u64 x, .int .i64 y, .int .u64 S]).below hb)
  clear x0 x1 x2 x3 x4 x5 x6 x7 x8 x9 x10 x11
  clear k0 k1 k2 l0' l1' l2' l3'
  have HB := Lib.hid (keepB hb (moreB HB.out _)); have HX := Lib.hid ((HX.out.alloc _).below hb)
  clear hb
  have a0 := fun o => (HA.out.alloc o).c 0 rfl
  have a1 := fun o => (HA.out.alloc o).c 1 rfl
  have a2 := fun o => (HA.out.alloc o).c 2 rfl
  have a3 := fun o => (HA.out.alloc o).c 3 rfl
  have a4 := fun o => (HA.out.alloc o).c 4 rfl
  have a5 := fun o => (HA.out.alloc o).c 5 rfl
  have a6 := fun o => (HA.out.alloc o).c 6 rfl
  have a7 := fun o => (HA.out.alloc o).c 7 rfl
  have a8 := fun o => (HA.out.alloc o).c 8 rfl
  have a9 := fun o => (HA.out.alloc o).c 9 rfl
  have c0 := fun o => (HC.out.alloc o).c 0 rfl
  have c1 := fun o => (HC.out.alloc o).c 1 rfl
  have c2 := fun o => (HC.out.alloc o).c 2 rfl
  have c3 := fun o => (HC.out.alloc o).c 3 rfl
  have c4 := fun o => (HC.out.alloc o).c 4 rfl
  have c5 := fun o => (HC.out.alloc o).c 5 rfl
  have c6 := fun o => (HC.out.alloc o).c 6 rfl
  have c7 := fun o => (HC.out.alloc o).c 7 rfl
  have c8 := fun o => (HC.out.alloc o).c 8 rfl
  have c9 := fun o => (HC.out.alloc o).c 9 rfl
  have d0 := fun o => (HD.out.alloc o).c 0 rfl
  have d1 := fun o => (HD.out.alloc o).c 1 rfl
  have d2 := fun o => (HD.out.alloc o).c 2 rfl
  go_wp2_with fail
  go_ret
  exact ⟨rfl, moreB HB.out _⟩

set_option linter.unusedVariables false in
theorem walk_StripeLooks (n0_0 n0_1 n0_2 n0_3 n0_4 n0_5 n0_6 n0_7 n0_8 n0_9 n0_10 n0_11 n1 n2_0 n2_1 n2_2 n3_0 n3_1 n3_2 n3_3 : Int) (w : World) (b0_0 : IntKind.u8.min ≤ n0_0 ∧ n0_0 ≤ IntKind.u8.max) (b0_1 : IntKind.i64.min ≤ n0_1 ∧ n0_1 ≤ IntKind.i64.max) (b0_2 : IntKind.i64.min ≤ n0_2 ∧ n0_2 ≤ IntKind.i64.max) (b0_3 : IntKind.u8.min ≤ n0_3 ∧ n0_3 ≤ IntKind.u8.max) (b0_4 : IntKind.i64.min ≤ n0_4 ∧ n0_4 ≤ IntKind.i64.max) (b0_5 : IntKind.i64.min ≤ n0_5 ∧ n0_5 ≤ IntKind.i64.max) (b0_6 : IntKind.i64.min ≤ n0_6 ∧ n0_6 ≤ IntKind.i64.max) (b0_7 : IntKind.i64.min ≤ n0_7 ∧ n0_7 ≤ IntKind.i64.max) (b0_8 : IntKind.i64.min ≤ n0_8 ∧ n0_8 ≤ IntKind.i64.max) (b0_9 : IntKind.i64.min ≤ n0_9 ∧ n0_9 ≤ IntKind.i64.max) (b0_10 : IntKind.u64.min ≤ n0_10 ∧ n0_10 ≤ IntKind.u64.max) (b0_11 : IntKind.u64.min ≤ n0_11 ∧ n0_11 ≤ IntKind.u64.max) (b1 : IntKind.i64.min ≤ n1 ∧ n1 ≤ IntKind.i64.max) (b2_0 : IntKind.u64.min ≤ n2_0 ∧ n2_0 ≤ IntKind.u64.max) (b2_1 : IntKind.i64.min ≤ n2_1 ∧ n2_1 ≤ IntKind.i64.max) (b2_2 : IntKind.u64.min ≤ n2_2 ∧ n2_2 ≤ IntKind.u64.max)
    (b3_0 : IntKind.u64.min ≤ n3_0 ∧ n3_0 ≤ IntKind.u64.max) (b3_1 : IntKind.u64.min ≤ n3_1 ∧ n3_1 ≤ IntKind.u64.max) (b3_2 : IntKind.u64.min ≤ n3_2 ∧ n3_2 ≤ IntKind.u64.max) (b3_3 : IntKind.u64.min ≤ n3_3 ∧ n3_3 ≤ IntKind.u64.max) (hp : Pw w) :
    Calls Tryd.prog 7 #[.agg #[.int .u8 n0_0, .int .i64 n0_1, .int .i64 n0_2, .int .u8 n0_3, .int .i64 n0_4, .int .i64 n0_5, .int .i64 n0_6, .int .i64 n0_7, .int .i64 n0_8, .int .i64 n0_9, .int .u64 n0_10, .int .u64 n0_11], .int .i64 n1, .agg #[.int .u64 n2_0, .int .i64 n2_1, .int .u64 n2_2], .agg #[.int .u64 n3_0, .int .u64 n3_1, .int .u64 n3_2, .int .u64 n3_3]] w fun e w' => e = .returned (.bool true) ∧ Below w.heap.size w w' := by
  simp [IntKind.min, IntKind.max, IntKind.signed, IntKind.bits] at b0_11 b2_1
  exact slooks_walk ⟨n0_0, n0_1, n0_2, n0_3, n0_4, n0_5, n0_6, n0_7, n0_8, n0_9, n0_10, n0_11⟩ n1 n2_0 n2_1 n2_2 n3_0 n3_1 n3_2 n3_3 w b0_11.1 hp b2_1.2

end Go.Proofs.YtdabhkbmdmlgcaaDoor
