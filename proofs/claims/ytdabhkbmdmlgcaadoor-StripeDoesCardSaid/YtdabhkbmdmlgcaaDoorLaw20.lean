/- The walk of StripeDoes. -/
import Derived.Test.YtdabhkbmdmlgcaaDoorStripeS
namespace Go.Proofs.YtdabhkbmdmlgcaaDoor
open Go.RowKit


set_option maxRecDepth 100000 in
set_option maxHeartbeats 6400000 in
theorem sdoes_walk (c : Cfg) (v t l0 la l2 l3 : Int) (w : World) (hk : 0 ≤ c.most) (hp : Pw w) :
    Calls Tryd.prog 6 #[.agg #[.int .u8 c.ob, .int .i64 c.inst, .int .i64 c.thr, .int .u8 c.kd, .int .i64 c.str, .int .i64 c.bits, .int .i64 c.cap, .int .i64 c.node, .int .i64 c.bat, .int .i64 c.chk, .int .u64 c.lim, .int .u64 c.most], .int .i64 v, .int .i64 t, .agg ⟨[.int .u64 l0, .int .u64 la, .int .u64 l2, .int .u64 l3]⟩] w fun e w' => e = .returned (.bool true) ∧ Below w.heap.size w w' := by
  have HK := Lib.hid hk; have HP := Lib.hid hp
  clear hk hp
  go_enter Tryd.func6, Tryd.ntmps6
  go_wp2_with fail
  have HX := Lib.hid ((Box.new w 24 (cfgL c)).alloc (.cells ⟨[.int .u64 l0, .int .u64 la, .int .u64 l2, .int .u64 l3]⟩ 26))
  have hl := Box.new (w.alloc (.cells ⟨cfgL c⟩ 24)) 26 [.int .u64 l0, .int .u64 la, .int .u64 l2, .int .u64 l3]
  have HB := Lib.hid (moreB (newB w (.cells ⟨cfgL c⟩ 24)) (.cells ⟨[.int .u64 l0, .int .u64 la, .int .u64 l2, .int .u64 l3]⟩ 26))
  simp only [World.size_alloc] at hl
  have HL := Lib.hid hl
  clear hl
  unfold cfgL at *
  generalize (w.alloc _).alloc _ = V at *
  refine (sArrive_any c v t V (HP.out.more HB.out)).mono ?_
  rintro e w1 ⟨rfl, hb⟩
  generalize hq1 : stA c (sideK 1) v t = p
  generalize hq2 : stE c v t = E
  have HQ1 := Lib.hid hq1; have HQ2 := Lib.hid hq2
  clear hq1 hq2
  rw [accV_form]
  have HL := Lib.hid (HL.out.below hb)
  have HB := Lib.hid (keepB hb HB.out); have HX := Lib.hid (HX.out.below hb); clear hb
  have x0 := fun o => (HX.out.alloc o).c 0 rfl; have x1 := fun o => (HX.out.alloc o).c 1 rfl; have x2 := fun o => (HX.out.alloc o).c 2 rfl; have x3 := fun o => (HX.out.alloc o).c 3 rfl; have x4 := fun o => (HX.out.alloc o).c 4 rfl; have x5 := fun o => (HX.out.alloc o).c 5 rfl; have x6 := fun o => (HX.out.alloc o).c 6 rfl; have x7 := fun o => (HX.out.alloc o).c 7 rfl; have x8 := fun o => (HX.out.alloc o).c 8 rfl; have x9 := fun o => (HX.out.alloc o).c 9 rfl; have x10 := fun o => (HX.out.alloc o).c 10 rfl; have x11 := fun o => (HX.out.alloc o).c 11 rfl
  go_wp2_with fail
  refine (rsArrive_any c v t _ HK.out).mono ?_
  rintro e w2 ⟨rfl, hb⟩
  rw [show stA c 7 v t = p from HQ1.out, HQ2.out, accV_form]
  have HA := Lib.hid ((Box.new w1 28 [.int .u8 p.k, .int .i64 p.at', .int .u64 p.old.t, .int .u64 p.old.a, .int .u64 p.old.b, .int .u64 p.old.c, .int .u64 p.new.t, .int .u64 p.new.a, .int .u64 p.new.b, .int .u64 p.new.c]).below hb)
  clear x0 x1 x2 x3 x4 x5 x6 x7 x8 x9 x10 x11
  have HL := Lib.hid ((HL.out.alloc _).below hb)
  have HB := Lib.hid (keepB hb (moreB HB.out _)); have HX := Lib.hid ((HX.out.alloc _).below hb)
  clear hb
  have x0 := fun o => (HX.out.alloc o).c 0 rfl; have x1 := fun o => (HX.out.alloc o).c 1 rfl; have x2 := fun o => (HX.out.alloc o).c 2 rfl; have x3 := fun o => (HX.out.alloc o).c 3 rfl; have x4 := fun o => (HX.out.alloc o).c 4 rfl; have x5 := fun o => (HX.out.alloc o).c 5 rfl; have x6 := fun o => (HX.out.alloc o).c 6 rfl; have x7 := fun o => (HX.out.alloc o).c 7 rfl; have x8 := fun o => (HX.out.alloc o).c 8 rfl; have x9 := fun o => (HX.out.alloc o).c 9 rfl; have x10 := fun o => (HX.out.alloc o).c 10 rfl; have x11 := fun o => (HX.out.alloc o).c 11 rfl
  go_wp2_with fail
  refine (sDepart_any c v t _ (HP.out.more (moreB HB.out _))).mono ?_
  rintro e w3 ⟨rfl, hb⟩
  generalize hq1 : stA c (sideK 0) v t = p'
  have HQ3 := Lib.hid hq1
  clear hq1
  rw [HQ2.out, accV_form]
  have HA := Lib.hid ((HA.out.alloc (.cells ⟨[.int .u8 p.k, .int .i64 p.at', .int .u64 p.old.t, .int .u64 p.old.a, .int .u64 p.old.b, .int .u64 p.old.c, .int .u64 p.new.t, .int .u64 p.new.a, .int .u64 p.new.b, .int .u64 p.new.c]⟩ 28)).below hb)
  have HC := Lib.hid ((Box.new w2 28 [.int .u8 p.k, .int .i64 p.at', .int .u64 p.old.t, .int .u64 p.old.a, .int .u64 p.old.b, .int .u64 p.old.c, .int .u64 p.new.t, .int .u64 p.new.a, .int .u64 p.new.b, .int .u64 p.new.c]).below hb)
  clear x0 x1 x2 x3 x4 x5 x6 x7 x8 x9 x10 x11
  have HL := Lib.hid ((HL.out.alloc _).below hb)
  have HB := Lib.hid (keepB hb (moreB HB.out _)); have HX := Lib.hid ((HX.out.alloc _).below hb)
  clear hb
  have x0 := fun o => (HX.out.alloc o).c 0 rfl; have x1 := fun o => (HX.out.alloc o).c 1 rfl; have x2 := fun o => (HX.out.alloc o).c 2 rfl; have x3 := fun o => (HX.out.alloc o).c 3 rfl; have x4 := fun o => (HX.out.alloc o).c 4 rfl; have x5 := fun o => (HX.out.alloc o).c 5 rfl; have x6 := fun o => (HX.out.alloc o).c 6 rfl; have x7 := fun o => (HX.out.alloc o).c 7 rfl; have x8 := fun o => (HX.out.alloc o).c 8 rfl; have x9 := fun o => (HX.out.alloc o).c 9 rfl; have x10 := fun o => (HX.out.alloc o).c 10 rfl; have x11 := fun o => (HX.out.alloc o).c 11 rfl
  go_wp2_with fail
  refine (rsDepart_any c v t _ HK.out).mono ?_
  rintro e w4 ⟨rfl, hb⟩
  rw [show stA c 8 v t = p' from HQ3.out, HQ2.out, accV_form]
  have HA := Lib.hid ((HA.out.alloc (.cells ⟨[.int .u8 p'.k, .int .i64 p'.at', .int .u64 p'.old.t, .int .u64 p'.old.a, .int .u64 p'.old.b, .int .u64 p'.old.c, .int .u64 p'.new.t, .int .u64 p'.new.a, .int .u64 p'.new.b, .int .u64 p'.new.c]⟩ 28)).below hb)
  have HC := Lib.hid ((HC.out.alloc (.cells ⟨[.int .u8 p'.k, .int .i64 p'.at', .int .u64 p'.old.t, .int .u64 p'.old.a, .int .u64 p'.old.b, .int .u64 p'.old.c, .int .u64 p'.new.t, .int .u64 p'.new.a, .int .u64 p'.new.b, .int .u64 p'.new.c]⟩ 28)).below hb)
  have HD := Lib.hid ((Box.new w3 28 [.int .u8 p'.k, .int .i64 p'.at', .int .u64 p'.old.t, .int .u64 p'.old.a, .int .u64 p'.old.b, .int .u64 p'.old.c, .int .u64 p'.new.t, .int .u64 p'.new.a, .int .u64 p'.new.b, .int .u64 p'.new.c]).below hb)
  clear x0 x1 x2 x3 x4 x5 x6 x7 x8 x9 x10 x11
  have hb4 := hb
  have HB := Lib.hid (keepB hb (moreB HB.out _)); have HX := Lib.hid ((HX.out.alloc _).below hb)
  have HL := Lib.hid ((HL.out.alloc _).below hb4)
  clear hb4
  have x0 := fun o => (HX.out.alloc o).c 0 rfl; have x1 := fun o => (HX.out.alloc o).c 1 rfl; have x2 := fun o => (HX.out.alloc o).c 2 rfl; have x3 := fun o => (HX.out.alloc o).c 3 rfl; have x4 := fun o => (HX.out.alloc o).c 4 rfl; have x5 := fun o => (HX.out.alloc o).c 5 rfl; have x6 := fun o => (HX.out.alloc o).c 6 rfl; have x7 := fun o => (HX.out.alloc o).c 7 rfl; have x8 := fun o => (HX.out.alloc o).c 8 rfl; have x9 := fun o => (HX.out.alloc o).c 9 rfl; have x10 := fun o => (HX.out.alloc o).c 10 rfl; have x11 := fun o => (HX.out.alloc o).c 11 rfl
  have l0' := fun o => (HL.out.alloc o).c 0 rfl; have l1' := fun o => (HL.out.alloc o).c 1 rfl; have l2' := fun o => (HL.out.alloc o).c 2 rfl; have l3' := fun o => (HL.out.alloc o).c 3 rfl
  go_wp2_with fail
  have HE := Lib.hid (Box.new w4 28 [.int .u8 p'.k, .int .i64 p'.at', .int .u64 p'.old.t, .int .u64 p'.old.a, .int .u64 p'.old.b, .int .u64 p'.old.c, .int .u64 p'.new.t, .int .u64 p'.new.a, .int .u64 p'.new.b, .int .u64 p'.new.c])
  have HA := Lib.hid (HA.out.alloc (.cells ⟨[.int .u8 p'.k, .int .i64 p'.at', .int .u64 p'.old.t, .int .u64 p'.old.a, .int .u64 p'.old.b, .int .u64 p'.old.c, .int .u64 p'.new.t, .int .u64 p'.new.a, .int .u64 p'.new.b, .int .u64 p'.new.c]⟩ 28)); have HC := Lib.hid (HC.out.alloc (.cells ⟨[.int .u8 p'.k, .int .i64 p'.at', .int .u64 p'.old.t, .int .u64 p'.old.a, .int .u64 p'.old.b, .int .u64 p'.old.c, .int .u64 p'.new.t, .int .u64 p'.new.a, .int .u64 p'.new.b, .int .u64 p'.new.c]⟩ 28)); have HD := Lib.hid (HD.out.alloc (.cells ⟨[.int .u8 p'.k, .int .i64 p'.at', .int .u64 p'.old.t, .int .u64 p'.old.a, .int .u64 p'.old.b, .int .u64 p'.old.c, .int .u64 p'.new.t, .int .u64 p'.new.a, .int .u64 p'.new.b, .int .u64 p'.new.c]⟩ 28))
  have HX := Lib.hid (HX.out.alloc (.cells ⟨[.int .u8 p'.k, .int .i64 p'.at', .int .u64 p'.old.t, .int .u64 p'.old.a, .int .u64 p'.old.b, .int .u64 p'.old.c, .int .u64 p'.new.t, .int .u64 p'.new.a, .int .u64 p'.new.b, .int .u64 p'.new.c]⟩ 28)); have HL := Lib.hid (HL.out.alloc (.cells ⟨[.int .u8 p'.k, .int .i64 p'.at', .int .u64 p'.old.t, .int .u64 p'.old.a, .int .u64 p'.old.b, .int .u64 p'.old.c, .int .u64 p'.new.t, .int .u64 p'.new.a, .int .u64 p'.new.b, .int .u64 p'.new.c]⟩ 28))
  have HB := Lib.hid (moreB HB.out (.cells ⟨[.int .u8 p'.k, .int .i64 p'.at', .int .u64 p'.old.t, .int .u64 p'.old.a, .int .u64 p'.old.b, .int .u64 p'.old.c, .int .u64 p'.new.t, .int .u64 p'.new.a, .int .u64 p'.new.b, .int .u64 p'.new.c]⟩ 28))
  clear x0 x1 x2 x3 x4 x5 x6 x7 x8 x9 x10 x11
  clear l0' l1' l2' l3'
  generalize w4.alloc _ = V4 at *
  refine (sFull_any c l0 la l2 l3 V4).mono ?_
  rintro e w5 ⟨rfl, hb⟩
  generalize hq3 : fullB c la = Q
  generalize hq4 : fullE c = E5
  have HQ5 := Lib.hid hq3; have HQ6 := Lib.hid hq4
  clear hq3 hq4
  have HA := Lib.hid (HA.out.below hb); have HC := Lib.hid (HC.out.below hb); have HD := Lib.hid (HD.out.below hb); have HE := Lib.hid (HE.out.below hb); have HL := Lib.hid (HL.out.below hb)
  have HB := Lib.hid (keepB hb HB.out); have HX := Lib.hid (HX.out.below hb); clear hb
  have x0 := HX.out.c 0 rfl; have x1 := HX.out.c 1 rfl; have x2 := HX.out.c 2 rfl; have x3 := HX.out.c 3 rfl; have x4 := HX.out.c 4 rfl; have x5 := HX.out.c 5 rfl; have x6 := HX.out.c 6 rfl; have x7 := HX.out.c 7 rfl; have x8 := HX.out.c 8 rfl; have x9 := HX.out.c 9 rfl; have x10 := HX.out.c 10 rfl; have x11 := HX.out.c 11 rfl
  have l0' := HL.out.c 0 rfl
  have l1' := HL.out.c 1 rfl
  have l2' := HL.out.c 2 rfl
  have l3' := HL.out.c 3 rfl
  go_wp2_with fail
  refine (rsFull_any c l0 la l2 l3 _ HK.out).mono ?_
  rintro e w6 ⟨rfl, hb⟩
  rw [HQ5.out, HQ6.out]
  have HA := Lib.hid (HA.out.below hb); have HC := Lib.hid (HC.out.below hb); have HD := Lib.hid (HD.out.below hb); have HE := Lib.hid (HE.out.below hb)
  clear x0 x1 x2 x3 x4 x5 x6 x7 x8 x9 x10 x11
  clear l0' l1' l2' l3'
  have HB := Lib.hid (keepB hb HB.out)
  clear hb
  have a0 := HA.out.c 0 rfl
  have a1 := HA.out.c 1 rfl
  have a2 := HA.out.c 2 rfl
  have a3 := HA.out.c 3 rfl
  have a4 := HA.out.c 4 rfl
  have a5 := HA.out.c 5 rfl
  have a6 := HA.out.c 6 rfl
  have a7 := HA.out.c 7 rfl
  have a8 := HA.out.c 8 rfl
  have a9 := HA.out.c 9 rfl
  have c0 := HC.out.c 0 rfl
  have c1 := HC.out.c 1 rfl
  have c2 := HC.out.c 2 rfl
  have c3 := HC.out.c 3 rfl
  have c4 := HC.out.c 4 rfl
  have c5 := HC.out.c 5 rfl
  have c6 := HC.out.c 6 rfl
  have c7 := HC.out.c 7 rfl
  have c8 := HC.out.c 8 rfl
  have c9 := HC.out.c 9 rfl
  have d0 := HD.out.c 0 rfl
  have d1 := HD.out.c 1 rfl
  have d2 := HD.out.c 2 rfl
  have d3 := HD.out.c 3 rfl
  have d4 := HD.out.c 4 rfl
  have d5 := HD.out.c 5 rfl
  have d6 := HD.out.c 6 rfl
  have d7 := HD.out.c 7 rfl
  have d8 := HD.out.c 8 rfl
  have d9 := HD.out.c 9 rfl
  have e0 := HE.out.c 0 rfl
  have e1 := HE.out.c 1 rfl
  have e2 := HE.out.c 2 rfl
  have e3 := HE.out.c 3 rfl
  have e4 := HE.out.c 4 rfl
  have e5 := HE.out.c 5 rfl
  have e6 := HE.out.c 6 rfl
  have e7 := HE.out.c 7 rfl
  have e8 := HE.out.c 8 rfl
  have e9 := HE.out.c 9 rfl
  go_wp2_with fail
  go_ret
  exact ⟨rfl, HB.out⟩

set_option linter.unusedVariables false in
theorem walk_StripeDoes (n0_0 n0_1 n0_2 n0_3 n0_4 n0_5 n0_6 n0_7 n0_8 n0_9 n0_10 n0_11 n1 n2 n3_0 n3_1 n3_2 n3_3 : Int) (w : World) (b0_0 : IntKind.u8.min ≤ n0_0 ∧ n0_0 ≤ IntKind.u8.max) (b0_1 : IntKind.i64.min ≤ n0_1 ∧ n0_1 ≤ IntKind.i64.max) (b0_2 : IntKind.i64.min ≤ n0_2 ∧ n0_2 ≤ IntKind.i64.max) (b0_3 : IntKind.u8.min ≤ n0_3 ∧ n0_3 ≤ IntKind.u8.max) (b0_4 : IntKind.i64.min ≤ n0_4 ∧ n0_4 ≤ IntKind.i64.max) (b0_5 : IntKind.i64.min ≤ n0_5 ∧ n0_5 ≤ IntKind.i64.max) (b0_6 : IntKind.i64.min ≤ n0_6 ∧ n0_6 ≤ IntKind.i64.max) (b0_7 : IntKind.i64.min ≤ n0_7 ∧ n0_7 ≤ IntKind.i64.max) (b0_8 : IntKind.i64.min ≤ n0_8 ∧ n0_8 ≤ IntKind.i64.max) (b0_9 : IntKind.i64.min ≤ n0_9 ∧ n0_9 ≤ IntKind.i64.max) (b0_10 : IntKind.u64.min ≤ n0_10 ∧ n0_10 ≤ IntKind.u64.max) (b0_11 : IntKind.u64.min ≤ n0_11 ∧ n0_11 ≤ IntKind.u64.max) (b1 : IntKind.i64.min ≤ n1 ∧ n1 ≤ IntKind.i64.max) (b2 : IntKind.i64.min ≤ n2 ∧ n2 ≤ IntKind.i64.max) (b3_0 : IntKind.u64.min ≤ n3_0 ∧ n3_0 ≤ IntKind.u64.max) (b3_1 : IntKind.u64.min ≤ n3_1 ∧ n3_1 ≤ IntKind.u64.max) (b3_2 : IntKind.u64.min ≤ n3_2 ∧ n3_2 ≤ IntKind.u64.max) (b3_3 : IntKind.u64.min ≤ n3_3 ∧ n3_3 ≤ IntKind.u64.max) (hp : Pw w) :
    Calls Tryd.prog 6 #[.agg #[.int .u8 n0_0, .int .i64 n0_1, .int .i64 n0_2, .int .u8 n0_3, .int .i64 n0_4, .int .i64 n0_5, .int .i64 n0_6, .int .i64 n0_7, .int .i64 n0_8, .int .i64 n0_9, .int .u64 n0_10, .int .u64 n0_11], .int .i64 n1, .int .i64 n2, .agg #[.int .u64 n3_0, .int .u64 n3_1, .int .u64 n3_2, .int .u64 n3_3]] w fun e w' => e = .returned (.bool true) ∧ Below w.heap.size w w' := by
  simp [IntKind.min, IntKind.max, IntKind.signed, IntKind.bits] at b0_11
  exact sdoes_walk ⟨n0_0, n0_1, n0_2, n0_3, n0_4, n0_5, n0_6, n0_7, n0_8, n0_9, n0_10, n0_11⟩ n1 n2 n3_0 n3_1 n3_2 n3_3 w b0_11.1 hp

end Go.Proofs.YtdabhkbmdmlgcaaDoor
