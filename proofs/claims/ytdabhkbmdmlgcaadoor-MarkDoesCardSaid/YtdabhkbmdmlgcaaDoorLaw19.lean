/- The walk of MarkDoes. -/
import Derived.Test.YtdabhkbmdmlgcaaDoorMarkD
namespace Go.Proofs.YtdabhkbmdmlgcaaDoor
open Go.RowKit

set_option maxRecDepth 100000 in
set_option maxHeartbeats 6400000 in
theorem does_walk (c : Cfg) (v t : Int) (w : World) (hk : 0 ≤ c.most) (hp : Pw w) :
    Calls Tryd.prog 3 #[.agg #[.int .u8 c.ob, .int .i64 c.inst, .int .i64 c.thr, .int .u8 c.kd, .int .i64 c.str, .int .i64 c.bits, .int .i64 c.cap, .int .i64 c.node, .int .i64 c.bat, .int .i64 c.chk, .int .u64 c.lim, .int .u64 c.most], .int .i64 v, .int .i64 t] w fun e w' => e = .returned (.bool true) ∧ Below w.heap.size w w' := by
  have HK := Lib.hid hk; have HP := Lib.hid hp
  clear hk hp
  go_enter Tryd.func3, Tryd.ntmps3
  go_wp2_with fail
  have HX := Lib.hid (Box.new w 24 (cfgL c))
  have HB := Lib.hid (newB w (.cells ⟨cfgL c⟩ 24))
  unfold cfgL at *
  generalize w.alloc _ = V at *
  refine (mArrive_any c v t V (HP.out.more HB.out)).mono ?_
  rintro e w1 ⟨rfl, hb⟩
  generalize hq1 : mkA c v t accArr = p
  generalize hq2 : mkE c v t = E
  have HQ1 := Lib.hid hq1; have HQ2 := Lib.hid hq2
  clear hq1 hq2
  rw [accV_form]
  have HB := Lib.hid (keepB hb HB.out); have HX := Lib.hid (HX.out.below hb); clear hb
  have x0 := fun o => (HX.out.alloc o).c 0 rfl; have x1 := fun o => (HX.out.alloc o).c 1 rfl; have x2 := fun o => (HX.out.alloc o).c 2 rfl; have x3 := fun o => (HX.out.alloc o).c 3 rfl; have x4 := fun o => (HX.out.alloc o).c 4 rfl; have x5 := fun o => (HX.out.alloc o).c 5 rfl; have x6 := fun o => (HX.out.alloc o).c 6 rfl; have x7 := fun o => (HX.out.alloc o).c 7 rfl; have x8 := fun o => (HX.out.alloc o).c 8 rfl; have x9 := fun o => (HX.out.alloc o).c 9 rfl; have x10 := fun o => (HX.out.alloc o).c 10 rfl; have x11 := fun o => (HX.out.alloc o).c 11 rfl
  go_wp2_with fail
  refine (rmArrive_any c v t _ HK.out).mono ?_
  rintro e w2 ⟨rfl, hb⟩
  rw [HQ1.out, HQ2.out, accV_form]
  have HA := Lib.hid ((Box.new w1 28 [.int .u8 p.k, .int .i64 p.at', .int .u64 p.old.t, .int .u64 p.old.a, .int .u64 p.old.b, .int .u64 p.old.c, .int .u64 p.new.t, .int .u64 p.new.a, .int .u64 p.new.b, .int .u64 p.new.c]).below hb)
  clear x0 x1 x2 x3 x4 x5 x6 x7 x8 x9 x10 x11
  have HB := Lib.hid (keepB hb (moreB HB.out _)); have HX := Lib.hid ((HX.out.alloc _).below hb)
  clear hb
  have x0 := fun o => (HX.out.alloc o).c 0 rfl; have x1 := fun o => (HX.out.alloc o).c 1 rfl; have x2 := fun o => (HX.out.alloc o).c 2 rfl; have x3 := fun o => (HX.out.alloc o).c 3 rfl; have x4 := fun o => (HX.out.alloc o).c 4 rfl; have x5 := fun o => (HX.out.alloc o).c 5 rfl; have x6 := fun o => (HX.out.alloc o).c 6 rfl; have x7 := fun o => (HX.out.alloc o).c 7 rfl; have x8 := fun o => (HX.out.alloc o).c 8 rfl; have x9 := fun o => (HX.out.alloc o).c 9 rfl; have x10 := fun o => (HX.out.alloc o).c 10 rfl; have x11 := fun o => (HX.out.alloc o).c 11 rfl
  go_wp2_with fail
  refine (mDepart_any c v t _ (HP.out.more (moreB HB.out _))).mono ?_
  rintro e w3 ⟨rfl, hb⟩
  generalize hq1 : mkA c v t accDep = p'
  have HQ3 := Lib.hid hq1
  clear hq1
  rw [HQ2.out, accV_form]
  have HA := Lib.hid ((HA.out.alloc (.cells ⟨[.int .u8 p.k, .int .i64 p.at', .int .u64 p.old.t, .int .u64 p.old.a, .int .u64 p.old.b, .int .u64 p.old.c, .int .u64 p.new.t, .int .u64 p.new.a, .int .u64 p.new.b, .int .u64 p.new.c]⟩ 28)).below hb)
  have HC := Lib.hid ((Box.new w2 28 [.int .u8 p.k, .int .i64 p.at', .int .u64 p.old.t, .int .u64 p.old.a, .int .u64 p.old.b, .int .u64 p.old.c, .int .u64 p.new.t, .int .u64 p.new.a, .int .u64 p.new.b, .int .u64 p.new.c]).below hb)
  clear x0 x1 x2 x3 x4 x5 x6 x7 x8 x9 x10 x11
  have HB := Lib.hid (keepB hb (moreB HB.out _)); have HX := Lib.hid ((HX.out.alloc _).below hb)
  clear hb
  have x0 := fun o => (HX.out.alloc o).c 0 rfl; have x1 := fun o => (HX.out.alloc o).c 1 rfl; have x2 := fun o => (HX.out.alloc o).c 2 rfl; have x3 := fun o => (HX.out.alloc o).c 3 rfl; have x4 := fun o => (HX.out.alloc o).c 4 rfl; have x5 := fun o => (HX.out.alloc o).c 5 rfl; have x6 := fun o => (HX.out.alloc o).c 6 rfl; have x7 := fun o => (HX.out.alloc o).c 7 rfl; have x8 := fun o => (HX.out.alloc o).c 8 rfl; have x9 := fun o => (HX.out.alloc o).c 9 rfl; have x10 := fun o => (HX.out.alloc o).c 10 rfl; have x11 := fun o => (HX.out.alloc o).c 11 rfl
  go_wp2_with fail
  refine (rmDepart_any c v t _ HK.out).mono ?_
  rintro e w4 ⟨rfl, hb⟩
  rw [HQ3.out, HQ2.out, accV_form]
  have HA := Lib.hid ((HA.out.alloc (.cells ⟨[.int .u8 p'.k, .int .i64 p'.at', .int .u64 p'.old.t, .int .u64 p'.old.a, .int .u64 p'.old.b, .int .u64 p'.old.c, .int .u64 p'.new.t, .int .u64 p'.new.a, .int .u64 p'.new.b, .int .u64 p'.new.c]⟩ 28)).below hb)
  have HC := Lib.hid ((HC.out.alloc (.cells ⟨[.int .u8 p'.k, .int .i64 p'.at', .int .u64 p'.old.t, .int .u64 p'.old.a, .int .u64 p'.old.b, .int .u64 p'.old.c, .int .u64 p'.new.t, .int .u64 p'.new.a, .int .u64 p'.new.b, .int .u64 p'.new.c]⟩ 28)).below hb)
  have HD := Lib.hid ((Box.new w3 28 [.int .u8 p'.k, .int .i64 p'.at', .int .u64 p'.old.t, .int .u64 p'.old.a, .int .u64 p'.old.b, .int .u64 p'.old.c, .int .u64 p'.new.t, .int .u64 p'.new.a, .int .u64 p'.new.b, .int .u64 p'.new.c]).below hb)
  clear x0 x1 x2 x3 x4 x5 x6 x7 x8 x9 x10 x11
  have HB := Lib.hid (keepB hb (moreB HB.out _)); have HX := Lib.hid ((HX.out.alloc _).below hb)
  clear hb
  have a0 := fun o => (HA.out.alloc o).c 0 rfl; have a1 := fun o => (HA.out.alloc o).c 1 rfl; have a2 := fun o => (HA.out.alloc o).c 2 rfl; have a3 := fun o => (HA.out.alloc o).c 3 rfl; have a4 := fun o => (HA.out.alloc o).c 4 rfl; have a5 := fun o => (HA.out.alloc o).c 5 rfl; have a6 := fun o => (HA.out.alloc o).c 6 rfl; have a7 := fun o => (HA.out.alloc o).c 7 rfl; have a8 := fun o => (HA.out.alloc o).c 8 rfl; have a9 := fun o => (HA.out.alloc o).c 9 rfl
  have c0 := fun o => (HC.out.alloc o).c 0 rfl; have c1 := fun o => (HC.out.alloc o).c 1 rfl; have c2 := fun o => (HC.out.alloc o).c 2 rfl; have c3 := fun o => (HC.out.alloc o).c 3 rfl; have c4 := fun o => (HC.out.alloc o).c 4 rfl; have c5 := fun o => (HC.out.alloc o).c 5 rfl; have c6 := fun o => (HC.out.alloc o).c 6 rfl; have c7 := fun o => (HC.out.alloc o).c 7 rfl; have c8 := fun o => (HC.out.alloc o).c 8 rfl; have c9 := fun o => (HC.out.alloc o).c 9 rfl
  have d0 := fun o => (HD.out.alloc o).c 0 rfl; have d1 := fun o => (HD.out.alloc o).c 1 rfl; have d2 := fun o => (HD.out.alloc o).c 2 rfl; have d3 := fun o => (HD.out.alloc o).c 3 rfl; have d4 := fun o => (HD.out.alloc o).c 4 rfl; have d5 := fun o => (HD.out.alloc o).c 5 rfl; have d6 := fun o => (HD.out.alloc o).c 6 rfl; have d7 := fun o => (HD.out.alloc o).c 7 rfl; have d8 := fun o => (HD.out.alloc o).c 8 rfl; have d9 := fun o => (HD.out.alloc o).c 9 rfl
  go_wp2_with fail
  go_ret
  exact ⟨rfl, moreB HB.out _⟩

set_option linter.unusedVariables false in
theorem walk_MarkDoes (n0_0 n0_1 n0_2 n0_3 n0_4 n0_5 n0_6 n0_7 n0_8 n0_9 n0_10 n0_11 n1 n2 : Int) (w : World) (b0_0 : IntKind.u8.min ≤ n0_0 ∧ n0_0 ≤ IntKind.u8.max) (b0_1 : IntKind.i64.min ≤ n0_1 ∧ n0_1 ≤ IntKind.i64.max) (b0_2 : IntKind.i64.min ≤ n0_2 ∧ n0_2 ≤ IntKind.i64.max) (b0_3 : IntKind.u8.min ≤ n0_3 ∧ n0_3 ≤ IntKind.u8.max) (b0_4 : IntKind.i64.min ≤ n0_4 ∧ n0_4 ≤ IntKind.i64.max) (b0_5 : IntKind.i64.min ≤ n0_5 ∧ n0_5 ≤ IntKind.i64.max) (b0_6 : IntKind.i64.min ≤ n0_6 ∧ n0_6 ≤ IntKind.i64.max) (b0_7 : IntKind.i64.min ≤ n0_7 ∧ n0_7 ≤ IntKind.i64.max) (b0_8 : IntKind.i64.min ≤ n0_8 ∧ n0_8 ≤ IntKind.i64.max) (b0_9 : IntKind.i64.min ≤ n0_9 ∧ n0_9 ≤ IntKind.i64.max) (b0_10 : IntKind.u64.min ≤ n0_10 ∧ n0_10 ≤ IntKind.u64.max) (b0_11 : IntKind.u64.min ≤ n0_11 ∧ n0_11 ≤ IntKind.u64.max) (b1 : IntKind.i64.min ≤ n1 ∧ n1 ≤ IntKind.i64.max) (b2 : IntKind.i64.min ≤ n2 ∧ n2 ≤ IntKind.i64.max) (hp : Pw w) :
    Calls Tryd.prog 3 #[.agg #[.int .u8 n0_0, .int .i64 n0_1, .int .i64 n0_2, .int .u8 n0_3, .int .i64 n0_4, .int .i64 n0_5, .int .i64 n0_6, .int .i64 n0_7, .int .i64 n0_8, .int .i64 n0_9, .int .u64 n0_10, .int .u64 n0_11], .int .i64 n1, .int .i64 n2] w fun e w' => e = .returned (.bool true) ∧ Below w.heap.size w w' := by
  simp [IntKind.min, IntKind.max, IntKind.signed, IntKind.bits] at b0_11
  exact does_walk ⟨n0_0, n0_1, n0_2, n0_3, n0_4, n0_5, n0_6, n0_7, n0_8, n0_9, n0_10, n0_11⟩ n1 n2 w b0_11.1 hp

end Go.Proofs.YtdabhkbmdmlgcaaDoor
