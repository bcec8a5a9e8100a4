/- The walk of StripeApart. -/
import Derived.Test.YtdabhkbmdmlgcaaDoorAlive20
import Derived.Test.YtdabhkbmdmlgcaaDoorPlainDrainB
namespace Go.Proofs.YtdabhkbmdmlgcaaDoor
open Go.RowKit

theorem apart_plain {c : Cfg} {v t u : Int} (hc : c.Strs) (hv : 0 ≤ v ∧ v < 2) :
    (atV c 7 v (t % c.str) = atV c 7 v (u % c.str) ↔ t % c.str = u % c.str) ∧ atV c 7 v (t % c.str) ≠ atV c 8 v (t % c.str) ∧ atV c 7 v (t % c.str) ≠ atV c 7 (1 - v) (t % c.str) ∧ atV c 8 v (t % c.str) ≠ atV c 7 (1 - v) (t % c.str) := by
  have hs := hc.str
  have e : c.shp.str = c.str.toNat := rfl
  have m1 : 0 ≤ t % c.str ∧ t % c.str < c.str := ⟨Int.emod_nonneg _ (by omega), Int.emod_lt_of_pos _ (by omega)⟩
  have m2 : 0 ≤ u % c.str ∧ u % c.str < c.str := ⟨Int.emod_nonneg _ (by omega), Int.emod_lt_of_pos _ (by omega)⟩
  rw [in_at hc hv m1, in_at hc hv m2, out_at hc hv m1, in_at hc (v := 1 - v) ⟨by omega, by omega⟩ m1]
  generalize t % c.str = a at *
  generalize u % c.str = b at *
  have hv' : v = 0 ∨ v = 1 := by omega
  rcases hv' with rfl | rfl
  · simp
    omega
  · simp
    omega


set_option maxRecDepth 100000 in
set_option maxHeartbeats 6400000 in
theorem apart20_walk (c : Cfg) (v t u : Int) (w : World) (hp : Pw w) (hb1 : -9223372036854775808 ≤ v ∧ v ≤ 9223372036854775807) :
    Calls Tryd.prog 9 #[.agg #[.int .u8 c.ob, .int .i64 c.inst, .int .i64 c.thr, .int .u8 c.kd, .int .i64 c.str, .int .i64 c.bits, .int .i64 c.cap, .int .i64 c.node, .int .i64 c.bat, .int .i64 c.chk, .int .u64 c.lim, .int .u64 c.most], .int .i64 v, .int .i64 t, .int .i64 u] w fun e w' => e = .returned (.bool true) ∧ Below w.heap.size w w' := by
  have HP := Lib.hid hp; have HV := Lib.hid hb1
  clear hp hb1
  go_enter Tryd.func9, Tryd.ntmps9
  go_wp2_with fail
  have HX := Lib.hid (Box.new w 24 (cfgL c))
  have HB := Lib.hid (newB w (.cells ⟨cfgL c⟩ 24))
  unfold cfgL at *
  generalize w.alloc _ = V at *
  refine (alive20_any V (HP.out.more HB.out)).mono ?_
  rintro e w1 ⟨rfl, hb⟩
  have HB := Lib.hid (keepB hb HB.out); have HX := Lib.hid (HX.out.below hb); clear hb
  have x0 := HX.out.c 0 rfl; have x1 := HX.out.c 1 rfl; have x2 := HX.out.c 2 rfl; have x3 := HX.out.c 3 rfl; have x4 := HX.out.c 4 rfl; have x5 := HX.out.c 5 rfl; have x6 := HX.out.c 6 rfl; have x7 := HX.out.c 7 rfl; have x8 := HX.out.c 8 rfl; have x9 := HX.out.c 9 rfl; have x10 := HX.out.c 10 rfl; have x11 := HX.out.c 11 rfl
  go_wp2_with fail
  refine (sArrive_any c v t w1 (HP.out.more HB.out)).mono ?_
  rintro e w2 ⟨rfl, hb⟩
  generalize hq1 : stA c (sideK 1) v t = p1
  generalize hq2 : stE c v t = E
  have HQ1 := Lib.hid hq1; have HE := Lib.hid hq2
  clear hq1 hq2
  rw [accV_form]
  clear x0 x1 x2 x3 x4 x5 x6 x7 x8 x9 x10 x11
  have HB := Lib.hid (keepB hb HB.out); have HX := Lib.hid (HX.out.below hb); clear hb
  have x0 := fun o => (HX.out.alloc o).c 0 rfl; have x1 := fun o => (HX.out.alloc o).c 1 rfl; have x2 := fun o => (HX.out.alloc o).c 2 rfl; have x3 := fun o => (HX.out.alloc o).c 3 rfl; have x4 := fun o => (HX.out.alloc o).c 4 rfl; have x5 := fun o => (HX.out.alloc o).c 5 rfl; have x6 := fun o => (HX.out.alloc o).c 6 rfl; have x7 := fun o => (HX.out.alloc o).c 7 rfl; have x8 := fun o => (HX.out.alloc o).c 8 rfl; have x9 := fun o => (HX.out.alloc o).c 9 rfl; have x10 := fun o => (HX.out.alloc o).c 10 rfl; have x11 := fun o => (HX.out.alloc o).c 11 rfl
  go_wp2_with fail
  refine (sArrive_any c v u _ (HP.out.more (moreB HB.out _))).mono ?_
  rintro e w3 ⟨rfl, hb⟩
  generalize hq1 : stA c (sideK 1) v u = p2
  generalize hq2 : stE c v u = F
  have HQ2 := Lib.hid hq1; have HF := Lib.hid hq2
  clear hq1 hq2
  rw [accV_form]
  have HA := Lib.hid ((Box.new w2 28 [.int .u8 p1.k, .int .i64 p1.at', .int .u64 p1.old.t, .int .u64 p1.old.a, .int .u64 p1.old.b, .int .u64 p1.old.c, .int .u64 p1.new.t, .int .u64 p1.new.a, .int .u64 p1.new.b, .int .u64 p1.new.c]).below hb)
  clear x0 x1 x2 x3 x4 x5 x6 x7 x8 x9 x10 x11
  have HB := Lib.hid (keepB hb (moreB HB.out _)); have HX := Lib.hid ((HX.out.alloc _).below hb)
  clear hb
  have x0 := fun o => (HX.out.alloc o).c 0 rfl; have x1 := fun o => (HX.out.alloc o).c 1 rfl; have x2 := fun o => (HX.out.alloc o).c 2 rfl; have x3 := fun o => (HX.out.alloc o).c 3 rfl; have x4 := fun o => (HX.out.alloc o).c 4 rfl; have x5 := fun o => (HX.out.alloc o).c 5 rfl; have x6 := fun o => (HX.out.alloc o).c 6 rfl; have x7 := fun o => (HX.out.alloc o).c 7 rfl; have x8 := fun o => (HX.out.alloc o).c 8 rfl; have x9 := fun o => (HX.out.alloc o).c 9 rfl; have x10 := fun o => (HX.out.alloc o).c 10 rfl; have x11 := fun o => (HX.out.alloc o).c 11 rfl
  go_wp2_with fail
  refine (sDepart_any c v t _ (HP.out.more (moreB HB.out _))).mono ?_
  rintro e w4 ⟨rfl, hb⟩
  rw [HE.out]
  generalize hq1 : stA c (sideK 0) v t = p3
  have HQ3 := Lib.hid hq1
  clear hq1
  rw [accV_form]
  have HA := Lib.hid ((HA.out.alloc (.cells ⟨[.int .u8 p2.k, .int .i64 p2.at', .int .u64 p2.old.t, .int .u64 p2.old.a, .int .u64 p2.old.b, .int .u64 p2.old.c, .int .u64 p2.new.t, .int .u64 p2.new.a, .int .u64 p2.new.b, .int .u64 p2.new.c]⟩ 28)).below hb)
  have HC := Lib.hid ((Box.new w3 28 [.int .u8 p2.k, .int .i64 p2.at', .int .u64 p2.old.t, .int .u64 p2.old.a, .int .u64 p2.old.b, .int .u64 p2.old.c, .int .u64 p2.new.t, .int .u64 p2.new.a, .int .u64 p2.new.b, .int .u64 p2.new.c]).below hb)
  clear x0 x1 x2 x3 x4 x5 x6 x7 x8 x9 x10 x11
  have HB := Lib.hid (keepB hb (moreB HB.out _)); have HX := Lib.hid ((HX.out.alloc _).below hb)
  clear hb
  obtain ⟨v', hv'⟩ : ∃ v', IntKind.i64.wrap (1 - v) = v' := ⟨_, rfl⟩
  have HV' := Lib.hid hv'
  have x0 := fun o => (HX.out.alloc o).c 0 rfl; have x1 := fun o => (HX.out.alloc o).c 1 rfl; have x2 := fun o => (HX.out.alloc o).c 2 rfl; have x3 := fun o => (HX.out.alloc o).c 3 rfl; have x4 := fun o => (HX.out.alloc o).c 4 rfl; have x5 := fun o => (HX.out.alloc o).c 5 rfl; have x6 := fun o => (HX.out.alloc o).c 6 rfl; have x7 := fun o => (HX.out.alloc o).c 7 rfl; have x8 := fun o => (HX.out.alloc o).c 8 rfl; have x9 := fun o => (HX.out.alloc o).c 9 rfl; have x10 := fun o => (HX.out.alloc o).c 10 rfl; have x11 := fun o => (HX.out.alloc o).c 11 rfl
  go_wp2_with fail
  refine (sArrive_any c v' t _ (HP.out.more (moreB HB.out _))).mono ?_
  rintro e w5 ⟨rfl, hb⟩
  generalize hq1 : stA c (sideK 1) v' t = p4
  generalize hq2 : stE c v' t = E4
  have HQ4 := Lib.hid hq1; have HE4 := Lib.hid hq2
  clear hq1 hq2
  rw [accV_form]
  have HA := Lib.hid ((HA.out.alloc (.cells ⟨[.int .u8 p3.k, .int .i64 p3.at', .int .u64 p3.old.t, .int .u64 p3.old.a, .int .u64 p3.old.b, .int .u64 p3.old.c, .int .u64 p3.new.t, .int .u64 p3.new.a, .int .u64 p3.new.b, .int .u64 p3.new.c]⟩ 28)).below hb)
  have HC := Lib.hid ((HC.out.alloc (.cells ⟨[.int .u8 p3.k, .int .i64 p3.at', .int .u64 p3.old.t, .int .u64 p3.old.a, .int .u64 p3.old.b, .int .u64 p3.old.c, .int .u64 p3.new.t, .int .u64 p3.new.a, .int .u64 p3.new.b, .int .u64 p3.new.c]⟩ 28)).below hb)
  have HD := Lib.hid ((Box.new w4 28 [.int .u8 p3.k, .int .i64 p3.at', .int .u64 p3.old.t, .int .u64 p3.old.a, .int .u64 p3.old.b, .int .u64 p3.old.c, .int .u64 p3.new.t, .int .u64 p3.new.a, .int .u64 p3.new.b, .int .u64 p3.new.c]).below hb)
  clear x0 x1 x2 x3 x4 x5 x6 x7 x8 x9 x10 x11
  have HB := Lib.hid (keepB hb (moreB HB.out _)); have HX := Lib.hid ((HX.out.alloc _).below hb)
  clear hb hv'
  by_cases hE : E = 0
  · by_cases hF : F = 0
    · subst hE hF
      obtain ⟨hc, g1, g2, g3, g4⟩ := stE_zero HE.out
      obtain ⟨_, _, _, g5, g6⟩ := stE_zero HF.out
      obtain ⟨k1, k2, k3, k4⟩ := apart_plain (c := c) (v := v) (t := t) (u := u) hc ⟨g1, g2⟩
      have hv1 : v' = 1 - v := by rw [← HV'.out, IntKind.wrap_i64]; omega
      have hE4 := HE4.out
      rw [hv1, stE_in hc ⟨by omega, by omega, g3, g4⟩] at hE4
      subst hE4
      have a1 : p1.at' = atV c 7 v (t % c.str) := by rw [← HQ1.out]; exact congrArg Acc.at' (if_pos HE.out)
      have a2 : p2.at' = atV c 7 v (u % c.str) := by rw [← HQ2.out]; exact congrArg Acc.at' (if_pos HF.out)
      have a3 : p3.at' = atV c 8 v (t % c.str) := by rw [← HQ3.out]; exact congrArg Acc.at' (if_pos HE.out)
      have a4 : p4.at' = atV c 7 (1 - v) (t % c.str) := by rw [← HQ4.out, hv1]; exact congrArg Acc.at' (if_pos (by rw [← hv1]; exact HE4.out))
      rw [← a1, ← a2] at k1
      rw [← a1, ← a3] at k2
      rw [← a1, ← a4] at k3
      rw [← a3, ← a4] at k4
      have hstr : c.str ≠ 0 := by have := hc.str; omega
      have r1 : t.tmod c.str = t % c.str := Int.tmod_eq_emod_of_nonneg g3
      have r2 : u.tmod c.str = u % c.str := Int.tmod_eq_emod_of_nonneg g5
      have n2 : (p1.at' != p3.at') = true := by simpa using k2
      have n3 : (p1.at' != p4.at') = true := by simpa using k3
      have n4 : (p3.at' != p4.at') = true := by simpa using k4
      have n1 : ((p1.at' == p2.at') == (t.tmod c.str == u.tmod c.str)) = true := by
        rw [r1, r2]
        by_cases h : t % c.str = u % c.str
        · rw [h, k1.2 h]; simp
        · have h' : ¬ p1.at' = p2.at' := fun e => h (k1.1 e)
          rw [beq_eq_false_iff_ne.2 h, beq_eq_false_iff_ne.2 h']; rfl
      clear k1 k2 k3 k4 a1 a2 a3 a4 r1 r2 g1 g2 g3 g4 g5 g6 hc hv1
      go_wp2_with fail
      have HA := Lib.hid (HA.out.alloc (.cells ⟨[.int .u8 p4.k, .int .i64 p4.at', .int .u64 p4.old.t, .int .u64 p4.old.a, .int .u64 p4.old.b, .int .u64 p4.old.c, .int .u64 p4.new.t, .int .u64 p4.new.a, .int .u64 p4.new.b, .int .u64 p4.new.c]⟩ 28))
      have HC := Lib.hid (HC.out.alloc (.cells ⟨[.int .u8 p4.k, .int .i64 p4.at', .int .u64 p4.old.t, .int .u64 p4.old.a, .int .u64 p4.old.b, .int .u64 p4.old.c, .int .u64 p4.new.t, .int .u64 p4.new.a, .int .u64 p4.new.b, .int .u64 p4.new.c]⟩ 28))
      have HD := Lib.hid (HD.out.alloc (.cells ⟨[.int .u8 p4.k, .int .i64 p4.at', .int .u64 p4.old.t, .int .u64 p4.old.a, .int .u64 p4.old.b, .int .u64 p4.old.c, .int .u64 p4.new.t, .int .u64 p4.new.a, .int .u64 p4.new.b, .int .u64 p4.new.c]⟩ 28))
      have HX := Lib.hid (HX.out.alloc (.cells ⟨[.int .u8 p4.k, .int .i64 p4.at', .int .u64 p4.old.t, .int .u64 p4.old.a, .int .u64 p4.old.b, .int .u64 p4.old.c, .int .u64 p4.new.t, .int .u64 p4.new.a, .int .u64 p4.new.b, .int .u64 p4.new.c]⟩ 28))
      have HG' := Box.new w5 28 [.int .u8 p4.k, .int .i64 p4.at', .int .u64 p4.old.t, .int .u64 p4.old.a, .int .u64 p4.old.b, .int .u64 p4.old.c, .int .u64 p4.new.t, .int .u64 p4.new.a, .int .u64 p4.new.b, .int .u64 p4.new.c]
      have HB := Lib.hid (moreB HB.out (.cells ⟨[.int .u8 p4.k, .int .i64 p4.at', .int .u64 p4.old.t, .int .u64 p4.old.a, .int .u64 p4.old.b, .int .u64 p4.old.c, .int .u64 p4.new.t, .int .u64 p4.new.a, .int .u64 p4.new.b, .int .u64 p4.new.c]⟩ 28))
      generalize w5.alloc _ = Z at *
      have HG := Lib.hid HG'
      clear HG'
      have x4 := HX.out.c 4 rfl
      have a1 := HA.out.c 1 rfl
      have c1 := HC.out.c 1 rfl
      have d1 := HD.out.c 1 rfl
      have g1 := HG.out.c 1 rfl
      go_quiet (fail)
      have HB4 := Lib.hid (below_drewN HB.out nq)
      generalize Z.drewN nq = wx at HB4 ⊢
      go_wp2_with fail
      go_ret
      exact ⟨rfl, HB4.out⟩
    · subst hE
      have e2 : (F != 0) = true := by simpa using hF
      clear hF
      go_wp2_with fail
      go_ret
      exact ⟨rfl, moreB HB.out _⟩
  · have e1 : (E != 0) = true := by simpa using hE
    clear hE
    go_wp2_with fail
    go_ret
    exact ⟨rfl, moreB HB.out _⟩

set_option linter.unusedVariables false in
theorem walk_StripeApart (n0_0 n0_1 n0_2 n0_3 n0_4 n0_5 n0_6 n0_7 n0_8 n0_9 n0_10 n0_11 n1 n2 n3 : Int) (w : World) (b0_0 : IntKind.u8.min ≤ n0_0 ∧ n0_0 ≤ IntKind.u8.max) (b0_1 : IntKind.i64.min ≤ n0_1 ∧ n0_1 ≤ IntKind.i64.max) (b0_2 : IntKind.i64.min ≤ n0_2 ∧ n0_2 ≤ IntKind.i64.max) (b0_3 : IntKind.u8.min ≤ n0_3 ∧ n0_3 ≤ IntKind.u8.max) (b0_4 : IntKind.i64.min ≤ n0_4 ∧ n0_4 ≤ IntKind.i64.max) (b0_5 : IntKind.i64.min ≤ n0_5 ∧ n0_5 ≤ IntKind.i64.max) (b0_6 : IntKind.i64.min ≤ n0_6 ∧ n0_6 ≤ IntKind.i64.max) (b0_7 : IntKind.i64.min ≤ n0_7 ∧ n0_7 ≤ IntKind.i64.max) (b0_8 : IntKind.i64.min ≤ n0_8 ∧ n0_8 ≤ IntKind.i64.max) (b0_9 : IntKind.i64.min ≤ n0_9 ∧ n0_9 ≤ IntKind.i64.max) (b0_10 : IntKind.u64.min ≤ n0_10 ∧ n0_10 ≤ IntKind.u64.max) (b0_11 : IntKind.u64.min ≤ n0_11 ∧ n0_11 ≤ IntKind.u64.max) (b1 : IntKind.i64.min ≤ n1 ∧ n1 ≤ IntKind.i64.max) (b2 : IntKind.i64.min ≤ n2 ∧ n2 ≤ IntKind.i64.max) (b3 : IntKind.i64.min ≤ n3 ∧ n3 ≤ IntKind.i64.max) (hp : Pw w) :
    Calls Tryd.prog 9 #[.agg #[.int .u8 n0_0, .int .i64 n0_1, .int .i64 n0_2, .int .u8 n0_3, .int .i64 n0_4, .int .i64 n0_5, .int .i64 n0_6, .int .i64 n0_7, .int .i64 n0_8, .int .i64 n0_9, .int .u64 n0_10, .int .u64 n0_11], .int .i64 n1, .int .i64 n2, .int .i64 n3] w fun e w' => e = .returned (.bool true) ∧ Below w.heap.size w w' := by
  simp [IntKind.min, IntKind.max, IntKind.signed, IntKind.bits] at b1
  exact apart20_walk ⟨n0_0, n0_1, n0_2, n0_3, n0_4, n0_5, n0_6, n0_7, n0_8, n0_9, n0_10, n0_11⟩ n1 n2 n3 w hp b1

end Go.Proofs.YtdabhkbmdmlgcaaDoor
