/- Chapter 20: stripe.count, Arrive, Depart, Full. -/
import Derived.Test.YtecjbgddjejjdaaStripe
namespace Go.Proofs.Ytecjbgddjejjdaa
open Go.RowKit

def accAdd : Acc := ⟨4, 0, ⟨0, 0, 0, 0⟩, ⟨0, 1, 0, 0⟩⟩

theorem cell_drew {U : World} {a : Addr} {x : Value} (h : U.cell? a = some x) : U.drew.cell? a = some x := by rw [World.cell?_drew]; exact h
/-- A block of an access, whatever it holds. -/
def RB10 (U : World) (b : Nat) : Prop := ∃ v0 v1 v2 v3 v4 v5 v6 v7 v8 v9 : Value, Box U b [v0, v1, v2, v3, v4, v5, v6, v7, v8, v9]
theorem RB10.below {U V : World} {b : Nat} (h : RB10 U b) (hb : Below U.heap.size U V) : RB10 V b := by
  obtain ⟨v0, v1, v2, v3, v4, v5, v6, v7, v8, v9, h⟩ := h
  exact ⟨v0, v1, v2, v3, v4, v5, v6, v7, v8, v9, h.below hb⟩
theorem RB10.drew {U : World} {b : Nat} (h : RB10 U b) : RB10 U.drew b := h
theorem RB10.acc {W : World} {h : Nat} (hr : RB10 W h) (v0 v1 v2 v3 v4 v5 v6 v7 v8 v9 : Value) :
    RB10 ((((((((((W.setCell ⟨h, 0, none⟩ v0).setCell ⟨h, 1, none⟩ v1).setCell ⟨h, 2, none⟩ v2).setCell ⟨h, 3, none⟩ v3).setCell ⟨h, 4, none⟩ v4).setCell ⟨h, 5, none⟩ v5).setCell ⟨h, 6, none⟩ v6).setCell ⟨h, 7, none⟩ v7).setCell ⟨h, 8, none⟩ v8).setCell ⟨h, 9, none⟩ v9) h := by
  obtain ⟨u0, u1, u2, u3, u4, u5, u6, u7, u8, u9, hr⟩ := hr
  exact ⟨_, _, _, _, _, _, _, _, _, _, hr.acc v0 v1 v2 v3 v4 v5 v6 v7 v8 v9⟩
theorem farA {W : World} {h : Nat} {a : Addr} {x v0 v1 v2 v3 v4 v5 v6 v7 v8 v9 : Value} (ha : a.block ≠ h) (hx : W.cell? a = some x) :
    ((((((((((W.setCell ⟨h, 0, none⟩ v0).setCell ⟨h, 1, none⟩ v1).setCell ⟨h, 2, none⟩ v2).setCell ⟨h, 3, none⟩ v3).setCell ⟨h, 4, none⟩ v4).setCell ⟨h, 5, none⟩ v5).setCell ⟨h, 6, none⟩ v6).setCell ⟨h, 7, none⟩ v7).setCell ⟨h, 8, none⟩ v8).setCell ⟨h, 9, none⟩ v9).cell? a = some x := by
  have f : ∀ (U : World) (j : Nat) (u : Value), (U.setCell ⟨h, j, none⟩ u).cell? a = U.cell? a := fun U j u => World.cell?_setCell_far U ⟨h, j, none⟩ a u (fun e => ha e.symm)
  rw [f, f, f, f, f, f, f, f, f, f]; exact hx

theorem store_keep {n : Nat} {w W : World} {a h : Nat} {u0 u1 u2 u3 u4 u5 u6 u7 u8 u9 u10 u11 v0 v1 v2 v3 v4 v5 v6 v7 v8 v9 : Value} (ha : a < h) (hh : n ≤ h) (H : Below n w W ∧ RB10 W h ∧ W.cell? ⟨a, 0, none⟩ = some u0 ∧ W.cell? ⟨a, 1, none⟩ = some u1 ∧ W.cell? ⟨a, 2, none⟩ = some u2 ∧ W.cell? ⟨a, 3, none⟩ = some u3 ∧ W.cell? ⟨a, 4, none⟩ = some u4 ∧ W.cell? ⟨a, 5, none⟩ = some u5 ∧ W.cell? ⟨a, 6, none⟩ = some u6 ∧ W.cell? ⟨a, 7, none⟩ = some u7 ∧ W.cell? ⟨a, 8, none⟩ = some u8 ∧ W.cell? ⟨a, 9, none⟩ = some u9 ∧ W.cell? ⟨a, 10, none⟩ = some u10 ∧ W.cell? ⟨a, 11, none⟩ = some u11) :
    Below n w ((((((((((W.setCell ⟨h, 0, none⟩ v0).setCell ⟨h, 1, none⟩ v1).setCell ⟨h, 2, none⟩ v2).setCell ⟨h, 3, none⟩ v3).setCell ⟨h, 4, none⟩ v4).setCell ⟨h, 5, none⟩ v5).setCell ⟨h, 6, none⟩ v6).setCell ⟨h, 7, none⟩ v7).setCell ⟨h, 8, none⟩ v8).setCell ⟨h, 9, none⟩ v9) ∧ RB10 ((((((((((W.setCell ⟨h, 0, none⟩ v0).setCell ⟨h, 1, none⟩ v1).setCell ⟨h, 2, none⟩ v2).setCell ⟨h, 3, none⟩ v3).setCell ⟨h, 4, none⟩ v4).setCell ⟨h, 5, none⟩ v5).setCell ⟨h, 6, none⟩ v6).setCell ⟨h, 7, none⟩ v7).setCell ⟨h, 8, none⟩ v8).setCell ⟨h, 9, none⟩ v9) h ∧ ((((((((((W.setCell ⟨h, 0, none⟩ v0).setCell ⟨h, 1, none⟩ v1).setCell ⟨h, 2, none⟩ v2).setCell ⟨h, 3, none⟩ v3).setCell ⟨h, 4, none⟩ v4).setCell ⟨h, 5, none⟩ v5).setCell ⟨h, 6, none⟩ v6).setCell ⟨h, 7, none⟩ v7).setCell ⟨h, 8, none⟩ v8).setCell ⟨h, 9, none⟩ v9).cell? ⟨a, 0, none⟩ = some u0 ∧ ((((((((((W.setCell ⟨h, 0, none⟩ v0).setCell ⟨h, 1, none⟩ v1).setCell ⟨h, 2, none⟩ v2).setCell ⟨h, 3, none⟩ v3).setCell ⟨h, 4, none⟩ v4).setCell ⟨h, 5, none⟩ v5).setCell ⟨h, 6, none⟩ v6).setCell ⟨h, 7, none⟩ v7).setCell ⟨h, 8, none⟩ v8).setCell ⟨h, 9, none⟩ v9).cell? ⟨a, 1, none⟩ = some u1 ∧ ((((((((((W.setCell ⟨h, 0, none⟩ v0).setCell ⟨h, 1, none⟩ v1).setCell ⟨h, 2, none⟩ v2).setCell ⟨h, 3, none⟩ v3).setCell ⟨h, 4, none⟩ v4).setCell ⟨h, 5, none⟩ v5).setCell ⟨h, 6, none⟩ v6).setCell ⟨h, 7, none⟩ v7).setCell ⟨h, 8, none⟩ v8).setCell ⟨h, 9, none⟩ v9).cell? ⟨a, 2, none⟩ = some u2 ∧ ((((((((((W.setCell ⟨h, 0, none⟩ v0).setCell ⟨h, 1, none⟩ v1).setCell ⟨h, 2, none⟩ v2).setCell ⟨h, 3, none⟩ v3).setCell ⟨h, 4, none⟩ v4).setCell ⟨h, 5, none⟩ v5).setCell ⟨h, 6, none⟩ v6).setCell ⟨h, 7, none⟩ v7).setCell ⟨h, 8, none⟩ v8).setCell ⟨h, 9, none⟩ v9).cell? ⟨a, 3, none⟩ = some u3 ∧ ((((((((((W.setCell ⟨h, 0, none⟩ v0).setCell ⟨h, 1, none⟩ v1).setCell ⟨h, 2, none⟩ v2).setCell ⟨h, 3, none⟩ v3).setCell ⟨h, 4, none⟩ v4).setCell ⟨h, 5, none⟩ v5).setCell ⟨h, 6, none⟩ v6).setCell ⟨h, 7, none⟩ v7).setCell ⟨h, 8, none⟩ v8).setCell ⟨h, 9, none⟩ v9).cell? ⟨a, 4, none⟩ = some u4 ∧ ((((((((((W.setCell ⟨h, 0, none⟩ v0).setCell ⟨h, 1, none⟩ v1).setCell ⟨h, 2, none⟩ v2).setCell ⟨h, 3, none⟩ v3).setCell ⟨h, 4, none⟩ v4).setCell ⟨h, 5, none⟩ v5).setCell ⟨h, 6, none⟩ v6).setCell ⟨h, 7, none⟩ v7).setCell ⟨h, 8, none⟩ v8).setCell ⟨h, 9, none⟩ v9).cell? ⟨a, 5, none⟩ = some u5 ∧ ((((((((((W.setCell ⟨h, 0, none⟩ v0).setCell ⟨h, 1, none⟩ v1).setCell ⟨h, 2, none⟩ v2).setCell ⟨h, 3, none⟩ v3).setCell ⟨h, 4, none⟩ v4).setCell ⟨h, 5, none⟩ v5).setCell ⟨h, 6, none⟩ v6).setCell ⟨h, 7, none⟩ v7).setCell ⟨h, 8, none⟩ v8).setCell ⟨h, 9, none⟩ v9).cell? ⟨a, 6, none⟩ = some u6 ∧ ((((((((((W.setCell ⟨h, 0, none⟩ v0).setCell ⟨h, 1, none⟩ v1).setCell ⟨h, 2, none⟩ v2).setCell ⟨h, 3, none⟩ v3).setCell ⟨h, 4, none⟩ v4).setCell ⟨h, 5, none⟩ v5).setCell ⟨h, 6, none⟩ v6).setCell ⟨h, 7, none⟩ v7).setCell ⟨h, 8, none⟩ v8).setCell ⟨h, 9, none⟩ v9).cell? ⟨a, 7, none⟩ = some u7 ∧ ((((((((((W.setCell ⟨h, 0, none⟩ v0).setCell ⟨h, 1, none⟩ v1).setCell ⟨h, 2, none⟩ v2).setCell ⟨h, 3, none⟩ v3).setCell ⟨h, 4, none⟩ v4).setCell ⟨h, 5, none⟩ v5).setCell ⟨h, 6, none⟩ v6).setCell ⟨h, 7, none⟩ v7).setCell ⟨h, 8, none⟩ v8).setCell ⟨h, 9, none⟩ v9).cell? ⟨a, 8, none⟩ = some u8 ∧ ((((((((((W.setCell ⟨h, 0, none⟩ v0).setCell ⟨h, 1, none⟩ v1).setCell ⟨h, 2, none⟩ v2).setCell ⟨h, 3, none⟩ v3).setCell ⟨h, 4, none⟩ v4).setCell ⟨h, 5, none⟩ v5).setCell ⟨h, 6, none⟩ v6).setCell ⟨h, 7, none⟩ v7).setCell ⟨h, 8, none⟩ v8).setCell ⟨h, 9, none⟩ v9).cell? ⟨a, 9, none⟩ = some u9 ∧ ((((((((((W.setCell ⟨h, 0, none⟩ v0).setCell ⟨h, 1, none⟩ v1).setCell ⟨h, 2, none⟩ v2).setCell ⟨h, 3, none⟩ v3).setCell ⟨h, 4, none⟩ v4).setCell ⟨h, 5, none⟩ v5).setCell ⟨h, 6, none⟩ v6).setCell ⟨h, 7, none⟩ v7).setCell ⟨h, 8, none⟩ v8).setCell ⟨h, 9, none⟩ v9).cell? ⟨a, 10, none⟩ = some u10 ∧ ((((((((((W.setCell ⟨h, 0, none⟩ v0).setCell ⟨h, 1, none⟩ v1).setCell ⟨h, 2, none⟩ v2).setCell ⟨h, 3, none⟩ v3).setCell ⟨h, 4, none⟩ v4).setCell ⟨h, 5, none⟩ v5).setCell ⟨h, 6, none⟩ v6).setCell ⟨h, 7, none⟩ v7).setCell ⟨h, 8, none⟩ v8).setCell ⟨h, 9, none⟩ v9).cell? ⟨a, 11, none⟩ = some u11 := by
  obtain ⟨hb, hr, c0, c1, c2, c3, c4, c5, c6, c7, c8, c9, c10, c11⟩ := H
  exact ⟨below_acc hb hh _ _ _ _ _ _ _ _ _ _, hr.acc _ _ _ _ _ _ _ _ _ _, farA (Nat.ne_of_lt ha) c0, farA (Nat.ne_of_lt ha) c1, farA (Nat.ne_of_lt ha) c2, farA (Nat.ne_of_lt ha) c3, farA (Nat.ne_of_lt ha) c4, farA (Nat.ne_of_lt ha) c5, farA (Nat.ne_of_lt ha) c6, farA (Nat.ne_of_lt ha) c7, farA (Nat.ne_of_lt ha) c8, farA (Nat.ne_of_lt ha) c9, farA (Nat.ne_of_lt ha) c10, farA (Nat.ne_of_lt ha) c11⟩

set_option maxRecDepth 100000 in
set_option maxHeartbeats 3200000 in
theorem sCount_any (c : Cfg) (s v t : Int) (w : World) (hp : PwO c w) :
    Calls Try.prog 102 #[.agg #[.int .u8 c.ob, .int .i64 c.inst, .int .i64 c.thr, .int .u8 c.kd, .int .i64 c.str, .int .i64 c.bits, .int .i64 c.cap, .int .i64 c.node, .int .i64 c.bat, .int .i64 c.chk, .int .u64 c.lim, .int .u64 c.most], .int .i64 s, .int .i64 v, .int .i64 t] w fun e w' => e = .returned (.tuple #[accV (stA c (sideK s) v t), .int .i64 (stE c v t)]) ∧ Below w.heap.size w w' := by
  have HP := Lib.hid hp
  clear hp
  go_enter Try.func102, Try.ntmps102
  go_wp2_with fail
  have hx := (Box.new w 37 (cfgL c)).alloc (.cells ⟨[.int .u8 0, .int .i64 0, .int .u64 0, .int .u64 0, .int .u64 0, .int .u64 0, .int .u64 0, .int .u64 0, .int .u64 0, .int .u64 0]⟩ 39)
  have hr := Box.new (w.alloc (.cells ⟨cfgL c⟩ 37)) 39 [.int .u8 0, .int .i64 0, .int .u64 0, .int .u64 0, .int .u64 0, .int .u64 0, .int .u64 0, .int .u64 0, .int .u64 0, .int .u64 0]
  have HB := Lib.hid (moreB (newB w (.cells ⟨cfgL c⟩ 37)) (.cells ⟨[.int .u8 0, .int .i64 0, .int .u64 0, .int .u64 0, .int .u64 0, .int .u64 0, .int .u64 0, .int .u64 0, .int .u64 0, .int .u64 0]⟩ 39))
  simp only [World.size_alloc] at hr
  have HX := Lib.hid hx; have HR := Lib.hid hr
  clear hx hr
  unfold cfgL at *
  generalize (w.alloc _).alloc _ = V at *
  refine (sMay_any c V).mono ?_
  rintro e w1 ⟨rfl, hb⟩
  have HR := Lib.hid (HR.out.below hb)
  have HB := Lib.hid (keepB hb HB.out); have HX := Lib.hid (HX.out.below hb); clear hb
  by_cases hm : c.Strs
  · rw [show stripesB c = true from decide_eq_true hm]
    by_cases h1 : t < 0
    · have HE := Lib.hid (stE_out hm (v := v) (show ¬ (0 ≤ v ∧ v < 2 ∧ 0 ≤ t ∧ t < c.thr) by omega))
      have HV := Lib.hid (show stA c (sideK s) v t = .none from if_neg (by rw [HE.out]; decide))
      have hr := HR.out
      have r0 := hr.c 0 rfl
      have r1 := hr.c 1 rfl
      have r2 := hr.c 2 rfl
      have r3 := hr.c 3 rfl
      have r4 := hr.c 4 rfl
      have r5 := hr.c 5 rfl
      have r6 := hr.c 6 rfl
      have r7 := hr.c 7 rfl
      have r8 := hr.c 8 rfl
      have r9 := hr.c 9 rfl
      have g0 := hr.f 0
      have g1 := hr.f 1
      have g2 := hr.f 2
      have g3 := hr.f 3
      have g4 := hr.f 4
      have g5 := hr.f 5
      have g6 := hr.f 6
      have g7 := hr.f 7
      have g8 := hr.f 8
      have g9 := hr.f 9
      clear hr hm
      go_wp2_with fail
      refine bodyPost_ret (v := .tuple #[.agg ⟨[.int .u8 0, .int .i64 0, .int .u64 0, .int .u64 0, .int .u64 0, .int .u64 0, .int .u64 0, .int .u64 0, .int .u64 0, .int .u64 0]⟩, .int .i64 2]) ?_ rfl ⟨by rw [HV.out, HE.out]; rfl, below_acc HB.out (by omega) _ _ _ _ _ _ _ _ _ _⟩
      exact (HR.out.acc _ _ _ _ _ _ _ _ _ _).results2 (t := 39) rfl (fun _ => by kernel_rfl) (fun _ => by kernel_rfl) rfl rfl
    have h1' : 0 ≤ t := by omega
    have x2 := HX.out.c 2 rfl
    by_cases h2 : c.thr ≤ t
    · have HE := Lib.hid (stE_out hm (v := v) (show ¬ (0 ≤ v ∧ v < 2 ∧ 0 ≤ t ∧ t < c.thr) by omega))
      have HV := Lib.hid (show stA c (sideK s) v t = .none from if_neg (by rw [HE.out]; decide))
      have hr := HR.out
      have r0 := hr.c 0 rfl
      have r1 := hr.c 1 rfl
      have r2 := hr.c 2 rfl
      have r3 := hr.c 3 rfl
      have r4 := hr.c 4 rfl
      have r5 := hr.c 5 rfl
      have r6 := hr.c 6 rfl
      have r7 := hr.c 7 rfl
      have r8 := hr.c 8 rfl
      have r9 := hr.c 9 rfl
      have g0 := hr.f 0
      have g1 := hr.f 1
      have g2 := hr.f 2
      have g3 := hr.f 3
      have g4 := hr.f 4
      have g5 := hr.f 5
      have g6 := hr.f 6
      have g7 := hr.f 7
      have g8 := hr.f 8
      have g9 := hr.f 9
      clear hr hm h1
      go_wp2_with fail
      refine bodyPost_ret (v := .tuple #[.agg ⟨[.int .u8 0, .int .i64 0, .int .u64 0, .int .u64 0, .int .u64 0, .int .u64 0, .int .u64 0, .int .u64 0, .int .u64 0, .int .u64 0]⟩, .int .i64 2]) ?_ rfl ⟨by rw [HV.out, HE.out]; rfl, below_acc HB.out (by omega) _ _ _ _ _ _ _ _ _ _⟩
      exact (HR.out.acc _ _ _ _ _ _ _ _ _ _).results2 (t := 39) rfl (fun _ => by kernel_rfl) (fun _ => by kernel_rfl) rfl rfl
    have h2' : t < c.thr := by omega
    have hstr := hm.str
    have hthr := hm.1.1
    obtain ⟨k1, k2⟩ := stA_of hm (k := sideK s) (v := v) (sideK_or s) ⟨h1', h2'⟩
    have H1 := Lib.hid k1.symm; have H2 := Lib.hid k2.symm
    have hrem : t.tmod c.str = t % c.str := Int.tmod_eq_emod_of_nonneg h1'
    have hnz : c.str ≠ 0 := by omega
    clear h1 h2 hm hstr hthr k1 k2
    rw [← hrem] at H1 H2
    clear hrem
    have x0 := HX.out.c 0 rfl; have x1 := HX.out.c 1 rfl; have x2 := HX.out.c 2 rfl; have x3 := HX.out.c 3 rfl; have x4 := HX.out.c 4 rfl; have x5 := HX.out.c 5 rfl; have x6 := HX.out.c 6 rfl; have x7 := HX.out.c 7 rfl; have x8 := HX.out.c 8 rfl; have x9 := HX.out.c 9 rfl; have x10 := HX.out.c 10 rfl; have x11 := HX.out.c 11 rfl
    go_wp2_with fail
    have HRB := Lib.hid (show RB10 w1 (w.heap.size + 1) from ⟨_, _, _, _, _, _, _, _, _, _, HR.out⟩)
    have HQ := Lib.hid (fun (U : World) (h : Below w.heap.size w U) => (show Calls Try.prog 105 #[.agg #[.int .u8 c.ob, .int .i64 c.inst, .int .i64 c.thr, .int .u8 c.kd, .int .i64 c.str, .int .i64 c.bits, .int .i64 c.cap, .int .i64 c.node, .int .i64 c.bat, .int .i64 c.chk, .int .u64 c.lim, .int .u64 c.most], .int .i64 s, .int .i64 v, .int .i64 (t.tmod c.str), .agg #[.int .u8 4, .int .i64 0, .int .u64 0, .int .u64 0, .int .u64 0, .int .u64 0, .int .u64 0, .int .u64 1, .int .u64 0, .int .u64 0]] U _ from sAt_any c s v (t.tmod c.str) accAdd U (HP.out.more h)))
    go_region_held3 (fun U => Below w.heap.size w U ∧ RB10 U (w.heap.size + 1) ∧ U.cell? ⟨w.heap.size, 0, none⟩ = some (.int .u8 c.ob) ∧ U.cell? ⟨w.heap.size, 1, none⟩ = some (.int .i64 c.inst) ∧ U.cell? ⟨w.heap.size, 2, none⟩ = some (.int .i64 c.thr) ∧ U.cell? ⟨w.heap.size, 3, none⟩ = some (.int .u8 c.kd) ∧ U.cell? ⟨w.heap.size, 4, none⟩ = some (.int .i64 c.str) ∧ U.cell? ⟨w.heap.size, 5, none⟩ = some (.int .i64 c.bits) ∧ U.cell? ⟨w.heap.size, 6, none⟩ = some (.int .i64 c.cap) ∧ U.cell? ⟨w.heap.size, 7, none⟩ = some (.int .i64 c.node) ∧ U.cell? ⟨w.heap.size, 8, none⟩ = some (.int .i64 c.bat) ∧ U.cell? ⟨w.heap.size, 9, none⟩ = some (.int .i64 c.chk) ∧ U.cell? ⟨w.heap.size, 10, none⟩ = some (.int .u64 c.lim) ∧ U.cell? ⟨w.heap.size, 11, none⟩ = some (.int .u64 c.most)) ((first | (with_reducible exact store_keep (by omega) (by omega) (by assumption)) | ((try go_split_ands); (repeat' apply And.intro); all_goals with_reducible first | assumption | exact HB.out | exact Below.drew HB.out | exact RB10.drew HRB.out | exact cell_drew (by assumption) | exact keepC hb (by assumption) | exact keepB hb (by assumption) | exact RB10.below (by assumption) hb | exact keepC hb (cell_drew (by assumption)) | exact keepB hb (Below.drew (by assumption)) | exact RB10.below (RB10.drew (by assumption)) hb))) ((go_at_call 105; (with_reducible refine (HQ.out _ (And.left (by assumption))).mono ?_); rintro e w' ⟨rfl, hb⟩; (with_reducible have hrb : RB10 _ (w.heap.size + 1) := And.left (And.right (by assumption))); have hrb2 := hrb.below hb; obtain ⟨v0, v1, v2, v3, v4, v5, v6, v7, v8, v9, hr⟩ := hrb2; have r0 := hr.c 0 rfl; have r1 := hr.c 1 rfl; have r2 := hr.c 2 rfl; have r3 := hr.c 3 rfl; have r4 := hr.c 4 rfl; have r5 := hr.c 5 rfl; have r6 := hr.c 6 rfl; have r7 := hr.c 7 rfl; have r8 := hr.c 8 rfl; have r9 := hr.c 9 rfl; have g0 := hr.f 0; have g1 := hr.f 1; have g2 := hr.f 2; have g3 := hr.f 3; have g4 := hr.f 4; have g5 := hr.f 5; have g6 := hr.f 6; have g7 := hr.f 7; have g8 := hr.f 8; have g9 := hr.f 9; rw [accV_form]))
    all_goals have hbw : Below w.heap.size w w' := keepB hb (Below.drew HB.out)
    all_goals go_wp2_with fail
    all_goals refine bodyPost_ret (v := .tuple #[accV (atA c (sideK s) v (t.tmod c.str) accAdd), .int .i64 (atE c (sideK s) v (t.tmod c.str))]) ?_ rfl ⟨by rw [H1.out, H2.out]; rfl, below_acc hbw (by omega) _ _ _ _ _ _ _ _ _ _⟩
    all_goals exact (hr.acc _ _ _ _ _ _ _ _ _ _).results2 (t := 39) rfl (fun _ => by kernel_rfl) (fun _ => by kernel_rfl) rfl rfl
  · rw [show stripesB c = false from decide_eq_false hm]
    have HE := Lib.hid (stE_no hm v t)
    have HV := Lib.hid (show stA c (sideK s) v t = .none from if_neg (by rw [HE.out]; decide))
    have hr := HR.out
    have r0 := hr.c 0 rfl
    have r1 := hr.c 1 rfl
    have r2 := hr.c 2 rfl
    have r3 := hr.c 3 rfl
    have r4 := hr.c 4 rfl
    have r5 := hr.c 5 rfl
    have r6 := hr.c 6 rfl
    have r7 := hr.c 7 rfl
    have r8 := hr.c 8 rfl
    have r9 := hr.c 9 rfl
    have g0 := hr.f 0
    have g1 := hr.f 1
    have g2 := hr.f 2
    have g3 := hr.f 3
    have g4 := hr.f 4
    have g5 := hr.f 5
    have g6 := hr.f 6
    have g7 := hr.f 7
    have g8 := hr.f 8
    have g9 := hr.f 9
    clear hr hm
    go_wp2_with fail
    refine bodyPost_ret (v := .tuple #[.agg ⟨[.int .u8 0, .int .i64 0, .int .u64 0, .int .u64 0, .int .u64 0, .int .u64 0, .int .u64 0, .int .u64 0, .int .u64 0, .int .u64 0]⟩, .int .i64 40]) ?_ rfl ⟨by rw [HV.out, HE.out]; rfl, below_acc HB.out (by omega) _ _ _ _ _ _ _ _ _ _⟩
    exact (HR.out.acc _ _ _ _ _ _ _ _ _ _).results2 (t := 39) rfl (fun _ => by kernel_rfl) (fun _ => by kernel_rfl) rfl rfl


set_option maxRecDepth 100000 in
set_option maxHeartbeats 1600000 in
theorem sArrive_any (c : Cfg) (v t : Int) (w : World) (hp : PwO c w) : Calls Try.prog 97 #[.agg #[.int .u8 c.ob, .int .i64 c.inst, .int .i64 c.thr, .int .u8 c.kd, .int .i64 c.str, .int .i64 c.bits, .int .i64 c.cap, .int .i64 c.node, .int .i64 c.bat, .int .i64 c.chk, .int .u64 c.lim, .int .u64 c.most], .int .i64 v, .int .i64 t] w fun e w' => e = .returned (.tuple #[accV (stA c (sideK 1) v t), .int .i64 (stE c v t)]) ∧ Below w.heap.size w w' := by
  have HP := Lib.hid hp
  clear hp
  go_enter Try.func97, Try.ntmps97
  go_wp2_with fail
  have HR := Lib.hid (Box.new (w.alloc (.cells ⟨cfgL c⟩ 37)) 39 [.int .u8 0, .int .i64 0, .int .u64 0, .int .u64 0, .int .u64 0, .int .u64 0, .int .u64 0, .int .u64 0, .int .u64 0, .int .u64 0])
  have HB := Lib.hid (moreB (newB w (.cells ⟨cfgL c⟩ 37)) (.cells ⟨[.int .u8 0, .int .i64 0, .int .u64 0, .int .u64 0, .int .u64 0, .int .u64 0, .int .u64 0, .int .u64 0, .int .u64 0, .int .u64 0]⟩ 39))
  rw [World.size_alloc] at HR
  unfold cfgL at *
  generalize (w.alloc _).alloc _ = V at *
  refine (sCount_any c 1 v t V (HP.out.more HB.out)).mono ?_
  rintro e w1 ⟨rfl, hb⟩
  have HR := Lib.hid (HR.out.below hb)
  have HB := Lib.hid (keepB hb HB.out)
  clear hb
  generalize hY : stA c (sideK 1) v t = y
  generalize hE : stE c v t = E
  have HY := Lib.hid hY; have HE := Lib.hid hE
  clear hY hE
  rw [accV_form]
  have hr := HR.out
  have r0 := hr.c 0 rfl
  have r1 := hr.c 1 rfl
  have r2 := hr.c 2 rfl
  have r3 := hr.c 3 rfl
  have r4 := hr.c 4 rfl
  have r5 := hr.c 5 rfl
  have r6 := hr.c 6 rfl
  have r7 := hr.c 7 rfl
  have r8 := hr.c 8 rfl
  have r9 := hr.c 9 rfl
  have g0 := hr.f 0
  have g1 := hr.f 1
  have g2 := hr.f 2
  have g3 := hr.f 3
  have g4 := hr.f 4
  have g5 := hr.f 5
  have g6 := hr.f 6
  have g7 := hr.f 7
  have g8 := hr.f 8
  have g9 := hr.f 9
  clear hr
  go_wp2_with fail
  refine bodyPost_ret (v := .tuple #[.agg ⟨[.int .u8 y.k, .int .i64 y.at', .int .u64 y.old.t, .int .u64 y.old.a, .int .u64 y.old.b, .int .u64 y.old.c, .int .u64 y.new.t, .int .u64 y.new.a, .int .u64 y.new.b, .int .u64 y.new.c]⟩, .int .i64 E]) ?_ rfl ⟨by rw [HY.out, HE.out]; rfl, below_acc HB.out (by omega) _ _ _ _ _ _ _ _ _ _⟩
  exact (HR.out.acc _ _ _ _ _ _ _ _ _ _).results2 (t := 39) rfl (fun _ => by kernel_rfl) (fun _ => by kernel_rfl) rfl rfl

set_option maxRecDepth 100000 in
set_option maxHeartbeats 1600000 in
theorem sDepart_any (c : Cfg) (v t : Int) (w : World) (hp : PwO c w) : Calls Try.prog 98 #[.agg #[.int .u8 c.ob, .int .i64 c.inst, .int .i64 c.thr, .int .u8 c.kd, .int .i64 c.str, .int .i64 c.bits, .int .i64 c.cap, .int .i64 c.node, .int .i64 c.bat, .int .i64 c.chk, .int .u64 c.lim, .int .u64 c.most], .int .i64 v, .int .i64 t] w fun e w' => e = .returned (.tuple #[accV (stA c (sideK 0) v t), .int .i64 (stE c v t)]) ∧ Below w.heap.size w w' := by
  have HP := Lib.hid hp
  clear hp
  go_enter Try.func98, Try.ntmps98
  go_wp2_with fail
  have HR := Lib.hid (Box.new (w.alloc (.cells ⟨cfgL c⟩ 37)) 39 [.int .u8 0, .int .i64 0, .int .u64 0, .int .u64 0, .int .u64 0, .int .u64 0, .int .u64 0, .int .u64 0, .int .u64 0, .int .u64 0])
  have HB := Lib.hid (moreB (newB w (.cells ⟨cfgL c⟩ 37)) (.cells ⟨[.int .u8 0, .int .i64 0, .int .u64 0, .int .u64 0, .int .u64 0, .int .u64 0, .int .u64 0, .int .u64 0, .int .u64 0, .int .u64 0]⟩ 39))
  rw [World.size_alloc] at HR
  unfold cfgL at *
  generalize (w.alloc _).alloc _ = V at *
  refine (sCount_any c 0 v t V (HP.out.more HB.out)).mono ?_
  rintro e w1 ⟨rfl, hb⟩
  have HR := Lib.hid (HR.out.below hb)
  have HB := Lib.hid (keepB hb HB.out)
  clear hb
  generalize hY : stA c (sideK 0) v t = y
  generalize hE : stE c v t = E
  have HY := Lib.hid hY; have HE := Lib.hid hE
  clear hY hE
  rw [accV_form]
  have hr := HR.out
  have r0 := hr.c 0 rfl
  have r1 := hr.c 1 rfl
  have r2 := hr.c 2 rfl
  have r3 := hr.c 3 rfl
  have r4 := hr.c 4 rfl
  have r5 := hr.c 5 rfl
  have r6 := hr.c 6 rfl
  have r7 := hr.c 7 rfl
  have r8 := hr.c 8 rfl
  have r9 := hr.c 9 rfl
  have g0 := hr.f 0
  have g1 := hr.f 1
  have g2 := hr.f 2
  have g3 := hr.f 3
  have g4 := hr.f 4
  have g5 := hr.f 5
  have g6 := hr.f 6
  have g7 := hr.f 7
  have g8 := hr.f 8
  have g9 := hr.f 9
  clear hr
  go_wp2_with fail
  refine bodyPost_ret (v := .tuple #[.agg ⟨[.int .u8 y.k, .int .i64 y.at', .int .u64 y.old.t, .int .u64 y.old.a, .int .u64 y.old.b, .int .u64 y.old.c, .int .u64 y.new.t, .int .u64 y.new.a, .int .u64 y.new.b, .int .u64 y.new.c]⟩, .int .i64 E]) ?_ rfl ⟨by rw [HY.out, HE.out]; rfl, below_acc HB.out (by omega) _ _ _ _ _ _ _ _ _ _⟩
  exact (HR.out.acc _ _ _ _ _ _ _ _ _ _).results2 (t := 39) rfl (fun _ => by kernel_rfl) (fun _ => by kernel_rfl) rfl rfl

end Go.Proofs.Ytecjbgddjejjdaa
