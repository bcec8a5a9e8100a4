/- Chapter 22: the reference's Announce. -/
import Derived.Test.YtecjbgddjejjdaaDoorAnn
import Derived.Test.YtecjbgddjejjdaaDoorPartB
namespace Go.Proofs.YtecjbgddjejjdaaDoor
open Go.RowKit

theorem cell_drew {U : World} {a : Addr} {x : Value} (h : U.cell? a = some x) : U.drew.cell? a = some x := by rw [World.cell?_drew]; exact h
/-- A block of an access, whatever it holds. -/
def RB10 (U : World) (b : Nat) : Prop := ∃ v0 v1 v2 v3 v4 v5 v6 v7 v8 v9 : Value, Box U b [v0, v1, v2, v3, v4, v5, v6, v7, v8, v9]
theorem RB10.below {U V : World} {b : Nat} (h : RB10 U b) (hb : Below U.heap.size U V) : RB10 V b := by
  obtain ⟨v0, v1, v2, v3, v4, v5, v6, v7, v8, v9, h⟩ := h
  exact ⟨v0, v1, v2, v3, v4, v5, v6, v7, v8, v9, h.below hb⟩
theorem RB10.drew {U : World} {b : Nat} (h : RB10 U b) : RB10 U.drew b := h
theorem RB10.acc {W : World} {h : Nat} (hr : RB10 W h) (v0 v1 v2 v3 v4 v5 v6 v7 v8 v9 : Value) :
    RB10 ((((((((((W.setCell ⟨h, 0, none⟩ v0).setCell ⟨h, 1, none⟩ v1).setCell ⟨h, 2, none⟩ v2).setCell ⟨h, 3, none⟩ v3).setCell ⟨h, 4, none⟩ v4).setCell ⟨h, 5, none⟩ v5).setCell ⟨h, 6, none⟩ v6).setCell ⟨h, 7, none⟩ v7).setCell ⟨h, 8, none⟩ v8).setCell ⟨h, 9, none⟩ v9) h := by
  obtain ⟨u0, u1, u2, u3, u4, u5, u6, u7, u8, u9, hr⟩ := hr
  exact ⟨_, _, _, _, _, _, _, _, _, _, hr.acc v0 v1 v2 v3 v4 v5 v6 v7 v8 v9⟩
theorem farA {W : World} {h : Nat} {a : Addr} {x v0 v1 v2 v3 v4 v5 v6 v7 v8 v9 : Value} (ha : a.block ≠ h) (hx : W.cell? a = some x) :
    ((((((((((W.setCell ⟨h, 0, none⟩ v0).setCell ⟨h, 1, none⟩ v1).setCell ⟨h, 2, none⟩ v2).setCell ⟨h, 3, none⟩ v3).setCell ⟨h, 4, none⟩ v4).setCell ⟨h, 5, none⟩ v5).setCell ⟨h, 6, none⟩ v6).setCell ⟨h, 7, none⟩ v7).setCell ⟨h, 8, none⟩ v8).setCell ⟨h, 9, none⟩ v9).cell? a = some x := by
  have f : ∀ (U : World) (j : Nat) (u : Value), (U.setCell ⟨h, j, none⟩ u).cell? a = U.cell? a := fun U j u => World.cell?_setCell_far U ⟨h, j, none⟩ a u (fun e => ha e.symm)
  rw [f, f, f, f, f, f, f, f, f, f]; exact hx

theorem store_keep16 {n : Nat} {w W : World} {a b h : Nat} {u0 u1 u2 u3 u4 u5 u6 u7 u8 u9 u10 u11 u12 u13 u14 u15 v0 v1 v2 v3 v4 v5 v6 v7 v8 v9 : Value} (ha : a < h) (hb' : b < h) (hh : n ≤ h) (H : Below n w W ∧ RB10 W h ∧ W.cell? ⟨a, 0, none⟩ = some u0 ∧ W.cell? ⟨a, 1, none⟩ = some u1 ∧ W.cell? ⟨a, 2, none⟩ = some u2 ∧ W.cell? ⟨a, 3, none⟩ = some u3 ∧ W.cell? ⟨a, 4, none⟩ = some u4 ∧ W.cell? ⟨a, 5, none⟩ = some u5 ∧ W.cell? ⟨a, 6, none⟩ = some u6 ∧ W.cell? ⟨a, 7, none⟩ = some u7 ∧ W.cell? ⟨a, 8, none⟩ = some u8 ∧ W.cell? ⟨a, 9, none⟩ = some u9 ∧ W.cell? ⟨a, 10, none⟩ = some u10 ∧ W.cell? ⟨a, 11, none⟩ = some u11 ∧ W.cell? ⟨b, 0, none⟩ = some u12 ∧ W.cell? ⟨b, 1, none⟩ = some u13 ∧ W.cell? ⟨b, 2, none⟩ = some u14 ∧ W.cell? ⟨b, 3, none⟩ = some u15) :
    Below n w ((((((((((W.setCell ⟨h, 0, none⟩ v0).setCell ⟨h, 1, none⟩ v1).setCell ⟨h, 2, none⟩ v2).setCell ⟨h, 3, none⟩ v3).setCell ⟨h, 4, none⟩ v4).setCell ⟨h, 5, none⟩ v5).setCell ⟨h, 6, none⟩ v6).setCell ⟨h, 7, none⟩ v7).setCell ⟨h, 8, none⟩ v8).setCell ⟨h, 9, none⟩ v9) ∧ RB10 ((((((((((W.setCell ⟨h, 0, none⟩ v0).setCell ⟨h, 1, none⟩ v1).setCell ⟨h, 2, none⟩ v2).setCell ⟨h, 3, none⟩ v3).setCell ⟨h, 4, none⟩ v4).setCell ⟨h, 5, none⟩ v5).setCell ⟨h, 6, none⟩ v6).setCell ⟨h, 7, none⟩ v7).setCell ⟨h, 8, none⟩ v8).setCell ⟨h, 9, none⟩ v9) h ∧ ((((((((((W.setCell ⟨h, 0, none⟩ v0).setCell ⟨h, 1, none⟩ v1).setCell ⟨h, 2, none⟩ v2).setCell ⟨h, 3, none⟩ v3).setCell ⟨h, 4, none⟩ v4).setCell ⟨h, 5, none⟩ v5).setCell ⟨h, 6, none⟩ v6).setCell ⟨h, 7, none⟩ v7).setCell ⟨h, 8, none⟩ v8).setCell ⟨h, 9, none⟩ v9).cell? ⟨a, 0, none⟩ = some u0 ∧ ((((((((((W.setCell ⟨h, 0, none⟩ v0).setCell ⟨h, 1, none⟩ v1).setCell ⟨h, 2, none⟩ v2).setCell ⟨h, 3, none⟩ v3).setCell ⟨h, 4, none⟩ v4).setCell ⟨h, 5, none⟩ v5).setCell ⟨h, 6, none⟩ v6).setCell ⟨h, 7, none⟩ v7).setCell ⟨h, 8, none⟩ v8).setCell ⟨h, 9, none⟩ v9).cell? ⟨a, 1, none⟩ = some u1 ∧ ((((((((((W.setCell ⟨h, 0, none⟩ v0).setCell ⟨h, 1, none⟩ v1).setCell ⟨h, 2, none⟩ v2).setCell ⟨h, 3, none⟩ v3).setCell ⟨h, 4, none⟩ v4).setCell ⟨h, 5, none⟩ v5).setCell ⟨h, 6, none⟩ v6).setCell ⟨h, 7, none⟩ v7).setCell ⟨h, 8, none⟩ v8).setCell ⟨h, 9, none⟩ v9).cell? ⟨a, 2, none⟩ = some u2 ∧ ((((((((((W.setCell ⟨h, 0, none⟩ v0).setCell ⟨h, 1, none⟩ v1).setCell ⟨h, 2, none⟩ v2).setCell ⟨h, 3, none⟩ v3).setCell ⟨h, 4, none⟩ v4).setCell ⟨h, 5, none⟩ v5).setCell ⟨h, 6, none⟩ v6).setCell ⟨h, 7, none⟩ v7).setCell ⟨h, 8, none⟩ v8).setCell ⟨h, 9, none⟩ v9).cell? ⟨a, 3, none⟩ = some u3 ∧ ((((((((((W.setCell ⟨h, 0, none⟩ v0).setCell ⟨h, 1, none⟩ v1).setCell ⟨h, 2, none⟩ v2).setCell ⟨h, 3, none⟩ v3).setCell ⟨h, 4, none⟩ v4).setCell ⟨h, 5, none⟩ v5).setCell ⟨h, 6, none⟩ v6).setCell ⟨h, 7, none⟩ v7).setCell ⟨h, 8, none⟩ v8).setCell ⟨h, 9, none⟩ v9).cell? ⟨a, 4, none⟩ = some u4 ∧ ((((((((((W.setCell ⟨h, 0, none⟩ v0).setCell ⟨h, 1, none⟩ v1).setCell ⟨h, 2, none⟩ v2).setCell ⟨h, 3, none⟩ v3).setCell ⟨h, 4, none⟩ v4).setCell ⟨h, 5, none⟩ v5).setCell ⟨h, 6, none⟩ v6).setCell ⟨h, 7, none⟩ v7).setCell ⟨h, 8, none⟩ v8).setCell ⟨h, 9, none⟩ v9).cell? ⟨a, 5, none⟩ = some u5 ∧ ((((((((((W.setCell ⟨h, 0, none⟩ v0).setCell ⟨h, 1, none⟩ v1).setCell ⟨h, 2, none⟩ v2).setCell ⟨h, 3, none⟩ v3).setCell ⟨h, 4, none⟩ v4).setCell ⟨h, 5, none⟩ v5).setCell ⟨h, 6, none⟩ v6).setCell ⟨h, 7, none⟩ v7).setCell ⟨h, 8, none⟩ v8).setCell ⟨h, 9, none⟩ v9).cell? ⟨a, 6, none⟩ = some u6 ∧ ((((((((((W.setCell ⟨h, 0, none⟩ v0).setCell ⟨h, 1, none⟩ v1).setCell ⟨h, 2, none⟩ v2).setCell ⟨h, 3, none⟩ v3).setCell ⟨h, 4, none⟩ v4).setCell ⟨h, 5, none⟩ v5).setCell ⟨h, 6, none⟩ v6).setCell ⟨h, 7, none⟩ v7).setCell ⟨h, 8, none⟩ v8).setCell ⟨h, 9, none⟩ v9).cell? ⟨a, 7, none⟩ = some u7 ∧ ((((((((((W.setCell ⟨h, 0, none⟩ v0).setCell ⟨h, 1, none⟩ v1).setCell ⟨h, 2, none⟩ v2).setCell ⟨h, 3, none⟩ v3).setCell ⟨h, 4, none⟩ v4).setCell ⟨h, 5, none⟩ v5).setCell ⟨h, 6, none⟩ v6).setCell ⟨h, 7, none⟩ v7).setCell ⟨h, 8, none⟩ v8).setCell ⟨h, 9, none⟩ v9).cell? ⟨a, 8, none⟩ = some u8 ∧ ((((((((((W.setCell ⟨h, 0, none⟩ v0).setCell ⟨h, 1, none⟩ v1).setCell ⟨h, 2, none⟩ v2).setCell ⟨h, 3, none⟩ v3).setCell ⟨h, 4, none⟩ v4).setCell ⟨h, 5, none⟩ v5).setCell ⟨h, 6, none⟩ v6).setCell ⟨h, 7, none⟩ v7).setCell ⟨h, 8, none⟩ v8).setCell ⟨h, 9, none⟩ v9).cell? ⟨a, 9, none⟩ = some u9 ∧ ((((((((((W.setCell ⟨h, 0, none⟩ v0).setCell ⟨h, 1, none⟩ v1).setCell ⟨h, 2, none⟩ v2).setCell ⟨h, 3, none⟩ v3).setCell ⟨h, 4, none⟩ v4).setCell ⟨h, 5, none⟩ v5).setCell ⟨h, 6, none⟩ v6).setCell ⟨h, 7, none⟩ v7).setCell ⟨h, 8, none⟩ v8).setCell ⟨h, 9, none⟩ v9).cell? ⟨a, 10, none⟩ = some u10 ∧ ((((((((((W.setCell ⟨h, 0, none⟩ v0).setCell ⟨h, 1, none⟩ v1).setCell ⟨h, 2, none⟩ v2).setCell ⟨h, 3, none⟩ v3).setCell ⟨h, 4, none⟩ v4).setCell ⟨h, 5, none⟩ v5).setCell ⟨h, 6, none⟩ v6).setCell ⟨h, 7, none⟩ v7).setCell ⟨h, 8, none⟩ v8).setCell ⟨h, 9, none⟩ v9).cell? ⟨a, 11, none⟩ = some u11 ∧ ((((((((((W.setCell ⟨h, 0, none⟩ v0).setCell ⟨h, 1, none⟩ v1).setCell ⟨h, 2, none⟩ v2).setCell ⟨h, 3, none⟩ v3).setCell ⟨h, 4, none⟩ v4).setCell ⟨h, 5, none⟩ v5).setCell ⟨h, 6, none⟩ v6).setCell ⟨h, 7, none⟩ v7).setCell ⟨h, 8, none⟩ v8).setCell ⟨h, 9, none⟩ v9).cell? ⟨b, 0, none⟩ = some u12 ∧ ((((((((((W.setCell ⟨h, 0, none⟩ v0).setCell ⟨h, 1, none⟩ v1).setCell ⟨h, 2, none⟩ v2).setCell ⟨h, 3, none⟩ v3).setCell ⟨h, 4, none⟩ v4).setCell ⟨h, 5, none⟩ v5).setCell ⟨h, 6, none⟩ v6).setCell ⟨h, 7, none⟩ v7).setCell ⟨h, 8, none⟩ v8).setCell ⟨h, 9, none⟩ v9).cell? ⟨b, 1, none⟩ = some u13 ∧ ((((((((((W.setCell ⟨h, 0, none⟩ v0).setCell ⟨h, 1, none⟩ v1).setCell ⟨h, 2, none⟩ v2).setCell ⟨h, 3, none⟩ v3).setCell ⟨h, 4, none⟩ v4).setCell ⟨h, 5, none⟩ v5).setCell ⟨h, 6, none⟩ v6).setCell ⟨h, 7, none⟩ v7).setCell ⟨h, 8, none⟩ v8).setCell ⟨h, 9, none⟩ v9).cell? ⟨b, 2, none⟩ = some u14 ∧ ((((((((((W.setCell ⟨h, 0, none⟩ v0).setCell ⟨h, 1, none⟩ v1).setCell ⟨h, 2, none⟩ v2).setCell ⟨h, 3, none⟩ v3).setCell ⟨h, 4, none⟩ v4).setCell ⟨h, 5, none⟩ v5).setCell ⟨h, 6, none⟩ v6).setCell ⟨h, 7, none⟩ v7).setCell ⟨h, 8, none⟩ v8).setCell ⟨h, 9, none⟩ v9).cell? ⟨b, 3, none⟩ = some u15 := by
  obtain ⟨hb, hr, c0, c1, c2, c3, c4, c5, c6, c7, c8, c9, c10, c11, c12, c13, c14, c15⟩ := H
  exact ⟨below_acc hb hh _ _ _ _ _ _ _ _ _ _, hr.acc _ _ _ _ _ _ _ _ _ _, farA (Nat.ne_of_lt ha) c0, farA (Nat.ne_of_lt ha) c1, farA (Nat.ne_of_lt ha) c2, farA (Nat.ne_of_lt ha) c3, farA (Nat.ne_of_lt ha) c4, farA (Nat.ne_of_lt ha) c5, farA (Nat.ne_of_lt ha) c6, farA (Nat.ne_of_lt ha) c7, farA (Nat.ne_of_lt ha) c8, farA (Nat.ne_of_lt ha) c9, farA (Nat.ne_of_lt ha) c10, farA (Nat.ne_of_lt ha) c11, farA (Nat.ne_of_lt hb') c12, farA (Nat.ne_of_lt hb') c13, farA (Nat.ne_of_lt hb') c14, farA (Nat.ne_of_lt hb') c15⟩


set_option maxRecDepth 100000 in
set_option maxHeartbeats 6400000 in
theorem rAnn_any (c : Cfg) (t : Int) (s k a b x : Nat) (w : World) (hk : k < 256) (ha : a < 4294967296) (hb : b < 4294967296) (hx : x < 4294967296) (hmo : 0 ≤ c.most) :
    Calls Tryd.prog 10 #[.agg #[.int .u8 c.ob, .int .i64 c.inst, .int .i64 c.thr, .int .u8 c.kd, .int .i64 c.str, .int .i64 c.bits, .int .i64 c.cap, .int .i64 c.node, .int .i64 c.bat, .int .i64 c.chk, .int .u64 c.lim, .int .u64 c.most], .int .i64 t, .int .u64 s, .agg #[.int .u8 k, .int .u32 a, .int .u32 b, .int .u32 x]] w fun e w' => e = .returned (.tuple #[accV (annA c t s k a b x), .int .i64 (annE c t s k a b x)]) ∧ Below w.heap.size w w' := by
  have HMO := Lib.hid hmo; have HH := Lib.hid (And.intro hk (And.intro ha (And.intro hb hx)))
  clear hmo hk ha hb hx
  go_enter Tryd.func10, Tryd.ntmps10
  go_wp2_with fail
  have hx := ((Box.new w 24 (cfgL c)).alloc (.cells #[.int .u8 k, .int .u32 a, .int .u32 b, .int .u32 x] 27)).alloc (.cells ⟨[.int .u8 0, .int .i64 0, .int .u64 0, .int .u64 0, .int .u64 0, .int .u64 0, .int .u64 0, .int .u64 0, .int .u64 0, .int .u64 0]⟩ 31)
  have hq := (Box.new (w.alloc (.cells ⟨cfgL c⟩ 24)) 27 [.int .u8 k, .int .u32 a, .int .u32 b, .int .u32 x]).alloc (.cells ⟨[.int .u8 0, .int .i64 0, .int .u64 0, .int .u64 0, .int .u64 0, .int .u64 0, .int .u64 0, .int .u64 0, .int .u64 0, .int .u64 0]⟩ 31)
  have hr := Box.new ((w.alloc (.cells ⟨cfgL c⟩ 24)).alloc (.cells #[.int .u8 k, .int .u32 a, .int .u32 b, .int .u32 x] 27)) 31 [.int .u8 0, .int .i64 0, .int .u64 0, .int .u64 0, .int .u64 0, .int .u64 0, .int .u64 0, .int .u64 0, .int .u64 0, .int .u64 0]
  have HB := Lib.hid (moreB (moreB (newB w (.cells ⟨cfgL c⟩ 24)) (.cells #[.int .u8 k, .int .u32 a, .int .u32 b, .int .u32 x] 27)) (.cells ⟨[.int .u8 0, .int .i64 0, .int .u64 0, .int .u64 0, .int .u64 0, .int .u64 0, .int .u64 0, .int .u64 0, .int .u64 0, .int .u64 0]⟩ 31))
  simp only [World.size_alloc] at hq hr
  have HX := Lib.hid hx; have HQ := Lib.hid hq; have HR := Lib.hid hr
  clear hx hq hr
  unfold cfgL at *
  generalize ((w.alloc _).alloc _).alloc _ = V at *
  refine (MayBe_any c V HMO.out).mono ?_
  rintro e w1 ⟨rfl, hb⟩
  have HQ := Lib.hid (HQ.out.below hb); have HR := Lib.hid (HR.out.below hb)
  have HB := Lib.hid (keepB hb HB.out); have HX := Lib.hid (HX.out.below hb); clear hb
  by_cases hm : c.May
  case neg =>
    rw [show mayC c = false by simp [mayC, hm]]
    obtain ⟨q1, q2⟩ := ann_no hm t s k a b x
    have HV := Lib.hid q2; have HE := Lib.hid q1
    clear hm q1 q2
    have hr := HR.out; have r0 := hr.c 0 rfl; have r1 := hr.c 1 rfl; have r2 := hr.c 2 rfl; have r3 := hr.c 3 rfl; have r4 := hr.c 4 rfl; have r5 := hr.c 5 rfl; have r6 := hr.c 6 rfl; have r7 := hr.c 7 rfl; have r8 := hr.c 8 rfl; have r9 := hr.c 9 rfl; have g0 := hr.f 0; have g1 := hr.f 1; have g2 := hr.f 2; have g3 := hr.f 3; have g4 := hr.f 4; have g5 := hr.f 5; have g6 := hr.f 6; have g7 := hr.f 7; have g8 := hr.f 8; have g9 := hr.f 9; clear hr
    (go_wp2_with fail; refine bodyPost_ret (v := .tuple #[.agg ⟨[.int .u8 0, .int .i64 0, .int .u64 0, .int .u64 0, .int .u64 0, .int .u64 0, .int .u64 0, .int .u64 0, .int .u64 0, .int .u64 0]⟩, .int .i64 40]) ?_ rfl ⟨by rw [HV.out, HE.out]; rfl, below_acc HB.out (by omega) _ _ _ _ _ _ _ _ _ _⟩; exact (HR.out.acc _ _ _ _ _ _ _ _ _ _).results2 (t := 31) rfl (fun _ => by kernel_rfl) (fun _ => by kernel_rfl) rfl rfl)
  rw [show mayC c = true from (mayC_iff c).2 hm]
  have HM := Lib.hid hm
  clear hm
  have x2 := HX.out.c 2 rfl
  by_cases hg : 0 ≤ t ∧ t < c.thr ∧ 1 ≤ s ∧ s ≤ 64
  case neg =>
    obtain ⟨q1, q2⟩ := ann_arg HM.out hg k a b x
    have HV := Lib.hid q2; have HE := Lib.hid q1
    clear q1 q2
    have hr := HR.out; have r0 := hr.c 0 rfl; have r1 := hr.c 1 rfl; have r2 := hr.c 2 rfl; have r3 := hr.c 3 rfl; have r4 := hr.c 4 rfl; have r5 := hr.c 5 rfl; have r6 := hr.c 6 rfl; have r7 := hr.c 7 rfl; have r8 := hr.c 8 rfl; have r9 := hr.c 9 rfl; have g0 := hr.f 0; have g1 := hr.f 1; have g2 := hr.f 2; have g3 := hr.f 3; have g4 := hr.f 4; have g5 := hr.f 5; have g6 := hr.f 6; have g7 := hr.f 7; have g8 := hr.f 8; have g9 := hr.f 9; clear hr
    by_cases h1 : t < 0
    · clear hg
      (go_wp2_with fail; refine bodyPost_ret (v := .tuple #[.agg ⟨[.int .u8 0, .int .i64 0, .int .u64 0, .int .u64 0, .int .u64 0, .int .u64 0, .int .u64 0, .int .u64 0, .int .u64 0, .int .u64 0]⟩, .int .i64 2]) ?_ rfl ⟨by rw [HV.out, HE.out]; rfl, below_acc HB.out (by omega) _ _ _ _ _ _ _ _ _ _⟩; exact (HR.out.acc _ _ _ _ _ _ _ _ _ _).results2 (t := 31) rfl (fun _ => by kernel_rfl) (fun _ => by kernel_rfl) rfl rfl)
    have h1' : 0 ≤ t := by omega
    by_cases h2 : c.thr ≤ t
    · clear hg h1
      (go_wp2_with fail; refine bodyPost_ret (v := .tuple #[.agg ⟨[.int .u8 0, .int .i64 0, .int .u64 0, .int .u64 0, .int .u64 0, .int .u64 0, .int .u64 0, .int .u64 0, .int .u64 0, .int .u64 0]⟩, .int .i64 2]) ?_ rfl ⟨by rw [HV.out, HE.out]; rfl, below_acc HB.out (by omega) _ _ _ _ _ _ _ _ _ _⟩; exact (HR.out.acc _ _ _ _ _ _ _ _ _ _).results2 (t := 31) rfl (fun _ => by kernel_rfl) (fun _ => by kernel_rfl) rfl rfl)
    have h2' : t < c.thr := by omega
    by_cases h3 : s < 1
    · have h3' : (s : Int) < 1 := by omega
      clear hg h1 h2 h3
      (go_wp2_with fail; refine bodyPost_ret (v := .tuple #[.agg ⟨[.int .u8 0, .int .i64 0, .int .u64 0, .int .u64 0, .int .u64 0, .int .u64 0, .int .u64 0, .int .u64 0, .int .u64 0, .int .u64 0]⟩, .int .i64 2]) ?_ rfl ⟨by rw [HV.out, HE.out]; rfl, below_acc HB.out (by omega) _ _ _ _ _ _ _ _ _ _⟩; exact (HR.out.acc _ _ _ _ _ _ _ _ _ _).results2 (t := 31) rfl (fun _ => by kernel_rfl) (fun _ => by kernel_rfl) rfl rfl)
    have h3' : (1 : Int) ≤ (s : Int) := by omega
    have h4' : (64 : Int) < (s : Int) := by omega
    clear hg h1 h2 h3
    (go_wp2_with fail; refine bodyPost_ret (v := .tuple #[.agg ⟨[.int .u8 0, .int .i64 0, .int .u64 0, .int .u64 0, .int .u64 0, .int .u64 0, .int .u64 0, .int .u64 0, .int .u64 0, .int .u64 0]⟩, .int .i64 2]) ?_ rfl ⟨by rw [HV.out, HE.out]; rfl, below_acc HB.out (by omega) _ _ _ _ _ _ _ _ _ _⟩; exact (HR.out.acc _ _ _ _ _ _ _ _ _ _).results2 (t := 31) rfl (fun _ => by kernel_rfl) (fun _ => by kernel_rfl) rfl rfl)
  have HG := Lib.hid hg
  obtain ⟨g1', g2', g3', g4'⟩ := hg
  have i1 : (1 : Int) ≤ (s : Int) := by omega
  have i2 : (s : Int) ≤ (64 : Int) := by omega
  clear g3' g4'
  have x0 := HX.out.c 0 rfl
  have q0 := HQ.out.c 0 rfl
  have HOO := Lib.hid (show ∀ m, Calls Tryd.prog 31 #[.int .u8 k] (w1.drewN m) fun e w' => e = .returned (.int .u8 (objZ k)) ∧ w' = w1.drewN m from fun m => (rObject_any k _ (by omega)).mono fun _ _ ⟨p, q⟩ => ⟨p, q.symm⟩)
  have HWW := Lib.hid (show ∀ m, Calls Tryd.prog 32 #[.int .u8 k] (w1.drewN m) fun e w' => e = .returned (.bool (writesZ k)) ∧ w' = w1.drewN m from fun m => (rWrites_any k _).mono fun _ _ ⟨p, q⟩ => ⟨p, q.symm⟩)
  by_cases ho : objZ k = c.ob
  case neg =>
    obtain ⟨q1, q2⟩ := ann_op HM.out HG.out (fun h => ho h.1) a b x
    have HV := Lib.hid q2; have HE := Lib.hid q1
    have e1 : (objZ k != c.ob) = true := by simpa using ho
    generalize objZ k = ob at *
    clear ho q1 q2
    go_wp2_with fail
    go_quiet ((go_at_call 31; exact Calls.quiet_of_same (HOO.out _)))
    have HB := Lib.hid (below_drewN HB.out nq)
    have HR := Lib.hid (HR.out.drewN nq)
    clear HOO HWW HX HQ x0 q0 x2
    generalize w1.drewN nq = wx at *
    have hr := HR.out; have r0 := hr.c 0 rfl; have r1 := hr.c 1 rfl; have r2 := hr.c 2 rfl; have r3 := hr.c 3 rfl; have r4 := hr.c 4 rfl; have r5 := hr.c 5 rfl; have r6 := hr.c 6 rfl; have r7 := hr.c 7 rfl; have r8 := hr.c 8 rfl; have r9 := hr.c 9 rfl; have g0 := hr.f 0; have g1 := hr.f 1; have g2 := hr.f 2; have g3 := hr.f 3; have g4 := hr.f 4; have g5 := hr.f 5; have g6 := hr.f 6; have g7 := hr.f 7; have g8 := hr.f 8; have g9 := hr.f 9; clear hr
    (go_wp2_with fail; refine bodyPost_ret (v := .tuple #[.agg ⟨[.int .u8 0, .int .i64 0, .int .u64 0, .int .u64 0, .int .u64 0, .int .u64 0, .int .u64 0, .int .u64 0, .int .u64 0, .int .u64 0]⟩, .int .i64 50]) ?_ rfl ⟨by rw [HV.out, HE.out]; rfl, below_acc HB.out (by omega) _ _ _ _ _ _ _ _ _ _⟩; exact (HR.out.acc _ _ _ _ _ _ _ _ _ _).results2 (t := 31) rfl (fun _ => by kernel_rfl) (fun _ => by kernel_rfl) rfl rfl)
  have e1 : (objZ k != c.ob) = false := by simpa using ho
  have HO := Lib.hid ho
  cases hw : writesZ k
  · rw [hw] at HWW
    obtain ⟨q1, q2⟩ := ann_op HM.out HG.out (fun h => by rw [hw] at h; exact absurd h.2 (by decide)) a b x
    have HV := Lib.hid q2; have HE := Lib.hid q1
    generalize objZ k = ob at *
    clear ho q1 q2 hw
    go_wp2_with fail
    go_quiet (first | (go_at_call 31; exact Calls.quiet_of_same (HOO.out _)) | (go_at_call 32; exact Calls.quiet_of_same (HWW.out _)))
    have HB := Lib.hid (below_drewN HB.out nq)
    have HR := Lib.hid (HR.out.drewN nq)
    clear HOO HWW HX HQ x0 q0 x2
    generalize w1.drewN nq = wx at *
    have hr := HR.out; have r0 := hr.c 0 rfl; have r1 := hr.c 1 rfl; have r2 := hr.c 2 rfl; have r3 := hr.c 3 rfl; have r4 := hr.c 4 rfl; have r5 := hr.c 5 rfl; have r6 := hr.c 6 rfl; have r7 := hr.c 7 rfl; have r8 := hr.c 8 rfl; have r9 := hr.c 9 rfl; have g0 := hr.f 0; have g1 := hr.f 1; have g2 := hr.f 2; have g3 := hr.f 3; have g4 := hr.f 4; have g5 := hr.f 5; have g6 := hr.f 6; have g7 := hr.f 7; have g8 := hr.f 8; have g9 := hr.f 9; clear hr
    (go_wp2_with fail; refine bodyPost_ret (v := .tuple #[.agg ⟨[.int .u8 0, .int .i64 0, .int .u64 0, .int .u64 0, .int .u64 0, .int .u64 0, .int .u64 0, .int .u64 0, .int .u64 0, .int .u64 0]⟩, .int .i64 50]) ?_ rfl ⟨by rw [HV.out, HE.out]; rfl, below_acc HB.out (by omega) _ _ _ _ _ _ _ _ _ _⟩; exact (HR.out.acc _ _ _ _ _ _ _ _ _ _).results2 (t := 31) rfl (fun _ => by kernel_rfl) (fun _ => by kernel_rfl) rfl rfl)
  rw [hw] at HWW
  have hE := ann_in HM.out HG.out ⟨ho, hw⟩ a b x
  have HE0 := Lib.hid hE
  generalize hob : objZ k = ob at *
  clear ho hw hE hob
  go_wp2_with fail
  go_quiet (first | (go_at_call 31; exact Calls.quiet_of_same (HOO.out _)) | (go_at_call 32; exact Calls.quiet_of_same (HWW.out _)))
  have HB := Lib.hid (below_drewN HB.out nq)
  have HR := Lib.hid (HR.out.drewN nq); have HX := Lib.hid (HX.out.drewN nq); have HQ := Lib.hid (HQ.out.drewN nq)
  clear HOO HWW x0 q0 x2
  generalize w1.drewN nq = wx at *
  have x0 := HX.out.c 0 rfl; have x1 := HX.out.c 1 rfl; have x2 := HX.out.c 2 rfl; have x3 := HX.out.c 3 rfl; have x4 := HX.out.c 4 rfl; have x5 := HX.out.c 5 rfl; have x6 := HX.out.c 6 rfl; have x7 := HX.out.c 7 rfl; have x8 := HX.out.c 8 rfl; have x9 := HX.out.c 9 rfl; have x10 := HX.out.c 10 rfl; have x11 := HX.out.c 11 rfl
  have q0 := HQ.out.c 0 rfl
  have q1 := HQ.out.c 1 rfl
  have q2 := HQ.out.c 2 rfl
  have q3 := HQ.out.c 3 rfl
  go_wp2_with fail
  refine (ropCheck_any c k a b x wx (by omega) HMO.out (by omega) (by omega) (by omega) (by have := HH.out; omega) (by have := HH.out; omega) (by have := HH.out; omega)).mono ?_
  rintro e w3 ⟨rfl, hb⟩
  generalize hoe : opE c k a b x = E at *
  have HOE := Lib.hid hoe
  clear x0 x1 x2 x3 x4 x5 x6 x7 x8 x9 x10 x11
  clear q0 q1 q2 q3 hoe
  have HQ := Lib.hid (HQ.out.below hb); have HR := Lib.hid (HR.out.below hb)
  have HB := Lib.hid (keepB hb HB.out); have HX := Lib.hid (HX.out.below hb); clear hb
  by_cases h0 : E = 0
  case neg =>
    have HV := Lib.hid (show annA c t s k a b x = .none from if_neg (by rw [HE0.out]; exact h0))
    have HE := HE0
    have e1 : (E != 0) = true := by simpa using h0
    clear h0
    have hr := HR.out; have r0 := hr.c 0 rfl; have r1 := hr.c 1 rfl; have r2 := hr.c 2 rfl; have r3 := hr.c 3 rfl; have r4 := hr.c 4 rfl; have r5 := hr.c 5 rfl; have r6 := hr.c 6 rfl; have r7 := hr.c 7 rfl; have r8 := hr.c 8 rfl; have r9 := hr.c 9 rfl; have g0 := hr.f 0; have g1 := hr.f 1; have g2 := hr.f 2; have g3 := hr.f 3; have g4 := hr.f 4; have g5 := hr.f 5; have g6 := hr.f 6; have g7 := hr.f 7; have g8 := hr.f 8; have g9 := hr.f 9; clear hr
    (go_wp2_with fail; refine bodyPost_ret (v := .tuple #[.agg ⟨[.int .u8 0, .int .i64 0, .int .u64 0, .int .u64 0, .int .u64 0, .int .u64 0, .int .u64 0, .int .u64 0, .int .u64 0, .int .u64 0]⟩, .int .i64 E]) ?_ rfl ⟨by rw [HV.out, HE.out]; rfl, below_acc HB.out (by omega) _ _ _ _ _ _ _ _ _ _⟩; exact (HR.out.acc _ _ _ _ _ _ _ _ _ _).results2 (t := 31) rfl (fun _ => by kernel_rfl) (fun _ => by kernel_rfl) rfl rfl)
  subst h0
  generalize hat : atV c 4 t 0 = at4
  have HV := Lib.hid (show annA c t s k a b x = ⟨2, at4, ⟨0, 0, 0, 0⟩, ⟨s, a * 256 + k, b, x⟩⟩ by unfold annA; rw [if_pos HE0.out, hat])
  have HE := HE0
  obtain ⟨tn, rfl⟩ := Int.eq_ofNat_of_zero_le g1'
  have hsl := (slot_has (c := c) g1').trans (decide_eq_true g2')
  have HWH := Lib.hid (fun (U : World) (_ : Below w.heap.size w U) => (show Calls Tryd.prog 34 #[.agg #[.int .u8 c.ob, .int .i64 c.inst, .int .i64 c.thr, .int .u8 c.kd, .int .i64 c.str, .int .i64 c.bits, .int .i64 c.cap, .int .i64 c.node, .int .i64 c.bat, .int .i64 c.chk, .int .u64 c.lim, .int .u64 c.most], .agg #[.int .u8 4, .int .i64 (tn : Int), .int .i64 0]] U fun e w' => e = .returned (.int .i64 at4) ∧ Below U.heap.size U w' by
    rw [← hat, atV_in HM.out hsl]
    exact Where_any c ⟨4, tn, 0⟩ U HM.out (hasZ_t.1 hsl).2.2))
  have HLD := Lib.hid (fun (U : World) (_ : Below w.heap.size w U) => (show Calls Tryd.prog 35 #[.int .u64 s, .agg #[.int .u8 k, .int .u32 a, .int .u32 b, .int .u32 x]] U fun e w' => e = .returned (.agg #[.int .u64 s, .int .u64 ((a * 256 + k : Nat) : Int), .int .u64 b, .int .u64 x]) ∧ Below U.heap.size U w' from rLaid_any s k a b x U HH.out.1 HH.out.2.1 HH.out.2.2.1 HH.out.2.2.2))
  generalize hxw : a * 256 + k = xw at *
  clear hat hsl hxw g1' g2' i1 i2
  have x0 := HX.out.c 0 rfl; have x1 := HX.out.c 1 rfl; have x2 := HX.out.c 2 rfl; have x3 := HX.out.c 3 rfl; have x4 := HX.out.c 4 rfl; have x5 := HX.out.c 5 rfl; have x6 := HX.out.c 6 rfl; have x7 := HX.out.c 7 rfl; have x8 := HX.out.c 8 rfl; have x9 := HX.out.c 9 rfl; have x10 := HX.out.c 10 rfl; have x11 := HX.out.c 11 rfl
  have q0 := HQ.out.c 0 rfl
  have q1 := HQ.out.c 1 rfl
  have q2 := HQ.out.c 2 rfl
  have q3 := HQ.out.c 3 rfl
  have HRB := Lib.hid (show RB10 w3 (w.heap.size + 1 + 1) from ⟨_, _, _, _, _, _, _, _, _, _, HR.out⟩)
  go_wp2_with fail
  go_region_held3 (fun U => Below w.heap.size w U ∧ RB10 U (w.heap.size + 1 + 1) ∧ U.cell? ⟨w.heap.size, 0, none⟩ = some (.int .u8 c.ob) ∧ U.cell? ⟨w.heap.size, 1, none⟩ = some (.int .i64 c.inst) ∧ U.cell? ⟨w.heap.size, 2, none⟩ = some (.int .i64 c.thr) ∧ U.cell? ⟨w.heap.size, 3, none⟩ = some (.int .u8 c.kd) ∧ U.cell? ⟨w.heap.size, 4, none⟩ = some (.int .i64 c.str) ∧ U.cell? ⟨w.heap.size, 5, none⟩ = some (.int .i64 c.bits) ∧ U.cell? ⟨w.heap.size, 6, none⟩ = some (.int .i64 c.cap) ∧ U.cell? ⟨w.heap.size, 7, none⟩ = some (.int .i64 c.node) ∧ U.cell? ⟨w.heap.size, 8, none⟩ = some (.int .i64 c.bat) ∧ U.cell? ⟨w.heap.size, 9, none⟩ = some (.int .i64 c.chk) ∧ U.cell? ⟨w.heap.size, 10, none⟩ = some (.int .u64 c.lim) ∧ U.cell? ⟨w.heap.size, 11, none⟩ = some (.int .u64 c.most) ∧ U.cell? ⟨w.heap.size + 1, 0, none⟩ = some (.int .u8 k) ∧ U.cell? ⟨w.heap.size + 1, 1, none⟩ = some (.int .u32 a) ∧ U.cell? ⟨w.heap.size + 1, 2, none⟩ = some (.int .u32 b) ∧ U.cell? ⟨w.heap.size + 1, 3, none⟩ = some (.int .u32 x)) ((first | (with_reducible exact store_keep16 (by omega) (by omega) (by omega) (by assumption)) | (first | (with_reducible exact store_keep (by omega) (by omega) (by assumption)) | ((try go_split_ands); (repeat' apply And.intro); all_goals with_reducible first | assumption | exact HB.out | exact Below.drew HB.out | exact RB10.drew HRB.out | exact cell_drew (by assumption) | exact keepC hb (by assumption) | exact keepB hb (by assumption) | exact RB10.below (by assumption) hb | exact keepC hb (cell_drew (by assumption)) | exact keepB hb (Below.drew (by assumption)) | exact RB10.below (RB10.drew (by assumption)) hb)))) (first
    | (go_at_call 34; (with_reducible refine (HWH.out _ (And.left (by assumption))).mono ?_); rintro e w' ⟨rfl, hb⟩; (with_reducible have hrb : RB10 _ (w.heap.size + 1 + 1) := And.left (And.right (by assumption))); have hrb2 := hrb.below hb; obtain ⟨v0, v1, v2, v3, v4, v5, v6, v7, v8, v9, hr⟩ := hrb2; have r0 := hr.c 0 rfl; have r1 := hr.c 1 rfl; have r2 := hr.c 2 rfl; have r3 := hr.c 3 rfl; have r4 := hr.c 4 rfl; have r5 := hr.c 5 rfl; have r6 := hr.c 6 rfl; have r7 := hr.c 7 rfl; have r8 := hr.c 8 rfl; have r9 := hr.c 9 rfl; have g0 := hr.f 0; have g1 := hr.f 1; have g2 := hr.f 2; have g3 := hr.f 3; have g4 := hr.f 4; have g5 := hr.f 5; have g6 := hr.f 6; have g7 := hr.f 7; have g8 := hr.f 8; have g9 := hr.f 9)
    | (go_at_call 35; (with_reducible refine (HLD.out _ (And.left (by assumption))).mono ?_); rintro e w' ⟨rfl, hb⟩; (with_reducible have hrb : RB10 _ (w.heap.size + 1 + 1) := And.left (And.right (by assumption))); have hrb2 := hrb.below hb; obtain ⟨v0, v1, v2, v3, v4, v5, v6, v7, v8, v9, hr⟩ := hrb2; have r0 := hr.c 0 rfl; have r1 := hr.c 1 rfl; have r2 := hr.c 2 rfl; have r3 := hr.c 3 rfl; have r4 := hr.c 4 rfl; have r5 := hr.c 5 rfl; have r6 := hr.c 6 rfl; have r7 := hr.c 7 rfl; have r8 := hr.c 8 rfl; have r9 := hr.c 9 rfl; have g0 := hr.f 0; have g1 := hr.f 1; have g2 := hr.f 2; have g3 := hr.f 3; have g4 := hr.f 4; have g5 := hr.f 5; have g6 := hr.f 6; have g7 := hr.f 7; have g8 := hr.f 8; have g9 := hr.f 9))
  all_goals have hbw : Below w.heap.size w w' := keepB hb (keepB (by assumption) (Below.drew HB.out))
  all_goals go_wp2_with fail
  all_goals refine bodyPost_ret (v := .tuple #[.agg ⟨[.int .u8 2, .int .i64 at4, .int .u64 0, .int .u64 0, .int .u64 0, .int .u64 0, .int .u64 s, .int .u64 xw, .int .u64 b, .int .u64 x]⟩, .int .i64 0]) ?_ rfl ⟨by rw [HV.out, HE.out]; rfl, below_acc hbw (by omega) _ _ _ _ _ _ _ _ _ _⟩
  all_goals exact (hr.acc _ _ _ _ _ _ _ _ _ _).results2 (t := 31) rfl (fun _ => by kernel_rfl) (fun _ => by kernel_rfl) rfl rfl

end Go.Proofs.YtecjbgddjejjdaaDoor
