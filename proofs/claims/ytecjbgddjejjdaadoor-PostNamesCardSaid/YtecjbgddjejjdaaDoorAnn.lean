/- Chapter 22: post.Announce. -/
import Derived.Test.YtecjbgddjejjdaaDoorOpF
import Derived.Test.YtecjbgddjejjdaaDoorOpR
import Derived.Test.YtecjbgddjejjdaaDoorPartJ
import Derived.Test.YtecjbgddjejjdaaDoorPartG
import Derived.Test.YtecjbgddjejjdaaDoorCellMem
namespace Go.Proofs.YtecjbgddjejjdaaDoor
open Go.RowKit

def Acc.none : Acc := ⟨0, 0, .zero, .zero⟩
theorem accV_form (x : Acc) : accV x = .agg #[.int .u8 x.k, .int .i64 x.at', .int .u64 x.old.t, .int .u64 x.old.a, .int .u64 x.old.b, .int .u64 x.old.c, .int .u64 x.new.t, .int .u64 x.new.a, .int .u64 x.new.b, .int .u64 x.new.c] := rfl
/-- A block of an access, stored anew. -/
theorem Box.acc {W : World} {h : Nat} {c0 c1 c2 c3 c4 c5 c6 c7 c8 c9 : Value} (hr : Box W h [c0, c1, c2, c3, c4, c5, c6, c7, c8, c9]) (v0 v1 v2 v3 v4 v5 v6 v7 v8 v9 : Value) :
    Box ((((((((((W.setCell ⟨h, 0, none⟩ v0).setCell ⟨h, 1, none⟩ v1).setCell ⟨h, 2, none⟩ v2).setCell ⟨h, 3, none⟩ v3).setCell ⟨h, 4, none⟩ v4).setCell ⟨h, 5, none⟩ v5).setCell ⟨h, 6, none⟩ v6).setCell ⟨h, 7, none⟩ v7).setCell ⟨h, 8, none⟩ v8).setCell ⟨h, 9, none⟩ v9) h [v0, v1, v2, v3, v4, v5, v6, v7, v8, v9] :=
  ((((((((((hr.set 0 v0).set 1 v1).set 2 v2).set 3 v3).set 4 v4).set 5 v5).set 6 v6).set 7 v7).set 8 v8).set 9 v9).as rfl
theorem below_acc {n : Nat} {w W : World} {h : Nat} (hb : Below n w W) (hh : n ≤ h) (v0 v1 v2 v3 v4 v5 v6 v7 v8 v9 : Value) :
    Below n w ((((((((((W.setCell ⟨h, 0, none⟩ v0).setCell ⟨h, 1, none⟩ v1).setCell ⟨h, 2, none⟩ v2).setCell ⟨h, 3, none⟩ v3).setCell ⟨h, 4, none⟩ v4).setCell ⟨h, 5, none⟩ v5).setCell ⟨h, 6, none⟩ v6).setCell ⟨h, 7, none⟩ v7).setCell ⟨h, 8, none⟩ v8).setCell ⟨h, 9, none⟩ v9) :=
  (((((((((hb.setCell (p := ⟨h, 0, none⟩) hh v0).setCell (p := ⟨h, 1, none⟩) hh v1).setCell (p := ⟨h, 2, none⟩) hh v2).setCell (p := ⟨h, 3, none⟩) hh v3).setCell (p := ⟨h, 4, none⟩) hh v4).setCell (p := ⟨h, 5, none⟩) hh v5).setCell (p := ⟨h, 6, none⟩) hh v6).setCell (p := ⟨h, 7, none⟩) hh v7).setCell (p := ⟨h, 8, none⟩) hh v8).setCell (p := ⟨h, 9, none⟩) hh v9

/-- The error of an announcing. -/
def annE (c : Cfg) (t : Int) (s k a b x : Nat) : Int :=
  if c.May then (if 0 ≤ t ∧ t < c.thr ∧ 1 ≤ s ∧ s ≤ 64 then (if objZ k = c.ob ∧ writesZ k = true then opE c k a b x else 50) else 2) else 40
def annA (c : Cfg) (t : Int) (s k a b x : Nat) : Acc := if annE c t s k a b x = 0 then ⟨2, atV c 4 t 0, ⟨0, 0, 0, 0⟩, ⟨s, a * 256 + k, b, x⟩⟩ else .none
theorem ann_no {c : Cfg} (h : ¬ c.May) (t : Int) (s k a b x : Nat) : annE c t s k a b x = 40 ∧ annA c t s k a b x = .none := by
  have : annE c t s k a b x = 40 := if_neg h
  exact ⟨this, if_neg (by rw [this]; decide)⟩
theorem ann_arg {c : Cfg} (h : c.May) {t : Int} {s : Nat} (g : ¬ (0 ≤ t ∧ t < c.thr ∧ 1 ≤ s ∧ s ≤ 64)) (k a b x : Nat) : annE c t s k a b x = 2 ∧ annA c t s k a b x = .none := by
  have : annE c t s k a b x = 2 := by unfold annE; rw [if_pos h, if_neg g]
  exact ⟨this, if_neg (by rw [this]; decide)⟩
theorem ann_op {c : Cfg} (h : c.May) {t : Int} {s k : Nat} (g : 0 ≤ t ∧ t < c.thr ∧ 1 ≤ s ∧ s ≤ 64) (q : ¬ (objZ k = c.ob ∧ writesZ k = true)) (a b x : Nat) : annE c t s k a b x = 50 ∧ annA c t s k a b x = .none := by
  have : annE c t s k a b x = 50 := by unfold annE; rw [if_pos h, if_pos g, if_neg q]
  exact ⟨this, if_neg (by rw [this]; decide)⟩
theorem ann_in {c : Cfg} (h : c.May) {t : Int} {s k : Nat} (g : 0 ≤ t ∧ t < c.thr ∧ 1 ≤ s ∧ s ≤ 64) (q : objZ k = c.ob ∧ writesZ k = true) (a b x : Nat) : annE c t s k a b x = opE c k a b x := by
  unfold annE; rw [if_pos h, if_pos g, if_pos q]
theorem slot_has {c : Cfg} {t : Int} (h : 0 ≤ t) : hasZ c.shp 4 t 0 = decide (t < c.thr) := by
  have e : c.shp.thr = c.thr.toNat := rfl
  by_cases g : t < c.thr
  · rw [decide_eq_true g]
    refine hasZ_t.2 ⟨h, by omega, ?_⟩
    simp only [hasP, plZ, countsN]
    simp
    omega
  · rw [decide_eq_false g]
    refine hasZ_f.2 fun q => g ?_
    have q3 := q.2.2
    simp only [hasP, plZ, countsN] at q3
    simp at q3
    omega
theorem slot_e {c : Cfg} (h : c.May) (t : Int) : atE c 4 t 0 = if 0 ≤ t ∧ t < c.thr then 0 else 2 := by
  by_cases h0 : 0 ≤ t
  · by_cases g : t < c.thr
    · rw [if_pos ⟨h0, g⟩]; exact atE_in h ((slot_has h0).trans (decide_eq_true g))
    · rw [if_neg (fun q => g q.2)]; exact atE_out h ((slot_has h0).trans (decide_eq_false g))
  · rw [if_neg (fun q => h0 q.1)]; exact atE_out h (hasZ_f.2 fun q => h0 q.1)

set_option maxRecDepth 100000 in
set_option maxHeartbeats 6400000 in
theorem Ann_any (c : Cfg) (t : Int) (s k a b x : Nat) (w : World) (hk : k < 256) (ha : a < 4294967296) (hb : b < 4294967296) (hx : x < 4294967296) (hp : Pw w) (hO : Ob w) (hW : Wr w) :
    Calls Tryd.prog 9 #[.agg #[.int .u8 c.ob, .int .i64 c.inst, .int .i64 c.thr, .int .u8 c.kd, .int .i64 c.str, .int .i64 c.bits, .int .i64 c.cap, .int .i64 c.node, .int .i64 c.bat, .int .i64 c.chk, .int .u64 c.lim, .int .u64 c.most], .int .i64 t, .int .u64 s, .agg #[.int .u8 k, .int .u32 a, .int .u32 b, .int .u32 x]] w fun e w' => e = .returned (.tuple #[accV (annA c t s k a b x), .int .i64 (annE c t s k a b x)]) ∧ Below w.heap.size w w' := by
  have HP := Lib.hid hp; have HOB := Lib.hid hO; have HWR := Lib.hid hW; have HH := Lib.hid (And.intro hk (And.intro ha (And.intro hb hx)))
  clear hp hO hW hk ha hb hx
  go_enter Tryd.func9, Tryd.ntmps9
  go_wp2_with fail
  have hx := ((Box.new w 24 (cfgL c)).alloc (.cells #[.int .u8 k, .int .u32 a, .int .u32 b, .int .u32 x] 27)).alloc (.cells ⟨[.int .u8 0, .int .i64 0, .int .u64 0, .int .u64 0, .int .u64 0, .int .u64 0, .int .u64 0, .int .u64 0, .int .u64 0, .int .u64 0]⟩ 31)
  have hq := (Box.new (w.alloc (.cells ⟨cfgL c⟩ 24)) 27 [.int .u8 k, .int .u32 a, .int .u32 b, .int .u32 x]).alloc (.cells ⟨[.int .u8 0, .int .i64 0, .int .u64 0, .int .u64 0, .int .u64 0, .int .u64 0, .int .u64 0, .int .u64 0, .int .u64 0, .int .u64 0]⟩ 31)
  have hr := Box.new ((w.alloc (.cells ⟨cfgL c⟩ 24)).alloc (.cells #[.int .u8 k, .int .u32 a, .int .u32 b, .int .u32 x] 27)) 31 [.int .u8 0, .int .i64 0, .int .u64 0, .int .u64 0, .int .u64 0, .int .u64 0, .int .u64 0, .int .u64 0, .int .u64 0, .int .u64 0]
  have HB := Lib.hid (moreB (moreB (newB w (.cells ⟨cfgL c⟩ 24)) (.cells #[.int .u8 k, .int .u32 a, .int .u32 b, .int .u32 x] 27)) (.cells ⟨[.int .u8 0, .int .i64 0, .int .u64 0, .int .u64 0, .int .u64 0, .int .u64 0, .int .u64 0, .int .u64 0, .int .u64 0, .int .u64 0]⟩ 31))
  simp only [World.size_alloc] at hq hr
  have HX := Lib.hid hx; have HQ := Lib.hid hq; have HR := Lib.hid hr
  clear hx hq hr
  unfold cfgL at *
  generalize ((w.alloc _).alloc _).alloc _ = V at *
  refine (Check_any c V).mono ?_
  rintro e w1 ⟨rfl, hb⟩
  have HQ := Lib.hid (HQ.out.below hb); have HR := Lib.hid (HR.out.below hb)
  have HB := Lib.hid (keepB hb HB.out); have HX := Lib.hid (HX.out.below hb); clear hb
  by_cases hm : c.May
  case neg =>
    rw [show checkE c = 40 by simp [checkE, hm]]
    obtain ⟨q1, q2⟩ := ann_no hm t s k a b x
    have HV := Lib.hid q2; have HE := Lib.hid q1
    clear hm q1 q2
    have hr := HR.out; have r0 := hr.c 0 rfl; have r1 := hr.c 1 rfl; have r2 := hr.c 2 rfl; have r3 := hr.c 3 rfl; have r4 := hr.c 4 rfl; have r5 := hr.c 5 rfl; have r6 := hr.c 6 rfl; have r7 := hr.c 7 rfl; have r8 := hr.c 8 rfl; have r9 := hr.c 9 rfl; have g0 := hr.f 0; have g1 := hr.f 1; have g2 := hr.f 2; have g3 := hr.f 3; have g4 := hr.f 4; have g5 := hr.f 5; have g6 := hr.f 6; have g7 := hr.f 7; have g8 := hr.f 8; have g9 := hr.f 9; clear hr
    go_wp2_with fail
    refine bodyPost_ret (v := .tuple #[.agg ⟨[.int .u8 0, .int .i64 0, .int .u64 0, .int .u64 0, .int .u64 0, .int .u64 0, .int .u64 0, .int .u64 0, .int .u64 0, .int .u64 0]⟩, .int .i64 40]) ?_ rfl ⟨by rw [HV.out, HE.out]; rfl, below_acc HB.out (by omega) _ _ _ _ _ _ _ _ _ _⟩
    exact (HR.out.acc _ _ _ _ _ _ _ _ _ _).results2 (t := 31) rfl (fun _ => by kernel_rfl) (fun _ => by kernel_rfl) rfl rfl
  rw [show checkE c = 0 by simp [checkE, hm]]
  have HM := Lib.hid hm
  clear hm
  have x0 := HX.out.c 0 rfl; have x1 := HX.out.c 1 rfl; have x2 := HX.out.c 2 rfl; have x3 := HX.out.c 3 rfl; have x4 := HX.out.c 4 rfl; have x5 := HX.out.c 5 rfl; have x6 := HX.out.c 6 rfl; have x7 := HX.out.c 7 rfl; have x8 := HX.out.c 8 rfl; have x9 := HX.out.c 9 rfl; have x10 := HX.out.c 10 rfl; have x11 := HX.out.c 11 rfl
  go_wp2_with fail
  refine (At_any c 4 t 0 w1 (HP.out.more HB.out) (by decide)).mono ?_
  rintro e w2 ⟨rfl, hb⟩
  rw [slot_e HM.out]
  generalize hat : atV c 4 t 0 = at4
  have HAT := Lib.hid hat
  clear hat
  clear x0 x1 x2 x3 x4 x5 x6 x7 x8 x9 x10 x11
  have HQ := Lib.hid (HQ.out.below hb); have HR := Lib.hid (HR.out.below hb)
  have HB := Lib.hid (keepB hb HB.out); have HX := Lib.hid (HX.out.below hb); clear hb
  by_cases hg : 0 ≤ t ∧ t < c.thr
  case neg =>
    rw [if_neg hg]
    obtain ⟨q1, q2⟩ := ann_arg HM.out (t := t) (s := s) (fun h => hg ⟨h.1, h.2.1⟩) k a b x
    have HV := Lib.hid q2; have HE := Lib.hid q1
    clear hg q1 q2
    have hr := HR.out; have r0 := hr.c 0 rfl; have r1 := hr.c 1 rfl; have r2 := hr.c 2 rfl; have r3 := hr.c 3 rfl; have r4 := hr.c 4 rfl; have r5 := hr.c 5 rfl; have r6 := hr.c 6 rfl; have r7 := hr.c 7 rfl; have r8 := hr.c 8 rfl; have r9 := hr.c 9 rfl; have g0 := hr.f 0; have g1 := hr.f 1; have g2 := hr.f 2; have g3 := hr.f 3; have g4 := hr.f 4; have g5 := hr.f 5; have g6 := hr.f 6; have g7 := hr.f 7; have g8 := hr.f 8; have g9 := hr.f 9; clear hr
    go_wp2_with fail
    refine bodyPost_ret (v := .tuple #[.agg ⟨[.int .u8 0, .int .i64 0, .int .u64 0, .int .u64 0, .int .u64 0, .int .u64 0, .int .u64 0, .int .u64 0, .int .u64 0, .int .u64 0]⟩, .int .i64 2]) ?_ rfl ⟨by rw [HV.out, HE.out]; rfl, below_acc HB.out (by omega) _ _ _ _ _ _ _ _ _ _⟩
    exact (HR.out.acc _ _ _ _ _ _ _ _ _ _).results2 (t := 31) rfl (fun _ => by kernel_rfl) (fun _ => by kernel_rfl) rfl rfl
  rw [if_pos hg]
  by_cases h1 : s < 1
  · obtain ⟨q1, q2⟩ := ann_arg HM.out (t := t) (s := s) (fun h => by omega) k a b x
    have HV := Lib.hid q2; have HE := Lib.hid q1
    have h1' : (s : Int) < 1 := by omega
    clear hg q1 q2
    have hr := HR.out; have r0 := hr.c 0 rfl; have r1 := hr.c 1 rfl; have r2 := hr.c 2 rfl; have r3 := hr.c 3 rfl; have r4 := hr.c 4 rfl; have r5 := hr.c 5 rfl; have r6 := hr.c 6 rfl; have r7 := hr.c 7 rfl; have r8 := hr.c 8 rfl; have r9 := hr.c 9 rfl; have g0 := hr.f 0; have g1 := hr.f 1; have g2 := hr.f 2; have g3 := hr.f 3; have g4 := hr.f 4; have g5 := hr.f 5; have g6 := hr.f 6; have g7 := hr.f 7; have g8 := hr.f 8; have g9 := hr.f 9; clear hr
    go_wp2_with fail
    refine bodyPost_ret (v := .tuple #[.agg ⟨[.int .u8 0, .int .i64 0, .int .u64 0, .int .u64 0, .int .u64 0, .int .u64 0, .int .u64 0, .int .u64 0, .int .u64 0, .int .u64 0]⟩, .int .i64 2]) ?_ rfl ⟨by rw [HV.out, HE.out]; rfl, below_acc HB.out (by omega) _ _ _ _ _ _ _ _ _ _⟩
    exact (HR.out.acc _ _ _ _ _ _ _ _ _ _).results2 (t := 31) rfl (fun _ => by kernel_rfl) (fun _ => by kernel_rfl) rfl rfl
  have i1 : (1 : Int) ≤ (s : Int) := by omega
  by_cases h2 : 64 < s
  · obtain ⟨q1, q2⟩ := ann_arg HM.out (t := t) (s := s) (fun h => by omega) k a b x
    have HV := Lib.hid q2; have HE := Lib.hid q1
    have h2' : (64 : Int) < (s : Int) := by omega
    clear hg q1 q2
    have hr := HR.out; have r0 := hr.c 0 rfl; have r1 := hr.c 1 rfl; have r2 := hr.c 2 rfl; have r3 := hr.c 3 rfl; have r4 := hr.c 4 rfl; have r5 := hr.c 5 rfl; have r6 := hr.c 6 rfl; have r7 := hr.c 7 rfl; have r8 := hr.c 8 rfl; have r9 := hr.c 9 rfl; have g0 := hr.f 0; have g1 := hr.f 1; have g2 := hr.f 2; have g3 := hr.f 3; have g4 := hr.f 4; have g5 := hr.f 5; have g6 := hr.f 6; have g7 := hr.f 7; have g8 := hr.f 8; have g9 := hr.f 9; clear hr
    go_wp2_with fail
    refine bodyPost_ret (v := .tuple #[.agg ⟨[.int .u8 0, .int .i64 0, .int .u64 0, .int .u64 0, .int .u64 0, .int .u64 0, .int .u64 0, .int .u64 0, .int .u64 0, .int .u64 0]⟩, .int .i64 2]) ?_ rfl ⟨by rw [HV.out, HE.out]; rfl, below_acc HB.out (by omega) _ _ _ _ _ _ _ _ _ _⟩
    exact (HR.out.acc _ _ _ _ _ _ _ _ _ _).results2 (t := 31) rfl (fun _ => by kernel_rfl) (fun _ => by kernel_rfl) rfl rfl
  have i2 : (s : Int) ≤ (64 : Int) := by omega
  have HG := Lib.hid (show 0 ≤ t ∧ t < c.thr ∧ 1 ≤ s ∧ s ≤ 64 by omega)
  clear hg h1 h2
  have x0 := HX.out.c 0 rfl; have x1 := HX.out.c 1 rfl; have x2 := HX.out.c 2 rfl; have x3 := HX.out.c 3 rfl; have x4 := HX.out.c 4 rfl; have x5 := HX.out.c 5 rfl; have x6 := HX.out.c 6 rfl; have x7 := HX.out.c 7 rfl; have x8 := HX.out.c 8 rfl; have x9 := HX.out.c 9 rfl; have x10 := HX.out.c 10 rfl; have x11 := HX.out.c 11 rfl
  have q0 := HQ.out.c 0 rfl
  have q1 := HQ.out.c 1 rfl
  have q2 := HQ.out.c 2 rfl
  have q3 := HQ.out.c 3 rfl
  go_wp2_with fail
  refine (opCheck_any c k a b x w2 HH.out.1 (by omega) (by omega) (by omega) (by have := HH.out; omega) (by have := HH.out; omega) (by have := HH.out; omega) (HOB.out.more HB.out)).mono ?_
  rintro e w3 ⟨rfl, hb⟩
  clear x0 x1 x2 x3 x4 x5 x6 x7 x8 x9 x10 x11
  clear q0 q1 q2 q3
  have HQ := Lib.hid (HQ.out.below hb); have HR := Lib.hid (HR.out.below hb)
  have HB := Lib.hid (keepB hb HB.out); have HX := Lib.hid (HX.out.below hb); clear hb
  have q0 := HQ.out.c 0 rfl
  by_cases ho : objZ k = c.ob
  case neg =>
    rw [opE_ob HM.out ho]
    obtain ⟨q1, q2⟩ := ann_op HM.out HG.out (fun h => ho h.1) a b x
    have HV := Lib.hid q2; have HE := Lib.hid q1
    clear ho q1 q2
    have hr := HR.out; have r0 := hr.c 0 rfl; have r1 := hr.c 1 rfl; have r2 := hr.c 2 rfl; have r3 := hr.c 3 rfl; have r4 := hr.c 4 rfl; have r5 := hr.c 5 rfl; have r6 := hr.c 6 rfl; have r7 := hr.c 7 rfl; have r8 := hr.c 8 rfl; have r9 := hr.c 9 rfl; have g0 := hr.f 0; have g1 := hr.f 1; have g2 := hr.f 2; have g3 := hr.f 3; have g4 := hr.f 4; have g5 := hr.f 5; have g6 := hr.f 6; have g7 := hr.f 7; have g8 := hr.f 8; have g9 := hr.f 9; clear hr
    go_wp2_with fail
    refine bodyPost_ret (v := .tuple #[.agg ⟨[.int .u8 0, .int .i64 0, .int .u64 0, .int .u64 0, .int .u64 0, .int .u64 0, .int .u64 0, .int .u64 0, .int .u64 0, .int .u64 0]⟩, .int .i64 50]) ?_ rfl ⟨by rw [HV.out, HE.out]; rfl, below_acc HB.out (by omega) _ _ _ _ _ _ _ _ _ _⟩
    exact (HR.out.acc _ _ _ _ _ _ _ _ _ _).results2 (t := 31) rfl (fun _ => by kernel_rfl) (fun _ => by kernel_rfl) rfl rfl
  have hopE := opE_fit HM.out (a := (a : Int)) (b := (b : Int)) (x := (x : Int)) ho
  have e50 : (opE c k a b x == 50) = false := by rw [hopE]; split <;> rfl
  clear hopE
  have HO := Lib.hid ho
  clear ho
  generalize hoe : opE c k a b x = E at *
  have HOE := Lib.hid hoe
  clear hoe
  go_wp2_with fail
  refine (Writes_any k w3 HH.out.1 (HWR.out.more HB.out)).mono ?_
  rintro e w4 ⟨rfl, rfl⟩
  cases hw : writesZ k
  · obtain ⟨q1, q2⟩ := ann_op HM.out HG.out (fun h => by rw [hw] at h; exact absurd h.2 (by decide)) a b x
    have HV := Lib.hid q2; have HE := Lib.hid q1
    clear q1 q2 hw
    have hr := HR.out; have r0 := hr.c 0 rfl; have r1 := hr.c 1 rfl; have r2 := hr.c 2 rfl; have r3 := hr.c 3 rfl; have r4 := hr.c 4 rfl; have r5 := hr.c 5 rfl; have r6 := hr.c 6 rfl; have r7 := hr.c 7 rfl; have r8 := hr.c 8 rfl; have r9 := hr.c 9 rfl; have g0 := hr.f 0; have g1 := hr.f 1; have g2 := hr.f 2; have g3 := hr.f 3; have g4 := hr.f 4; have g5 := hr.f 5; have g6 := hr.f 6; have g7 := hr.f 7; have g8 := hr.f 8; have g9 := hr.f 9; clear hr
    go_wp2_with fail
    refine bodyPost_ret (v := .tuple #[.agg ⟨[.int .u8 0, .int .i64 0, .int .u64 0, .int .u64 0, .int .u64 0, .int .u64 0, .int .u64 0, .int .u64 0, .int .u64 0, .int .u64 0]⟩, .int .i64 50]) ?_ rfl ⟨by rw [HV.out, HE.out]; rfl, below_acc HB.out (by omega) _ _ _ _ _ _ _ _ _ _⟩
    exact (HR.out.acc _ _ _ _ _ _ _ _ _ _).results2 (t := 31) rfl (fun _ => by kernel_rfl) (fun _ => by kernel_rfl) rfl rfl
  have hE := (ann_in HM.out HG.out ⟨HO.out, hw⟩ a b x).trans HOE.out
  clear hw
  by_cases h0 : E = 0
  · subst h0
    have HV := Lib.hid (show annA c t s k a b x = ⟨2, at4, ⟨0, 0, 0, 0⟩, ⟨s, a * 256 + k, b, x⟩⟩ by unfold annA; rw [if_pos hE, HAT.out])
    have HE := Lib.hid hE
    clear hE
    have q0 := HQ.out.c 0 rfl
    have q1 := HQ.out.c 1 rfl
    have q2 := HQ.out.c 2 rfl
    have q3 := HQ.out.c 3 rfl
    go_wp2_with fail
    refine (Laid_any s k a b x _ HH.out.1 HH.out.2.1 HH.out.2.2.1 HH.out.2.2.2).mono ?_
    rintro e w5 ⟨rfl, hb⟩
    rw [show laidV s k a b x = .agg #[.int .u64 s, .int .u64 ((a * 256 + k : Nat) : Int), .int .u64 b, .int .u64 x] from rfl]
    generalize hxw : a * 256 + k = xw at *
    clear q0 q1 q2 q3 hxw
    have HR := Lib.hid (HR.out.below hb)
    have HB := Lib.hid (keepB hb HB.out)
    clear hb
    have hr := HR.out; have r0 := hr.c 0 rfl; have r1 := hr.c 1 rfl; have r2 := hr.c 2 rfl; have r3 := hr.c 3 rfl; have r4 := hr.c 4 rfl; have r5 := hr.c 5 rfl; have r6 := hr.c 6 rfl; have r7 := hr.c 7 rfl; have r8 := hr.c 8 rfl; have r9 := hr.c 9 rfl; have g0 := hr.f 0; have g1 := hr.f 1; have g2 := hr.f 2; have g3 := hr.f 3; have g4 := hr.f 4; have g5 := hr.f 5; have g6 := hr.f 6; have g7 := hr.f 7; have g8 := hr.f 8; have g9 := hr.f 9; clear hr
    go_wp2_with fail
    refine bodyPost_ret (v := .tuple #[.agg ⟨[.int .u8 2, .int .i64 at4, .int .u64 0, .int .u64 0, .int .u64 0, .int .u64 0, .int .u64 s, .int .u64 xw, .int .u64 b, .int .u64 x]⟩, .int .i64 0]) ?_ rfl ⟨by rw [HV.out, HE.out]; rfl, below_acc HB.out (by omega) _ _ _ _ _ _ _ _ _ _⟩
    exact (HR.out.acc _ _ _ _ _ _ _ _ _ _).results2 (t := 31) rfl (fun _ => by kernel_rfl) (fun _ => by kernel_rfl) rfl rfl
  · have HV := Lib.hid (show annA c t s k a b x = .none from if_neg (by rw [hE]; exact h0))
    have HE := Lib.hid hE
    have e1 : (E != 0) = true := by simpa using h0
    clear hE h0
    have hr := HR.out; have r0 := hr.c 0 rfl; have r1 := hr.c 1 rfl; have r2 := hr.c 2 rfl; have r3 := hr.c 3 rfl; have r4 := hr.c 4 rfl; have r5 := hr.c 5 rfl; have r6 := hr.c 6 rfl; have r7 := hr.c 7 rfl; have r8 := hr.c 8 rfl; have r9 := hr.c 9 rfl; have g0 := hr.f 0; have g1 := hr.f 1; have g2 := hr.f 2; have g3 := hr.f 3; have g4 := hr.f 4; have g5 := hr.f 5; have g6 := hr.f 6; have g7 := hr.f 7; have g8 := hr.f 8; have g9 := hr.f 9; clear hr
    go_wp2_with fail
    refine bodyPost_ret (v := .tuple #[.agg ⟨[.int .u8 0, .int .i64 0, .int .u64 0, .int .u64 0, .int .u64 0, .int .u64 0, .int .u64 0, .int .u64 0, .int .u64 0, .int .u64 0]⟩, .int .i64 E]) ?_ rfl ⟨by rw [HV.out, HE.out]; rfl, below_acc HB.out (by omega) _ _ _ _ _ _ _ _ _ _⟩
    exact (HR.out.acc _ _ _ _ _ _ _ _ _ _).results2 (t := 31) rfl (fun _ => by kernel_rfl) (fun _ => by kernel_rfl) rfl rfl

end Go.Proofs.YtecjbgddjejjdaaDoor
