/- Chapter 19: mark.at. -/
import Derived.Test.YtecjbgddjejjdaaMark
namespace Go.Proofs.Ytecjbgddjejjdaa
open Go.RowKit



/-- A block of an access, stored anew. -/
theorem Box.acc {W : World} {h : Nat} {c0 c1 c2 c3 c4 c5 c6 c7 c8 c9 : Value} (hr : Box W h [c0, c1, c2, c3, c4, c5, c6, c7, c8, c9]) (v0 v1 v2 v3 v4 v5 v6 v7 v8 v9 : Value) :
    Box ((((((((((W.setCell ⟨h, 0, none⟩ v0).setCell ⟨h, 1, none⟩ v1).setCell ⟨h, 2, none⟩ v2).setCell ⟨h, 3, none⟩ v3).setCell ⟨h, 4, none⟩ v4).setCell ⟨h, 5, none⟩ v5).setCell ⟨h, 6, none⟩ v6).setCell ⟨h, 7, none⟩ v7).setCell ⟨h, 8, none⟩ v8).setCell ⟨h, 9, none⟩ v9) h [v0, v1, v2, v3, v4, v5, v6, v7, v8, v9] :=
  ((((((((((hr.set 0 v0).set 1 v1).set 2 v2).set 3 v3).set 4 v4).set 5 v5).set 6 v6).set 7 v7).set 8 v8).set 9 v9).as rfl
theorem below_acc {n : Nat} {w W : World} {h : Nat} (hb : Below n w W) (hh : n ≤ h) (v0 v1 v2 v3 v4 v5 v6 v7 v8 v9 : Value) :
    Below n w ((((((((((W.setCell ⟨h, 0, none⟩ v0).setCell ⟨h, 1, none⟩ v1).setCell ⟨h, 2, none⟩ v2).setCell ⟨h, 3, none⟩ v3).setCell ⟨h, 4, none⟩ v4).setCell ⟨h, 5, none⟩ v5).setCell ⟨h, 6, none⟩ v6).setCell ⟨h, 7, none⟩ v7).setCell ⟨h, 8, none⟩ v8).setCell ⟨h, 9, none⟩ v9) :=
  (((((((((hb.setCell (p := ⟨h, 0, none⟩) hh v0).setCell (p := ⟨h, 1, none⟩) hh v1).setCell (p := ⟨h, 2, none⟩) hh v2).setCell (p := ⟨h, 3, none⟩) hh v3).setCell (p := ⟨h, 4, none⟩) hh v4).setCell (p := ⟨h, 5, none⟩) hh v5).setCell (p := ⟨h, 6, none⟩) hh v6).setCell (p := ⟨h, 7, none⟩) hh v7).setCell (p := ⟨h, 8, none⟩) hh v8).setCell (p := ⟨h, 9, none⟩) hh v9

set_option maxRecDepth 100000 in
set_option maxHeartbeats 3200000 in
theorem markAt_any (c : Cfg) (v t : Int) (x : Acc) (w : World) (hp : PwO c w) :
    Calls Try.prog 81 #[.agg #[.int .u8 c.ob, .int .i64 c.inst, .int .i64 c.thr, .int .u8 c.kd, .int .i64 c.str, .int .i64 c.bits, .int .i64 c.cap, .int .i64 c.node, .int .i64 c.bat, .int .i64 c.chk, .int .u64 c.lim, .int .u64 c.most], .int .i64 v, .int .i64 t, .agg #[.int .u8 x.k, .int .i64 x.at', .int .u64 x.old.t, .int .u64 x.old.a, .int .u64 x.old.b, .int .u64 x.old.c, .int .u64 x.new.t, .int .u64 x.new.a, .int .u64 x.new.b, .int .u64 x.new.c]] w fun e w' => e = .returned (.tuple #[accV (mkA c v t x), .int .i64 (mkE c v t)]) ∧ Below w.heap.size w w' := by
  have HP := Lib.hid hp
  clear hp
  go_enter Try.func81, Try.ntmps81
  go_wp2_with fail
  have hx := (((Box.new w 37 (cfgL c)).alloc (.cells ⟨[.int .u8 x.k, .int .i64 x.at', .int .u64 x.old.t, .int .u64 x.old.a, .int .u64 x.old.b, .int .u64 x.old.c, .int .u64 x.new.t, .int .u64 x.new.a, .int .u64 x.new.b, .int .u64 x.new.c]⟩ 39)).alloc (.cells ⟨[.int .u8 0, .int .i64 0, .int .u64 0, .int .u64 0, .int .u64 0, .int .u64 0, .int .u64 0, .int .u64 0, .int .u64 0, .int .u64 0]⟩ 39)).alloc (.cells #[.int .i64 v, .int .i64 2, .int .i64 t, .int .i64 c.thr] 3)
  have ha := ((Box.new (w.alloc (.cells ⟨cfgL c⟩ 37)) 39 [.int .u8 x.k, .int .i64 x.at', .int .u64 x.old.t, .int .u64 x.old.a, .int .u64 x.old.b, .int .u64 x.old.c, .int .u64 x.new.t, .int .u64 x.new.a, .int .u64 x.new.b, .int .u64 x.new.c]).alloc (.cells ⟨[.int .u8 0, .int .i64 0, .int .u64 0, .int .u64 0, .int .u64 0, .int .u64 0, .int .u64 0, .int .u64 0, .int .u64 0, .int .u64 0]⟩ 39)).alloc (.cells #[.int .i64 v, .int .i64 2, .int .i64 t, .int .i64 c.thr] 3)
  have hr := (Box.new ((w.alloc (.cells ⟨cfgL c⟩ 37)).alloc (.cells ⟨[.int .u8 x.k, .int .i64 x.at', .int .u64 x.old.t, .int .u64 x.old.a, .int .u64 x.old.b, .int .u64 x.old.c, .int .u64 x.new.t, .int .u64 x.new.a, .int .u64 x.new.b, .int .u64 x.new.c]⟩ 39)) 39 [.int .u8 0, .int .i64 0, .int .u64 0, .int .u64 0, .int .u64 0, .int .u64 0, .int .u64 0, .int .u64 0, .int .u64 0, .int .u64 0]).alloc (.cells #[.int .i64 v, .int .i64 2, .int .i64 t, .int .i64 c.thr] 3)
  have hs := Box.new (((w.alloc (.cells ⟨cfgL c⟩ 37)).alloc (.cells ⟨[.int .u8 x.k, .int .i64 x.at', .int .u64 x.old.t, .int .u64 x.old.a, .int .u64 x.old.b, .int .u64 x.old.c, .int .u64 x.new.t, .int .u64 x.new.a, .int .u64 x.new.b, .int .u64 x.new.c]⟩ 39)).alloc (.cells ⟨[.int .u8 0, .int .i64 0, .int .u64 0, .int .u64 0, .int .u64 0, .int .u64 0, .int .u64 0, .int .u64 0, .int .u64 0, .int .u64 0]⟩ 39)) 3 [.int .i64 v, .int .i64 2, .int .i64 t, .int .i64 c.thr]
  have HB := Lib.hid (moreB (moreB (moreB (newB w (.cells ⟨cfgL c⟩ 37)) (.cells ⟨[.int .u8 x.k, .int .i64 x.at', .int .u64 x.old.t, .int .u64 x.old.a, .int .u64 x.old.b, .int .u64 x.old.c, .int .u64 x.new.t, .int .u64 x.new.a, .int .u64 x.new.b, .int .u64 x.new.c]⟩ 39)) (.cells ⟨[.int .u8 0, .int .i64 0, .int .u64 0, .int .u64 0, .int .u64 0, .int .u64 0, .int .u64 0, .int .u64 0, .int .u64 0, .int .u64 0]⟩ 39)) (.cells #[.int .i64 v, .int .i64 2, .int .i64 t, .int .i64 c.thr] 3))
  simp only [World.size_alloc] at ha hr hs
  have HX := Lib.hid hx; have HA := Lib.hid ha; have HR := Lib.hid hr
  unfold cfgL at *
  generalize (((w.alloc _).alloc _).alloc _).alloc _ = V at *
  refine (check4_any c _ v t V hs).mono ?_
  rintro e w1 ⟨rfl, hb⟩
  have HA := Lib.hid (HA.out.below hb); have HR := Lib.hid (HR.out.below hb)
  clear hx ha hr hs
  have HB := Lib.hid (keepB hb HB.out); have HX := Lib.hid (HX.out.below hb); clear hb
  by_cases he : mkE c v t = 0
  · have HE := Lib.hid he
    have HV := Lib.hid (show mkA c v t x = ⟨x.k, atV c 6 v t, x.old, x.new⟩ from if_pos he)
    rw [he]
    clear he
    have x0 := HX.out.c 0 rfl; have x1 := HX.out.c 1 rfl; have x2 := HX.out.c 2 rfl; have x3 := HX.out.c 3 rfl; have x4 := HX.out.c 4 rfl; have x5 := HX.out.c 5 rfl; have x6 := HX.out.c 6 rfl; have x7 := HX.out.c 7 rfl; have x8 := HX.out.c 8 rfl; have x9 := HX.out.c 9 rfl; have x10 := HX.out.c 10 rfl; have x11 := HX.out.c 11 rfl
    go_wp2_with fail
    refine (At_any c 6 v t _ (HP.out.more HB.out) (by omega)).mono ?_
    rintro e w2 ⟨rfl, hb⟩
    generalize hat : atV c 6 v t = q at *
    generalize atE c 6 v t = q'
    have hA := (HA.out.below hb).set 1 (.int .i64 q)
    have hA0 := HA.out.below hb
    have a1 := hA0.c 1 rfl
    have f1 := hA0.f 1
    have HA := Lib.hid hA0
    have HR := Lib.hid (HR.out.below hb)
    clear x0 x1 x2 x3 x4 x5 x6 x7 x8 x9 x10 x11
    have HB := Lib.hid (keepB hb HB.out); have HX := Lib.hid (HX.out.below hb); clear hb
    clear hat hA hA0
    have hr := HR.out
    have a0 := HA.out.c 0 rfl
    have a1 := HA.out.c 1 rfl
    have a2 := HA.out.c 2 rfl
    have a3 := HA.out.c 3 rfl
    have a4 := HA.out.c 4 rfl
    have a5 := HA.out.c 5 rfl
    have a6 := HA.out.c 6 rfl
    have a7 := HA.out.c 7 rfl
    have a8 := HA.out.c 8 rfl
    have a9 := HA.out.c 9 rfl
    have r0 := hr.c 0 rfl
    have r1 := hr.c 1 rfl
    have r2 := hr.c 2 rfl
    have r3 := hr.c 3 rfl
    have r4 := hr.c 4 rfl
    have r5 := hr.c 5 rfl
    have r6 := hr.c 6 rfl
    have r7 := hr.c 7 rfl
    have r8 := hr.c 8 rfl
    have r9 := hr.c 9 rfl
    have g0 := hr.f 0
    have g1 := hr.f 1
    have g2 := hr.f 2
    have g3 := hr.f 3
    have g4 := hr.f 4
    have g5 := hr.f 5
    have g6 := hr.f 6
    have g7 := hr.f 7
    have g8 := hr.f 8
    have g9 := hr.f 9
    clear hr
    go_wp2_with fail
    have hr2 := HR.out.far (a := ⟨w.heap.size + 1, 1, none⟩) (by simp only; omega) (.int .i64 q)
    have hb2 := HB.out.setCell (p := ⟨w.heap.size + 1, 1, none⟩) (by simp only; omega) (.int .i64 q)
    refine bodyPost_ret (v := .tuple #[.agg ⟨[.int .u8 x.k, .int .i64 q, .int .u64 x.old.t, .int .u64 x.old.a, .int .u64 x.old.b, .int .u64 x.old.c, .int .u64 x.new.t, .int .u64 x.new.a, .int .u64 x.new.b, .int .u64 x.new.c]⟩, .int .i64 0]) ?_ rfl ⟨by rw [HV.out, HE.out]; rfl, below_acc hb2 (by omega) _ _ _ _ _ _ _ _ _ _⟩
    exact (hr2.acc _ _ _ _ _ _ _ _ _ _).results2 (t := 39) rfl (fun _ => by kernel_rfl) (fun _ => by kernel_rfl) rfl rfl
  · have HV := Lib.hid (show mkA c v t x = .none from if_neg he)
    have e1 : (mkE c v t != 0) = true := by simpa using he
    generalize hE : mkE c v t = E at *
    have HE := Lib.hid hE
    clear hE he
    have hr := HR.out
    have r0 := hr.c 0 rfl
    have r1 := hr.c 1 rfl
    have r2 := hr.c 2 rfl
    have r3 := hr.c 3 rfl
    have r4 := hr.c 4 rfl
    have r5 := hr.c 5 rfl
    have r6 := hr.c 6 rfl
    have r7 := hr.c 7 rfl
    have r8 := hr.c 8 rfl
    have r9 := hr.c 9 rfl
    have g0 := hr.f 0
    have g1 := hr.f 1
    have g2 := hr.f 2
    have g3 := hr.f 3
    have g4 := hr.f 4
    have g5 := hr.f 5
    have g6 := hr.f 6
    have g7 := hr.f 7
    have g8 := hr.f 8
    have g9 := hr.f 9
    clear hr
    go_wp2_with fail
    refine bodyPost_ret (v := .tuple #[.agg ⟨[.int .u8 0, .int .i64 0, .int .u64 0, .int .u64 0, .int .u64 0, .int .u64 0, .int .u64 0, .int .u64 0, .int .u64 0, .int .u64 0]⟩, .int .i64 E]) ?_ rfl ⟨by rw [HV.out, HE.out]; rfl, below_acc HB.out (by omega) _ _ _ _ _ _ _ _ _ _⟩
    exact (HR.out.acc _ _ _ _ _ _ _ _ _ _).results2 (t := 39) rfl (fun _ => by kernel_rfl) (fun _ => by kernel_rfl) rfl rfl

end Go.Proofs.Ytecjbgddjejjdaa
