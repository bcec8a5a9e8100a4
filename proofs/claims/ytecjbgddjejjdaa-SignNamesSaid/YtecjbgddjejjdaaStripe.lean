/- Chapter 20: stripe.may, of, at, count, Arrive, Depart, Full. -/
import Derived.Test.YtecjbgddjejjdaaPlainStripe
import Derived.Test.YtecjbgddjejjdaaPartJ
import Derived.Test.YtecjbgddjejjdaaMarkC
namespace Go.Proofs.Ytecjbgddjejjdaa
open Go.RowKit

set_option maxRecDepth 100000 in
theorem sMay_any (c : Cfg) (w : World) : Calls Try.prog 103 #[.agg #[.int .u8 c.ob, .int .i64 c.inst, .int .i64 c.thr, .int .u8 c.kd, .int .i64 c.str, .int .i64 c.bits, .int .i64 c.cap, .int .i64 c.node, .int .i64 c.bat, .int .i64 c.chk, .int .u64 c.lim, .int .u64 c.most]] w fun e w' => e = .returned (.bool (stripesB c)) ∧ Below w.heap.size w w' := by
  go_enter Try.func103, Try.ntmps103
  go_wp2_with fail
  have HX := Lib.hid (Box.new w 37 (cfgL c))
  have HB := Lib.hid (newB w (.cells ⟨cfgL c⟩ 37))
  unfold cfgL at *
  generalize w.alloc _ = V at *
  refine (Check_any c V).mono ?_
  rintro e w1 ⟨rfl, hb⟩
  have HB := Lib.hid (keepB hb HB.out); have HX := Lib.hid (HX.out.below hb); clear hb
  have x3 := HX.out.c 3 rfl
  by_cases hm : c.May
  · rw [show checkE c = 0 by simp [checkE, hm]]
    by_cases hkd : c.kd = 2
    · have e1 : (c.kd == 2) = true := by simp [hkd]
      have HZ := Lib.hid (show stripesB c = true from decide_eq_true ⟨hm, hkd⟩)
      clear hm hkd
      go_wp2_with fail
      go_ret
      exact ⟨ret_bool (by rw [HZ.out]), HB.out⟩
    · have e1 : (c.kd == 2) = false := by simp [hkd]
      have HZ := Lib.hid (show stripesB c = false from decide_eq_false fun h => hkd h.2)
      clear hm hkd
      go_wp2_with fail
      go_ret
      exact ⟨ret_bool (by rw [HZ.out]), HB.out⟩
  · rw [show checkE c = 40 by simp [checkE, hm]]
    have HZ := Lib.hid (show stripesB c = false from decide_eq_false fun h => hm h.1)
    clear hm
    go_wp2_with fail
    go_ret
    exact ⟨ret_bool (by rw [HZ.out]), HB.out⟩

/-- The part of a side. -/
def sideK (s : Int) : Int := if s = 0 then 8 else 7
theorem sOf_any (s : Int) (w : World) : Calls Try.prog 106 #[.int .i64 s] w fun e w' => e = .returned (.int .u8 (sideK s)) ∧ Below w.heap.size w w' := by
  by_cases h : s = 0
  · have e1 : (s == 0) = true := by simp [h]
    have HZ := Lib.hid (show sideK s = 8 from if_pos h)
    clear h
    go_enter Try.func106, Try.ntmps106
    go_wp2_with fail
    go_ret
    exact ⟨by rw [HZ.out]; rfl, Below.refl _ _⟩
  · have e1 : (s == 0) = false := by simp [h]
    have HZ := Lib.hid (show sideK s = 7 from if_neg h)
    clear h
    go_enter Try.func106, Try.ntmps106
    go_wp2_with fail
    go_ret
    exact ⟨by rw [HZ.out]; rfl, Below.refl _ _⟩
theorem sideK_or (s : Int) : sideK s = 7 ∨ sideK s = 8 := by unfold sideK; split <;> omega
theorem sideK_pos (s : Int) : 0 ≤ sideK s := by unfold sideK; split <;> omega


set_option maxRecDepth 100000 in
set_option maxHeartbeats 3200000 in
theorem sAt_any (c : Cfg) (s v t : Int) (x : Acc) (w : World) (hp : PwO c w) :
    Calls Try.prog 105 #[.agg #[.int .u8 c.ob, .int .i64 c.inst, .int .i64 c.thr, .int .u8 c.kd, .int .i64 c.str, .int .i64 c.bits, .int .i64 c.cap, .int .i64 c.node, .int .i64 c.bat, .int .i64 c.chk, .int .u64 c.lim, .int .u64 c.most], .int .i64 s, .int .i64 v, .int .i64 t, .agg #[.int .u8 x.k, .int .i64 x.at', .int .u64 x.old.t, .int .u64 x.old.a, .int .u64 x.old.b, .int .u64 x.old.c, .int .u64 x.new.t, .int .u64 x.new.a, .int .u64 x.new.b, .int .u64 x.new.c]] w fun e w' => e = .returned (.tuple #[accV (atA c (sideK s) v t x), .int .i64 (atE c (sideK s) v t)]) ∧ Below w.heap.size w w' := by
  have HP := Lib.hid hp
  clear hp
  go_enter Try.func105, Try.ntmps105
  go_wp2_with fail
  have hx := ((Box.new w 37 (cfgL c)).alloc (.cells ⟨[.int .u8 x.k, .int .i64 x.at', .int .u64 x.old.t, .int .u64 x.old.a, .int .u64 x.old.b, .int .u64 x.old.c, .int .u64 x.new.t, .int .u64 x.new.a, .int .u64 x.new.b, .int .u64 x.new.c]⟩ 39)).alloc (.cells ⟨[.int .u8 0, .int .i64 0, .int .u64 0, .int .u64 0, .int .u64 0, .int .u64 0, .int .u64 0, .int .u64 0, .int .u64 0, .int .u64 0]⟩ 39)
  have ha := (Box.new (w.alloc (.cells ⟨cfgL c⟩ 37)) 39 [.int .u8 x.k, .int .i64 x.at', .int .u64 x.old.t, .int .u64 x.old.a, .int .u64 x.old.b, .int .u64 x.old.c, .int .u64 x.new.t, .int .u64 x.new.a, .int .u64 x.new.b, .int .u64 x.new.c]).alloc (.cells ⟨[.int .u8 0, .int .i64 0, .int .u64 0, .int .u64 0, .int .u64 0, .int .u64 0, .int .u64 0, .int .u64 0, .int .u64 0, .int .u64 0]⟩ 39)
  have hr := Box.new ((w.alloc (.cells ⟨cfgL c⟩ 37)).alloc (.cells ⟨[.int .u8 x.k, .int .i64 x.at', .int .u64 x.old.t, .int .u64 x.old.a, .int .u64 x.old.b, .int .u64 x.old.c, .int .u64 x.new.t, .int .u64 x.new.a, .int .u64 x.new.b, .int .u64 x.new.c]⟩ 39)) 39 [.int .u8 0, .int .i64 0, .int .u64 0, .int .u64 0, .int .u64 0, .int .u64 0, .int .u64 0, .int .u64 0, .int .u64 0, .int .u64 0]
  have HB := Lib.hid (moreB (moreB (newB w (.cells ⟨cfgL c⟩ 37)) (.cells ⟨[.int .u8 x.k, .int .i64 x.at', .int .u64 x.old.t, .int .u64 x.old.a, .int .u64 x.old.b, .int .u64 x.old.c, .int .u64 x.new.t, .int .u64 x.new.a, .int .u64 x.new.b, .int .u64 x.new.c]⟩ 39)) (.cells ⟨[.int .u8 0, .int .i64 0, .int .u64 0, .int .u64 0, .int .u64 0, .int .u64 0, .int .u64 0, .int .u64 0, .int .u64 0, .int .u64 0]⟩ 39))
  simp only [World.size_alloc] at ha hr
  have HX := Lib.hid hx; have HA := Lib.hid ha; have HR := Lib.hid hr
  clear hx ha hr
  unfold cfgL at *
  generalize ((w.alloc _).alloc _).alloc _ = V at *
  have x0 := HX.out.c 0 rfl; have x1 := HX.out.c 1 rfl; have x2 := HX.out.c 2 rfl; have x3 := HX.out.c 3 rfl; have x4 := HX.out.c 4 rfl; have x5 := HX.out.c 5 rfl; have x6 := HX.out.c 6 rfl; have x7 := HX.out.c 7 rfl; have x8 := HX.out.c 8 rfl; have x9 := HX.out.c 9 rfl; have x10 := HX.out.c 10 rfl; have x11 := HX.out.c 11 rfl
  have HQ1 := Lib.hid (fun (U : World) (_ : Below V.heap.size V U) => sOf_any s U)
  have HQ2 := Lib.hid (fun (U : World) (h : Below V.heap.size V U) => At_any c (sideK s) v t U (HP.out.more (keepB h HB.out)) (sideK_pos s))
  generalize hq : atV c (sideK s) v t = q at *
  generalize he : atE c (sideK s) v t = E at *
  have HY := Lib.hid (show atA c (sideK s) v t x = if E = 0 then ⟨x.k, q, x.old, x.new⟩ else .none by rw [← hq, ← he]; rfl)
  have HE := Lib.hid he
  clear hq he
  go_region_held3 (fun U => Below V.heap.size V U ∧ U.cell? ⟨w.heap.size, 0, none⟩ = some (.int .u8 c.ob) ∧ U.cell? ⟨w.heap.size, 1, none⟩ = some (.int .i64 c.inst) ∧ U.cell? ⟨w.heap.size, 2, none⟩ = some (.int .i64 c.thr) ∧ U.cell? ⟨w.heap.size, 3, none⟩ = some (.int .u8 c.kd) ∧ U.cell? ⟨w.heap.size, 4, none⟩ = some (.int .i64 c.str) ∧ U.cell? ⟨w.heap.size, 5, none⟩ = some (.int .i64 c.bits) ∧ U.cell? ⟨w.heap.size, 6, none⟩ = some (.int .i64 c.cap) ∧ U.cell? ⟨w.heap.size, 7, none⟩ = some (.int .i64 c.node) ∧ U.cell? ⟨w.heap.size, 8, none⟩ = some (.int .i64 c.bat) ∧ U.cell? ⟨w.heap.size, 9, none⟩ = some (.int .i64 c.chk) ∧ U.cell? ⟨w.heap.size, 10, none⟩ = some (.int .u64 c.lim) ∧ U.cell? ⟨w.heap.size, 11, none⟩ = some (.int .u64 c.most)) ((first | ((try go_split_ands); (repeat' apply And.intro); all_goals first | assumption | exact Below.refl _ _ | exact (Below.refl _ _).drew | exact Below.drew (by assumption) | (rw [World.cell?_drew]; assumption) | exact keepC hb (by first | assumption | (rw [World.cell?_drew]; assumption)) | exact keepB hb (by first | assumption | exact Below.drew (by assumption))))) (first | ((go_at_call 106; (with_reducible refine (HQ1.out _ (And.left (by assumption))).mono ?_); rintro e w' ⟨rfl, hb⟩)) | ((go_at_call 83; (with_reducible refine (HQ2.out _ (And.left (by assumption))).mono ?_); rintro e w' ⟨rfl, hb⟩)))
  all_goals go_split_ands
  have hbV : Below V.heap.size V w' := by assumption
  have HA := Lib.hid (HA.out.below hbV)
  have HR := Lib.hid (HR.out.below hbV)
  have HB := Lib.hid (keepB hbV HB.out)
  clear x0 x1 x2 x3 x4 x5 x6 x7 x8 x9 x10 x11
  clear hbV
  by_cases hE : E = 0
  · subst hE
    have HV := Lib.hid (HY.out.trans (if_pos rfl))
    have hr := HR.out
    have a0 := HA.out.c 0 rfl
    have a1 := HA.out.c 1 rfl
    have a2 := HA.out.c 2 rfl
    have a3 := HA.out.c 3 rfl
    have a4 := HA.out.c 4 rfl
    have a5 := HA.out.c 5 rfl
    have a6 := HA.out.c 6 rfl
    have a7 := HA.out.c 7 rfl
    have a8 := HA.out.c 8 rfl
    have a9 := HA.out.c 9 rfl
    have f1 := HA.out.f 1
    have r0 := hr.c 0 rfl
    have r1 := hr.c 1 rfl
    have r2 := hr.c 2 rfl
    have r3 := hr.c 3 rfl
    have r4 := hr.c 4 rfl
    have r5 := hr.c 5 rfl
    have r6 := hr.c 6 rfl
    have r7 := hr.c 7 rfl
    have r8 := hr.c 8 rfl
    have r9 := hr.c 9 rfl
    have g0 := hr.f 0
    have g1 := hr.f 1
    have g2 := hr.f 2
    have g3 := hr.f 3
    have g4 := hr.f 4
    have g5 := hr.f 5
    have g6 := hr.f 6
    have g7 := hr.f 7
    have g8 := hr.f 8
    have g9 := hr.f 9
    clear hr HY
    go_wp2_with fail
    have hr2 := HR.out.far (a := ⟨w.heap.size + 1, 1, none⟩) (by simp only; omega) (.int .i64 q)
    have hb2 := HB.out.setCell (p := ⟨w.heap.size + 1, 1, none⟩) (by simp only; omega) (.int .i64 q)
    refine bodyPost_ret (v := .tuple #[.agg ⟨[.int .u8 x.k, .int .i64 q, .int .u64 x.old.t, .int .u64 x.old.a, .int .u64 x.old.b, .int .u64 x.old.c, .int .u64 x.new.t, .int .u64 x.new.a, .int .u64 x.new.b, .int .u64 x.new.c]⟩, .int .i64 0]) ?_ rfl ⟨by rw [HV.out, HE.out]; rfl, below_acc hb2 (by omega) _ _ _ _ _ _ _ _ _ _⟩
    exact (hr2.acc _ _ _ _ _ _ _ _ _ _).results2 (t := 39) rfl (fun _ => by kernel_rfl) (fun _ => by kernel_rfl) rfl rfl
  · have HV := Lib.hid (HY.out.trans (if_neg hE))
    have e1 : (E != 0) = true := by simpa using hE
    have hr := HR.out
    have r0 := hr.c 0 rfl
    have r1 := hr.c 1 rfl
    have r2 := hr.c 2 rfl
    have r3 := hr.c 3 rfl
    have r4 := hr.c 4 rfl
    have r5 := hr.c 5 rfl
    have r6 := hr.c 6 rfl
    have r7 := hr.c 7 rfl
    have r8 := hr.c 8 rfl
    have r9 := hr.c 9 rfl
    have g0 := hr.f 0
    have g1 := hr.f 1
    have g2 := hr.f 2
    have g3 := hr.f 3
    have g4 := hr.f 4
    have g5 := hr.f 5
    have g6 := hr.f 6
    have g7 := hr.f 7
    have g8 := hr.f 8
    have g9 := hr.f 9
    clear hr HY
    go_wp2_with fail
    refine bodyPost_ret (v := .tuple #[.agg ⟨[.int .u8 0, .int .i64 0, .int .u64 0, .int .u64 0, .int .u64 0, .int .u64 0, .int .u64 0, .int .u64 0, .int .u64 0, .int .u64 0]⟩, .int .i64 E]) ?_ rfl ⟨by rw [HV.out, HE.out]; rfl, below_acc HB.out (by omega) _ _ _ _ _ _ _ _ _ _⟩
    exact (HR.out.acc _ _ _ _ _ _ _ _ _ _).results2 (t := 39) rfl (fun _ => by kernel_rfl) (fun _ => by kernel_rfl) rfl rfl

end Go.Proofs.Ytecjbgddjejjdaa
