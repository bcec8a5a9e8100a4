/- Chapter 19: mark.Seen and its reference. -/
import Derived.Test.YtecjbgddjejjdaaMarkC
namespace Go.Proofs.Ytecjbgddjejjdaa
open Go.RowKit

def seenN (at' : Int) (la : Int) : Int := if la = 0 then at' + 1 else at'
/-- What Seen answers. -/
def seenR (c : Cfg) (tg at' la : Int) : Value := if mkE c 0 at' = 0 then .tuple #[.agg #[.int .u64 tg, .int .i64 (seenN at' la), .int .u64 0], .bool (seenN at' la == c.thr), .int .i64 0] else .tuple #[.agg #[.int .u64 0, .int .i64 0, .int .u64 0], .bool false, .int .i64 (mkE c 0 at')]
theorem seenR_no {c : Cfg} {tg at' la : Int} (h : mkE c 0 at' ≠ 0) : seenR c tg at' la = .tuple #[.agg #[.int .u64 0, .int .i64 0, .int .u64 0], .bool false, .int .i64 (mkE c 0 at')] := if_neg h
theorem seenR_yes {c : Cfg} {tg at' la : Int} (h : mkE c 0 at' = 0) : seenR c tg at' la = .tuple #[.agg #[.int .u64 tg, .int .i64 (seenN at' la), .int .u64 0], .bool (seenN at' la == c.thr), .int .i64 0] := if_pos h

set_option maxRecDepth 100000 in
set_option maxHeartbeats 1600000 in
theorem check2_any (c : Cfg) (g : Nat) (t : Int) (w : World) (hs : Box w g [.int .i64 t, .int .i64 c.thr]) :
    Calls Try.prog 82 #[.agg #[.int .u8 c.ob, .int .i64 c.inst, .int .i64 c.thr, .int .u8 c.kd, .int .i64 c.str, .int .i64 c.bits, .int .i64 c.cap, .int .i64 c.node, .int .i64 c.bat, .int .i64 c.chk, .int .u64 c.lim, .int .u64 c.most], .slice (some ⟨g, 0, none⟩) 2 2] w fun e w' => e = .returned (.int .i64 (mkE c 0 t)) ∧ Below w.heap.size w w' := by
  have HS := Lib.hid (hs.alloc (.cells ⟨cfgL c⟩ 37))
  clear hs
  go_enter Try.func82, Try.ntmps82
  go_wp2_with fail
  have HX := Lib.hid (Box.new w 37 (cfgL c))
  have HB := Lib.hid (newB w (.cells ⟨cfgL c⟩ 37))
  unfold cfgL at *
  generalize w.alloc _ = V at *
  refine (Check_any c V).mono ?_
  rintro e w1 ⟨rfl, hb⟩
  have HS := Lib.hid (HS.out.below hb)
  have HB := Lib.hid (keepB hb HB.out); have HX := Lib.hid (HX.out.below hb); clear hb
  have x3 := HX.out.c 3 rfl
  by_cases hm : c.May
  · rw [show checkE c = 0 by simp [checkE, hm]]
    by_cases hkd : c.kd = 1
    · have e1 : (c.kd != 1) = false := by simp [hkd]
      have s0 := HS.out.c 0 rfl
      have s1 := HS.out.c 1 rfl
      have hmk := And.intro hm hkd
      by_cases h1 : t < 0
      · have HE := Lib.hid (mkE_out (v := 0) hmk (show ¬ ((0 : Int) ≤ 0 ∧ (0 : Int) < 2 ∧ 0 ≤ t ∧ t < c.thr) by omega))
        clear hm hkd hmk
        go_wp2_with fail
        go_loop [5, 6] (fun i _ => i = .int .i64 0) (fun _ _ => 0)
        case atStart => rfl
        case round =>
          subst hrel
          go_wp2_with fail
          go_ret
          exact ⟨ret_i64 (by rw [HE.out]), HB.out⟩
      have h1' : 0 ≤ t := by omega
      by_cases h2 : c.thr ≤ t
      · have HE := Lib.hid (mkE_out (v := 0) hmk (show ¬ ((0 : Int) ≤ 0 ∧ (0 : Int) < 2 ∧ 0 ≤ t ∧ t < c.thr) by omega))
        clear hm hkd hmk h1
        go_wp2_with fail
        go_loop [5, 6] (fun i _ => i = .int .i64 0) (fun _ _ => 0)
        case atStart => rfl
        case round =>
          subst hrel
          go_wp2_with fail
          go_ret
          exact ⟨ret_i64 (by rw [HE.out]), HB.out⟩
      have h2' : t < c.thr := by omega
      have HE := Lib.hid (mkE_in (v := 0) (t := t) hmk ⟨by omega, by omega, h1', h2'⟩)
      clear hm hkd hmk h1 h2
      go_wp2_with fail
      go_loop [5, 6] (fun i _ => i = .int .i64 0 ∨ i = .int .i64 2) (fun i _ => 4 - (intOf i).toNat)
      case atStart => exact .inl rfl
      case round =>
        rcases hrel with rfl | rfl
        · go_wp2_with fail
          go_round
          case rel => exact .inr rfl
          case measure => simp [intOf]
        · go_wp2_with fail
          go_ret
          exact ⟨ret_i64 (by rw [HE.out]), HB.out⟩
    · have e1 : (c.kd != 1) = true := by simp [hkd]
      have HE := Lib.hid (mkE_no (c := c) (fun h => hkd h.2) 0 t)
      clear hm hkd
      go_wp2_with fail
      go_ret
      exact ⟨ret_i64 (by rw [HE.out]), HB.out⟩
  · rw [show checkE c = 40 by simp [checkE, hm]]
    have HE := Lib.hid (mkE_no (c := c) (fun h => hm h.1) 0 t)
    clear hm
    go_wp2_with fail
    go_ret
    exact ⟨ret_i64 (by rw [HE.out]), HB.out⟩



/-- The results of a function whose first result is a struct in a block that is known whole. -/
theorem Box.resultsL {P : Program} {fn : Func} {p q r : Tmp} {t : TypeId} {W : World} {g : Nat} {cs : List Value} (h : Box W g cs) (hr : fn.results = #[.cell p t, .tmp q, .tmp r]) (hagg : ∀ w, (isAgg t).run P w = .ok true w) (hsz : ∀ w, (Go.sizeOf t).run P w = .ok cs.length w)
    {tmps : Array Value} {u v : Value} (ht : tmps.getD p undef = .pointer (some ⟨g, 0, none⟩)) (hq : tmps.getD q undef = u) (hv : tmps.getD r undef = v) : (Go.results fn tmps).run P W = .ok (.tuple #[.agg ⟨cs⟩, u, v]) W := by
  have hl := h.load (t := t) hagg hsz
  rw [Array.getD_eq_getD_getElem?] at ht hq hv
  simp only [Go.results, hr]
  simp [ht, hq, hv, asAddr, hl]
theorem Box.look {W : World} {h : Nat} {c0 c1 c2 : Value} (hr : Box W h [c0, c1, c2]) (v0 v1 v2 : Value) :
    Box (((W.setCell ⟨h, 0, none⟩ v0).setCell ⟨h, 1, none⟩ v1).setCell ⟨h, 2, none⟩ v2) h [v0, v1, v2] := (((hr.set 0 v0).set 1 v1).set 2 v2).as rfl
theorem below_look {n : Nat} {w W : World} {h : Nat} (hb : Below n w W) (hh : n ≤ h) (v0 v1 v2 : Value) :
    Below n w (((W.setCell ⟨h, 0, none⟩ v0).setCell ⟨h, 1, none⟩ v1).setCell ⟨h, 2, none⟩ v2) :=
  ((hb.setCell (p := ⟨h, 0, none⟩) hh v0).setCell (p := ⟨h, 1, none⟩) hh v1).setCell (p := ⟨h, 2, none⟩) hh v2

/-- A struct stored over itself. -/
theorem lookS {b : Nat} {Z : World} {v0 v1 v2 x : Value} {a : Addr} (ha : a.block ≠ b) (h0 : Z.cell? ⟨b, 0, none⟩ = some v0) (h1 : Z.cell? ⟨b, 1, none⟩ = some v1) (h2 : Z.cell? ⟨b, 2, none⟩ = some v2) (h : Z.cell? a = some x) :
    (((Z.setCell ⟨b, 0, none⟩ v0).setCell ⟨b, 1, none⟩ v1).setCell ⟨b, 2, none⟩ v2).drew.cell? ⟨b, 0, none⟩ = some v0
    ∧ (((Z.setCell ⟨b, 0, none⟩ v0).setCell ⟨b, 1, none⟩ v1).setCell ⟨b, 2, none⟩ v2).drew.cell? ⟨b, 1, none⟩ = some v1
    ∧ (((Z.setCell ⟨b, 0, none⟩ v0).setCell ⟨b, 1, none⟩ v1).setCell ⟨b, 2, none⟩ v2).drew.cell? ⟨b, 2, none⟩ = some v2
    ∧ (((Z.setCell ⟨b, 0, none⟩ v0).setCell ⟨b, 1, none⟩ v1).setCell ⟨b, 2, none⟩ v2).drew.cell? a = some x := by
  have f : ∀ (U : World) (j : Nat) (u : Value), (U.setCell ⟨b, j, none⟩ u).cell? a = U.cell? a := fun U j u => World.cell?_setCell_far U ⟨b, j, none⟩ a u (fun e => ha e.symm)
  have e : ∀ (U : World) (i j : Nat) (u : Value), i ≠ j → (U.setCell ⟨b, i, none⟩ u).cell? ⟨b, j, none⟩ = U.cell? ⟨b, j, none⟩ := fun U i j u hij => World.cell?_setCell_other _ _ _ _ (fun e => hij (by injection e))
  simp only [World.cell?_drew]
  refine ⟨?_, ?_, ?_, ?_⟩
  · rw [e _ 2 0 _ (by omega), e _ 1 0 _ (by omega)]; exact World.cell?_setCell_same _ _ _ h0
  · rw [e _ 2 1 _ (by omega)]; exact World.cell?_setCell_same _ _ _ (by rw [e _ 0 1 _ (by omega)]; exact h1)
  · exact World.cell?_setCell_same _ _ _ (by rw [e _ 1 2 _ (by omega), e _ 0 2 _ (by omega)]; exact h2)
  · rw [f, f, f]; exact h

set_option maxRecDepth 100000 in
set_option maxHeartbeats 3200000 in
theorem mSeen_any (c : Cfg) (tg at' sm l0 la l2 l3 : Int) (w : World) :
    Calls Try.prog 80 #[.agg #[.int .u8 c.ob, .int .i64 c.inst, .int .i64 c.thr, .int .u8 c.kd, .int .i64 c.str, .int .i64 c.bits, .int .i64 c.cap, .int .i64 c.node, .int .i64 c.bat, .int .i64 c.chk, .int .u64 c.lim, .int .u64 c.most], .agg #[.int .u64 tg, .int .i64 at', .int .u64 sm], .agg #[.int .u64 l0, .int .u64 la, .int .u64 l2, .int .u64 l3]] w fun e w' => e = .returned (seenR c tg at' la) ∧ Below w.heap.size w w' := by
  go_enter Try.func80, Try.ntmps80
  go_wp2_with fail
  have hx := ((((Box.new w 37 (cfgL c)).alloc (.cells #[.int .u64 tg, .int .i64 at', .int .u64 sm] 54)).alloc (.cells #[.int .u64 l0, .int .u64 la, .int .u64 l2, .int .u64 l3] 29)).alloc (.cells #[.int .u64 0, .int .i64 0, .int .u64 0] 54)).alloc (.cells #[.int .i64 at', .int .i64 c.thr] 3)
  have hk := (((Box.new (w.alloc (.cells ⟨cfgL c⟩ 37)) 54 [.int .u64 tg, .int .i64 at', .int .u64 sm]).alloc (.cells #[.int .u64 l0, .int .u64 la, .int .u64 l2, .int .u64 l3] 29)).alloc (.cells #[.int .u64 0, .int .i64 0, .int .u64 0] 54)).alloc (.cells #[.int .i64 at', .int .i64 c.thr] 3)
  have hl := ((Box.new ((w.alloc (.cells ⟨cfgL c⟩ 37)).alloc (.cells #[.int .u64 tg, .int .i64 at', .int .u64 sm] 54)) 29 [.int .u64 l0, .int .u64 la, .int .u64 l2, .int .u64 l3]).alloc (.cells #[.int .u64 0, .int .i64 0, .int .u64 0] 54)).alloc (.cells #[.int .i64 at', .int .i64 c.thr] 3)
  have hr := (Box.new (((w.alloc (.cells ⟨cfgL c⟩ 37)).alloc (.cells #[.int .u64 tg, .int .i64 at', .int .u64 sm] 54)).alloc (.cells #[.int .u64 l0, .int .u64 la, .int .u64 l2, .int .u64 l3] 29)) 54 [.int .u64 0, .int .i64 0, .int .u64 0]).alloc (.cells #[.int .i64 at', .int .i64 c.thr] 3)
  have hs := Box.new ((((w.alloc (.cells ⟨cfgL c⟩ 37)).alloc (.cells #[.int .u64 tg, .int .i64 at', .int .u64 sm] 54)).alloc (.cells #[.int .u64 l0, .int .u64 la, .int .u64 l2, .int .u64 l3] 29)).alloc (.cells #[.int .u64 0, .int .i64 0, .int .u64 0] 54)) 3 [.int .i64 at', .int .i64 c.thr]
  have HB := Lib.hid (moreB (moreB (moreB (moreB (newB w (.cells ⟨cfgL c⟩ 37)) (.cells #[.int .u64 tg, .int .i64 at', .int .u64 sm] 54)) (.cells #[.int .u64 l0, .int .u64 la, .int .u64 l2, .int .u64 l3] 29)) (.cells #[.int .u64 0, .int .i64 0, .int .u64 0] 54)) (.cells #[.int .i64 at', .int .i64 c.thr] 3))
  simp only [World.size_alloc] at hk hl hr hs
  have HX := Lib.hid hx; have HK := Lib.hid hk; have HL := Lib.hid hl; have HR := Lib.hid hr
  clear hx hk hl hr
  unfold cfgL at *
  generalize ((((w.alloc _).alloc _).alloc _).alloc _).alloc _ = V at *
  refine (check2_any c _ at' V hs).mono ?_
  rintro e w1 ⟨rfl, hb⟩
  have HK := Lib.hid (HK.out.below hb); have HL := Lib.hid (HL.out.below hb); have HR := Lib.hid (HR.out.below hb)
  have HB := Lib.hid (keepB hb HB.out); have HX := Lib.hid (HX.out.below hb); clear hb
  clear hs
  by_cases he : mkE c 0 at' = 0
  · have HA := Lib.hid (show 0 ≤ at' ∧ at' ≤ 16 by obtain ⟨hm, _, _, h1, h2⟩ := mkE_zero he; have := hm.1.1; omega)
    have HS := Lib.hid (seenR_yes (tg := tg) (la := la) he)
    rw [he]
    clear he
    have x0 := HX.out.c 0 rfl; have x1 := HX.out.c 1 rfl; have x2 := HX.out.c 2 rfl; have x3 := HX.out.c 3 rfl; have x4 := HX.out.c 4 rfl; have x5 := HX.out.c 5 rfl; have x6 := HX.out.c 6 rfl; have x7 := HX.out.c 7 rfl; have x8 := HX.out.c 8 rfl; have x9 := HX.out.c 9 rfl; have x10 := HX.out.c 10 rfl; have x11 := HX.out.c 11 rfl
    have k0 := HK.out.c 0 rfl
    have k1 := HK.out.c 1 rfl
    have l1 := HL.out.c 1 rfl
    have hr := HR.out
    have r0 := hr.c 0 rfl
    have r1 := hr.c 1 rfl
    have r2 := hr.c 2 rfl
    have g0 := hr.f 0
    have g1 := hr.f 1
    have g2 := hr.f 2
    clear hr
    have far2 : ∀ (U : World) (j : Nat) (u : Value), (U.setCell ⟨w.heap.size + 1 + 1 + 1, j, none⟩ u).cell? ⟨w.heap.size, 2, none⟩ = U.cell? ⟨w.heap.size, 2, none⟩ := fun U j u => World.cell?_setCell_other _ _ _ _ (fun e => by injection e; omega)
    by_cases h0 : la = 0
    · have e1 : (la == 0) = true := by simp [h0]
      have hw : IntKind.i64.wrap (at' + 1) = seenN at' la := by unfold seenN; rw [if_pos h0, IntKind.wrap_i64]; have := HA.out; omega
      generalize seenN at' la = n at *
      clear h0
      go_wp2_with fail
      have hz := ((HR.out.look (.int .u64 tg) (.int .i64 at') (.int .u64 0)).set 1 (.int .i64 n)).as (show _ = [.int .u64 tg, .int .i64 n, .int .u64 0] from rfl)
      have hbz := (below_look HB.out (h := w.heap.size + 1 + 1 + 1) (by omega) (.int .u64 tg) (.int .i64 at') (.int .u64 0)).setCell (p := ⟨w.heap.size + 1 + 1 + 1, 1, none⟩) (by simp only; omega) (.int .i64 n)
      have hxz : ((((w1.setCell ⟨w.heap.size + 1 + 1 + 1, 0, none⟩ (.int .u64 tg)).setCell ⟨w.heap.size + 1 + 1 + 1, 1, none⟩ (.int .i64 at')).setCell ⟨w.heap.size + 1 + 1 + 1, 2, none⟩ (.int .u64 0)).setCell ⟨w.heap.size + 1 + 1 + 1, 1, none⟩ (.int .i64 n)).cell? ⟨w.heap.size, 2, none⟩ = some (.int .i64 c.thr) := by rw [far2, far2, far2, far2]; exact x2
      clear x0 x1 x2 x3 x4 x5 x6 x7 x8 x9 x10 x11
      clear k0 k1 l1 r0 r1 r2 g0 g1 g2 far2
      have HZ := Lib.hid hz
      have HBZ := Lib.hid hbz
      generalize (((w1.setCell _ _).setCell _ _).setCell _ _).setCell _ _ = Z at *
      have r0 := hz.c 0 rfl
      have r1 := hz.c 1 rfl
      have r2 := hz.c 2 rfl
      have g0 := hz.f 0
      have g1 := hz.f 1
      have g2 := hz.f 2
      clear hz hbz
      go_region_held3 (fun U => U.cell? ⟨w.heap.size + 1 + 1 + 1, 0, none⟩ = some (.int .u64 tg) ∧ U.cell? ⟨w.heap.size + 1 + 1 + 1, 1, none⟩ = some (.int .i64 n) ∧ U.cell? ⟨w.heap.size + 1 + 1 + 1, 2, none⟩ = some (.int .u64 0) ∧ U.cell? ⟨w.heap.size, 2, none⟩ = some (.int .i64 c.thr)) (first | ((repeat' apply And.intro) <;> with_reducible first | assumption | (rw [World.cell?_drew]; assumption)) | exact lookS (Z := _) (a := ⟨w.heap.size, 2, none⟩) (show w.heap.size ≠ w.heap.size + 1 + 1 + 1 by omega) (by assumption) (by assumption) (by assumption) (by assumption)) (fail)
      all_goals go_split_ands
      all_goals go_wp2_with fail
      all_goals refine bodyPost_ret (v := .tuple #[.agg ⟨[.int .u64 tg, .int .i64 n, .int .u64 0]⟩, .bool (n == c.thr), .int .i64 0]) ?_ rfl ⟨by rw [HS.out], (below_look HBZ.out (by omega) _ _ _).drew⟩
      all_goals exact ((HZ.out.look _ _ _).drew).resultsL (t := 54) rfl (fun _ => by kernel_rfl) (fun _ => by kernel_rfl) rfl rfl rfl
    · have e1 : (la == 0) = false := by simp [h0]
      have hw : seenN at' la = at' := if_neg h0
      rw [hw] at HS
      clear h0 hw
      go_wp2_with fail
      have hz := HR.out.look (.int .u64 tg) (.int .i64 at') (.int .u64 0)
      have hbz := below_look HB.out (h := w.heap.size + 1 + 1 + 1) (by omega) (.int .u64 tg) (.int .i64 at') (.int .u64 0)
      have hxz : (((w1.setCell ⟨w.heap.size + 1 + 1 + 1, 0, none⟩ (.int .u64 tg)).setCell ⟨w.heap.size + 1 + 1 + 1, 1, none⟩ (.int .i64 at')).setCell ⟨w.heap.size + 1 + 1 + 1, 2, none⟩ (.int .u64 0)).cell? ⟨w.heap.size, 2, none⟩ = some (.int .i64 c.thr) := by rw [far2, far2, far2]; exact x2
      clear x0 x1 x2 x3 x4 x5 x6 x7 x8 x9 x10 x11
      clear k0 k1 l1 r0 r1 r2 g0 g1 g2 far2
      have HZ := Lib.hid hz
      have HBZ := Lib.hid hbz
      generalize ((w1.setCell _ _).setCell _ _).setCell _ _ = Z at *
      have r0 := hz.c 0 rfl
      have r1 := hz.c 1 rfl
      have r2 := hz.c 2 rfl
      have g0 := hz.f 0
      have g1 := hz.f 1
      have g2 := hz.f 2
      clear hz hbz
      go_region_held3 (fun U => U.cell? ⟨w.heap.size + 1 + 1 + 1, 0, none⟩ = some (.int .u64 tg) ∧ U.cell? ⟨w.heap.size + 1 + 1 + 1, 1, none⟩ = some (.int .i64 at') ∧ U.cell? ⟨w.heap.size + 1 + 1 + 1, 2, none⟩ = some (.int .u64 0) ∧ U.cell? ⟨w.heap.size, 2, none⟩ = some (.int .i64 c.thr)) (first | ((repeat' apply And.intro) <;> with_reducible first | assumption | (rw [World.cell?_drew]; assumption)) | exact lookS (Z := _) (a := ⟨w.heap.size, 2, none⟩) (show w.heap.size ≠ w.heap.size + 1 + 1 + 1 by omega) (by assumption) (by assumption) (by assumption) (by assumption)) (fail)
      all_goals go_split_ands
      all_goals go_wp2_with fail
      all_goals refine bodyPost_ret (v := .tuple #[.agg ⟨[.int .u64 tg, .int .i64 at', .int .u64 0]⟩, .bool (at' == c.thr), .int .i64 0]) ?_ rfl ⟨by rw [HS.out], (below_look HBZ.out (by omega) _ _ _).drew⟩
      all_goals exact ((HZ.out.look _ _ _).drew).resultsL (t := 54) rfl (fun _ => by kernel_rfl) (fun _ => by kernel_rfl) rfl rfl rfl
  · have HS := Lib.hid (seenR_no (tg := tg) (la := la) he)
    have e1 : (mkE c 0 at' != 0) = true := by simpa using he
    generalize mkE c 0 at' = E at *
    clear he
    have hr := HR.out
    have r0 := hr.c 0 rfl
    have r1 := hr.c 1 rfl
    have r2 := hr.c 2 rfl
    have g0 := hr.f 0
    have g1 := hr.f 1
    have g2 := hr.f 2
    clear hr
    go_wp2_with fail
    refine bodyPost_ret (v := .tuple #[.agg ⟨[.int .u64 0, .int .i64 0, .int .u64 0]⟩, .bool false, .int .i64 E]) ?_ rfl ⟨by rw [HS.out], below_look HB.out (by omega) _ _ _⟩
    exact (HR.out.look _ _ _).resultsL (t := 54) rfl (fun _ => by kernel_rfl) (fun _ => by kernel_rfl) rfl rfl rfl

theorem farL {b : Nat} {Z : World} {v0 v1 v2 x : Value} {a : Addr} (ha : a.block ≠ b) (h : Z.cell? a = some x) :
    (((Z.setCell ⟨b, 0, none⟩ v0).setCell ⟨b, 1, none⟩ v1).setCell ⟨b, 2, none⟩ v2).drew.cell? a = some x := by
  have f : ∀ (U : World) (j : Nat) (u : Value), (U.setCell ⟨b, j, none⟩ u).cell? a = U.cell? a := fun U j u => World.cell?_setCell_far U ⟨b, j, none⟩ a u (fun e => ha e.symm)
  rw [World.cell?_drew, f, f, f]; exact h

end Go.Proofs.Ytecjbgddjejjdaa
