/- Chapter 19: the reference's Seen. -/
import Derived.Test.YtdabhkbmdmlgcaaDoorMarkE
namespace Go.Proofs.YtdabhkbmdmlgcaaDoor
open Go.RowKit


theorem farL {b : Nat} {Z : World} {v0 v1 v2 x : Value} {a : Addr} (ha : a.block ≠ b) (h : Z.cell? a = some x) :
    (((Z.setCell ⟨b, 0, none⟩ v0).setCell ⟨b, 1, none⟩ v1).setCell ⟨b, 2, none⟩ v2).drew.cell? a = some x := by
  have f : ∀ (U : World) (j : Nat) (u : Value), (U.setCell ⟨b, j, none⟩ u).cell? a = U.cell? a := fun U j u => World.cell?_setCell_far U ⟨b, j, none⟩ a u (fun e => ha e.symm)
  rw [World.cell?_drew, f, f, f]; exact h

set_option maxRecDepth 100000 in
set_option maxHeartbeats 3200000 in
theorem rmSeen_any (c : Cfg) (tg at' sm l0 la l2 l3 : Int) (w : World) (hk : 0 ≤ c.most) :
    Calls Tryd.prog 21 #[.agg #[.int .u8 c.ob, .int .i64 c.inst, .int .i64 c.thr, .int .u8 c.kd, .int .i64 c.str, .int .i64 c.bits, .int .i64 c.cap, .int .i64 c.node, .int .i64 c.bat, .int .i64 c.chk, .int .u64 c.lim, .int .u64 c.most], .agg #[.int .u64 tg, .int .i64 at', .int .u64 sm], .agg #[.int .u64 l0, .int .u64 la, .int .u64 l2, .int .u64 l3]] w fun e w' => e = .returned (seenR c tg at' la) ∧ Below w.heap.size w w' := by
  have HKK := Lib.hid hk
  clear hk
  go_enter Tryd.func21, Tryd.ntmps21
  go_wp2_with fail
  have hx := (((Box.new w 24 (cfgL c)).alloc (.cells #[.int .u64 tg, .int .i64 at', .int .u64 sm] 36)).alloc (.cells #[.int .u64 l0, .int .u64 la, .int .u64 l2, .int .u64 l3] 26)).alloc (.cells #[.int .u64 0, .int .i64 0, .int .u64 0] 36)
  have hk := ((Box.new (w.alloc (.cells ⟨cfgL c⟩ 24)) 36 [.int .u64 tg, .int .i64 at', .int .u64 sm]).alloc (.cells #[.int .u64 l0, .int .u64 la, .int .u64 l2, .int .u64 l3] 26)).alloc (.cells #[.int .u64 0, .int .i64 0, .int .u64 0] 36)
  have hl := (Box.new ((w.alloc (.cells ⟨cfgL c⟩ 24)).alloc (.cells #[.int .u64 tg, .int .i64 at', .int .u64 sm] 36)) 26 [.int .u64 l0, .int .u64 la, .int .u64 l2, .int .u64 l3]).alloc (.cells #[.int .u64 0, .int .i64 0, .int .u64 0] 36)
  have hr := Box.new (((w.alloc (.cells ⟨cfgL c⟩ 24)).alloc (.cells #[.int .u64 tg, .int .i64 at', .int .u64 sm] 36)).alloc (.cells #[.int .u64 l0, .int .u64 la, .int .u64 l2, .int .u64 l3] 26)) 36 [.int .u64 0, .int .i64 0, .int .u64 0]
  have HB := Lib.hid (moreB (moreB (moreB (newB w (.cells ⟨cfgL c⟩ 24)) (.cells #[.int .u64 tg, .int .i64 at', .int .u64 sm] 36)) (.cells #[.int .u64 l0, .int .u64 la, .int .u64 l2, .int .u64 l3] 26)) (.cells #[.int .u64 0, .int .i64 0, .int .u64 0] 36))
  simp only [World.size_alloc] at hk hl hr
  have HX := Lib.hid hx; have HK := Lib.hid hk; have HL := Lib.hid hl; have HR := Lib.hid hr
  clear hx hk hl hr
  unfold cfgL at *
  generalize (((w.alloc _).alloc _).alloc _).alloc _ = V at *
  refine (rasked_any c 0 at' V HKK.out).mono ?_
  rintro e w1 ⟨rfl, hb⟩
  have HK := Lib.hid (HK.out.below hb); have HL := Lib.hid (HL.out.below hb); have HR := Lib.hid (HR.out.below hb)
  have HB := Lib.hid (keepB hb HB.out); have HX := Lib.hid (HX.out.below hb); clear hb
  by_cases he : mkE c 0 at' = 0
  · have HA := Lib.hid (show 0 ≤ at' ∧ at' ≤ 16 by obtain ⟨hm, _, _, h1, h2⟩ := mkE_zero he; have := hm.1.1; omega)
    have HS := Lib.hid (seenR_yes (tg := tg) (la := la) he)
    rw [he]
    clear he
    have x2 := HX.out.c 2 rfl
    have k0 := HK.out.c 0 rfl
    have k1 := HK.out.c 1 rfl
    have l1 := HL.out.c 1 rfl
    have hr := HR.out
    have r0 := hr.c 0 rfl
    have r1 := hr.c 1 rfl
    have r2 := hr.c 2 rfl
    have g0 := hr.f 0
    have g1 := hr.f 1
    have g2 := hr.f 2
    clear hr
    by_cases h0 : la = 0
    · have e1 : (la == 0) = true := by simp [h0]
      have hw : IntKind.i64.wrap (at' + 1) = seenN at' la := by unfold seenN; rw [if_pos h0, IntKind.wrap_i64]; have := HA.out; omega
      generalize seenN at' la = n at *
      clear h0
      go_wp2_with fail
      (go_region_held3 (fun U => U.cell? ⟨w.heap.size + 1, 0, none⟩ = some (.int .u64 tg) ∧ U.cell? ⟨w.heap.size, 2, none⟩ = some (.int .i64 c.thr)) ((repeat' apply And.intro) <;> first | (with_reducible assumption) | (rw [World.cell?_drew]; with_reducible assumption) | exact farL (Z := _) (by simp only; omega) (by assumption)) (fail))
      all_goals go_split_ands
      all_goals go_wp2_with fail
      all_goals refine bodyPost_ret (v := .tuple #[.agg ⟨[.int .u64 tg, .int .i64 n, .int .u64 0]⟩, .bool (n == c.thr), .int .i64 0]) ?_ rfl ⟨by rw [HS.out], (below_look HB.out (by omega) _ _ _).drew⟩
      all_goals exact ((HR.out.look _ _ _).drew).resultsL (t := 36) rfl (fun _ => by kernel_rfl) (fun _ => by kernel_rfl) rfl rfl rfl
    · have e1 : (la == 0) = false := by simp [h0]
      have hw : seenN at' la = at' := if_neg h0
      rw [hw] at HS
      clear h0 hw
      go_wp2_with fail
      (go_region_held3 (fun U => U.cell? ⟨w.heap.size + 1, 0, none⟩ = some (.int .u64 tg) ∧ U.cell? ⟨w.heap.size, 2, none⟩ = some (.int .i64 c.thr)) ((repeat' apply And.intro) <;> first | (with_reducible assumption) | (rw [World.cell?_drew]; with_reducible assumption) | exact farL (Z := _) (by simp only; omega) (by assumption)) (fail))
      all_goals go_split_ands
      all_goals go_wp2_with fail
      all_goals refine bodyPost_ret (v := .tuple #[.agg ⟨[.int .u64 tg, .int .i64 at', .int .u64 0]⟩, .bool (at' == c.thr), .int .i64 0]) ?_ rfl ⟨by rw [HS.out], (below_look HB.out (by omega) _ _ _).drew⟩
      all_goals exact ((HR.out.look _ _ _).drew).resultsL (t := 36) rfl (fun _ => by kernel_rfl) (fun _ => by kernel_rfl) rfl rfl rfl
  · have HS := Lib.hid (seenR_no (tg := tg) (la := la) he)
    have e1 : (mkE c 0 at' != 0) = true := by simpa using he
    generalize mkE c 0 at' = E at *
    clear he
    have hr := HR.out
    have r0 := hr.c 0 rfl
    have r1 := hr.c 1 rfl
    have r2 := hr.c 2 rfl
    have g0 := hr.f 0
    have g1 := hr.f 1
    have g2 := hr.f 2
    clear hr
    go_wp2_with fail
    refine bodyPost_ret (v := .tuple #[.agg ⟨[.int .u64 0, .int .i64 0, .int .u64 0]⟩, .bool false, .int .i64 E]) ?_ rfl ⟨by rw [HS.out], below_look HB.out (by omega) _ _ _⟩
    exact (HR.out.look _ _ _).resultsL (t := 36) rfl (fun _ => by kernel_rfl) (fun _ => by kernel_rfl) rfl rfl rfl

end Go.Proofs.YtdabhkbmdmlgcaaDoor
