/- Chapter 20: the reference's Stripes, added, Arrive, Depart, Full, Look. -/
import Derived.Test.YtdabhkbmdmlgcaaDoorStripeB
import Derived.Test.YtdabhkbmdmlgcaaDoorPartG
import Derived.Test.YtdabhkbmdmlgcaaDoorPartB
namespace Go.Proofs.YtdabhkbmdmlgcaaDoor
open Go.RowKit

set_option maxRecDepth 100000 in
theorem rStripes_any (c : Cfg) (w : World) (hk : 0 ≤ c.most) : Calls Tryd.prog 49 #[.agg #[.int .u8 c.ob, .int .i64 c.inst, .int .i64 c.thr, .int .u8 c.kd, .int .i64 c.str, .int .i64 c.bits, .int .i64 c.cap, .int .i64 c.node, .int .i64 c.bat, .int .i64 c.chk, .int .u64 c.lim, .int .u64 c.most]] w fun e w' => e = .returned (.bool (stripesB c)) ∧ Below w.heap.size w w' := by
  have HK := Lib.hid hk
  clear hk
  go_enter Tryd.func49, Tryd.ntmps49
  go_wp2_with fail
  have HX := Lib.hid (Box.new w 24 (cfgL c))
  have HB := Lib.hid (newB w (.cells ⟨cfgL c⟩ 24))
  unfold cfgL at *
  generalize w.alloc _ = V at *
  refine (MayBe_any c V HK.out).mono ?_
  rintro e w1 ⟨rfl, hb⟩
  have HB := Lib.hid (keepB hb HB.out); have HX := Lib.hid (HX.out.below hb); clear hb
  have x3 := HX.out.c 3 rfl
  by_cases hm : c.May
  · rw [show mayC c = true from (mayC_iff c).2 hm]
    by_cases hkd : c.kd = 2
    · have e1 : (c.kd == 2) = true := by simp [hkd]
      have HZ := Lib.hid (show stripesB c = true from decide_eq_true ⟨hm, hkd⟩)
      clear hm hkd
      go_wp2_with fail
      go_ret
      exact ⟨ret_bool (by rw [HZ.out]), HB.out⟩
    · have e1 : (c.kd == 2) = false := by simp [hkd]
      have HZ := Lib.hid (show stripesB c = false from decide_eq_false fun h => hkd h.2)
      clear hm hkd
      go_wp2_with fail
      go_ret
      exact ⟨ret_bool (by rw [HZ.out]), HB.out⟩
  · rw [show mayC c = false from by simp [mayC, hm]]
    have HZ := Lib.hid (show stripesB c = false from decide_eq_false fun h => hm h.1)
    clear hm
    go_wp2_with fail
    go_ret
    exact ⟨ret_bool (by rw [HZ.out]), HB.out⟩

/-- Where, of a count that there is. -/
theorem rCount_where (c : Cfg) (k v s : Int) (w : World) (hk : k = 7 ∨ k = 8) (hc : c.Strs) (hv : 0 ≤ v ∧ v < 2) (hs : 0 ≤ s ∧ s < c.str) :
    Calls Tryd.prog 52 #[.agg #[.int .u8 c.ob, .int .i64 c.inst, .int .i64 c.thr, .int .u8 c.kd, .int .i64 c.str, .int .i64 c.bits, .int .i64 c.cap, .int .i64 c.node, .int .i64 c.bat, .int .i64 c.chk, .int .u64 c.lim, .int .u64 c.most], .agg #[.int .u8 k, .int .i64 v, .int .i64 s]] w fun e w' => e = .returned (.int .i64 (atV c k v s)) ∧ Below w.heap.size w w' := by
  have hz := (count_has hc hk hs).trans (decide_eq_true hv)
  have ha := atV_in hc.1 hz
  obtain ⟨g1, g2, g3⟩ := hasZ_t.1 hz
  obtain ⟨v', rfl⟩ := Int.eq_ofNat_of_zero_le g1
  obtain ⟨s', rfl⟩ := Int.eq_ofNat_of_zero_le g2
  rw [ha]
  rcases hk with rfl | rfl
  · exact Where_any c ⟨7, v', s'⟩ w hc.1 g3
  · exact Where_any c ⟨8, v', s'⟩ w hc.1 g3

set_option maxRecDepth 100000 in
set_option maxHeartbeats 3200000 in
theorem rAdded_any (c : Cfg) (k v t : Int) (w : World) (hk : k = 7 ∨ k = 8) (hmo : 0 ≤ c.most) :
    Calls Tryd.prog 47 #[.agg #[.int .u8 c.ob, .int .i64 c.inst, .int .i64 c.thr, .int .u8 c.kd, .int .i64 c.str, .int .i64 c.bits, .int .i64 c.cap, .int .i64 c.node, .int .i64 c.bat, .int .i64 c.chk, .int .u64 c.lim, .int .u64 c.most], .int .u8 k, .int .i64 v, .int .i64 t] w fun e w' => e = .returned (.tuple #[accV (stA c k v t), .int .i64 (stE c v t)]) ∧ Below w.heap.size w w' := by
  have HK := Lib.hid hk; have HM := Lib.hid hmo
  clear hk hmo
  go_enter Tryd.func47, Tryd.ntmps47
  go_wp2_with fail
  have hx := (Box.new w 24 (cfgL c)).alloc (.cells ⟨[.int .u8 0, .int .i64 0, .int .u64 0, .int .u64 0, .int .u64 0, .int .u64 0, .int .u64 0, .int .u64 0, .int .u64 0, .int .u64 0]⟩ 28)
  have hr := Box.new (w.alloc (.cells ⟨cfgL c⟩ 24)) 28 [.int .u8 0, .int .i64 0, .int .u64 0, .int .u64 0, .int .u64 0, .int .u64 0, .int .u64 0, .int .u64 0, .int .u64 0, .int .u64 0]
  have HB := Lib.hid (moreB (newB w (.cells ⟨cfgL c⟩ 24)) (.cells ⟨[.int .u8 0, .int .i64 0, .int .u64 0, .int .u64 0, .int .u64 0, .int .u64 0, .int .u64 0, .int .u64 0, .int .u64 0, .int .u64 0]⟩ 28))
  simp only [World.size_alloc] at hr
  have HX := Lib.hid hx; have HR := Lib.hid hr
  clear hx hr
  unfold cfgL at *
  generalize (w.alloc _).alloc _ = V at *
  refine (rStripes_any c V HM.out).mono ?_
  rintro e w1 ⟨rfl, hb⟩
  have HR := Lib.hid (HR.out.below hb)
  have HB := Lib.hid (keepB hb HB.out); have HX := Lib.hid (HX.out.below hb); clear hb
  by_cases hm : c.Strs
  · rw [show stripesB c = true from decide_eq_true hm]
    by_cases hg : 0 ≤ v ∧ v < 2 ∧ 0 ≤ t ∧ t < c.thr
    · have hE := stE_in hm hg
      have HV := Lib.hid (show stA c k v t = ⟨4, atV c k v (t % c.str), ⟨0, 0, 0, 0⟩, ⟨0, 1, 0, 0⟩⟩ from if_pos hE)
      have HE := Lib.hid hE
      have hstr := hm.str
      have hmm : 0 ≤ t % c.str ∧ t % c.str < c.str := ⟨Int.emod_nonneg _ (by omega), Int.emod_lt_of_pos _ (by omega)⟩
      have hrem : t.tmod c.str = t % c.str := Int.tmod_eq_emod_of_nonneg hg.2.2.1
      have hnz : c.str ≠ 0 := by omega
      have HW := Lib.hid (fun (U : World) => rCount_where c k v (t % c.str) U HK.out hm ⟨hg.1, hg.2.1⟩ hmm)
      obtain ⟨g1, g2, g3, g4⟩ := hg
      have g2' : v ≤ 1 := by omega
      clear hm hE hstr hmm g2
      rw [← hrem] at HV HW
      clear hrem
      generalize hq : atV c k v (t.tmod c.str) = q at *
      have HQ := Lib.hid hq
      clear hq
      have x0 := HX.out.c 0 rfl; have x1 := HX.out.c 1 rfl; have x2 := HX.out.c 2 rfl; have x3 := HX.out.c 3 rfl; have x4 := HX.out.c 4 rfl; have x5 := HX.out.c 5 rfl; have x6 := HX.out.c 6 rfl; have x7 := HX.out.c 7 rfl; have x8 := HX.out.c 8 rfl; have x9 := HX.out.c 9 rfl; have x10 := HX.out.c 10 rfl; have x11 := HX.out.c 11 rfl
      go_wp2_with fail
      have HWW := Lib.hid (fun (U : World) (_ : Below w1.heap.size w1 U) => HW.out U)
      go_region_held3 (fun U => Below w1.heap.size w1 U ∧ U.cell? ⟨w.heap.size, 0, none⟩ = some (.int .u8 c.ob) ∧ U.cell? ⟨w.heap.size, 1, none⟩ = some (.int .i64 c.inst) ∧ U.cell? ⟨w.heap.size, 2, none⟩ = some (.int .i64 c.thr) ∧ U.cell? ⟨w.heap.size, 3, none⟩ = some (.int .u8 c.kd) ∧ U.cell? ⟨w.heap.size, 4, none⟩ = some (.int .i64 c.str) ∧ U.cell? ⟨w.heap.size, 5, none⟩ = some (.int .i64 c.bits) ∧ U.cell? ⟨w.heap.size, 6, none⟩ = some (.int .i64 c.cap) ∧ U.cell? ⟨w.heap.size, 7, none⟩ = some (.int .i64 c.node) ∧ U.cell? ⟨w.heap.size, 8, none⟩ = some (.int .i64 c.bat) ∧ U.cell? ⟨w.heap.size, 9, none⟩ = some (.int .i64 c.chk) ∧ U.cell? ⟨w.heap.size, 10, none⟩ = some (.int .u64 c.lim) ∧ U.cell? ⟨w.heap.size, 11, none⟩ = some (.int .u64 c.most)) ((first | ((try go_split_ands); (repeat' apply And.intro); all_goals first | assumption | exact Below.refl _ _ | exact (Below.refl _ _).drew | exact Below.drew (by assumption) | (rw [World.cell?_drew]; assumption) | exact keepC hb (by first | assumption | (rw [World.cell?_drew]; assumption)) | exact keepB hb (by first | assumption | exact Below.drew (by assumption))))) (first | ((go_at_call 52; (with_reducible refine (HWW.out _ (And.left (by assumption))).mono ?_); rintro e w' ⟨rfl, hb⟩)))
      all_goals go_split_ands
      have hbV : Below w1.heap.size w1 w' := by assumption
      have HR := Lib.hid (HR.out.below hbV)
      have HB := Lib.hid (keepB hbV HB.out)
      clear x0 x1 x2 x3 x4 x5 x6 x7 x8 x9 x10 x11
      clear hbV
      have hr := HR.out
      have r0 := hr.c 0 rfl
      have r1 := hr.c 1 rfl
      have r2 := hr.c 2 rfl
      have r3 := hr.c 3 rfl
      have r4 := hr.c 4 rfl
      have r5 := hr.c 5 rfl
      have r6 := hr.c 6 rfl
      have r7 := hr.c 7 rfl
      have r8 := hr.c 8 rfl
      have r9 := hr.c 9 rfl
      have g0 := hr.f 0
      have g1 := hr.f 1
      have g2 := hr.f 2
      have g3 := hr.f 3
      have g4 := hr.f 4
      have g5 := hr.f 5
      have g6 := hr.f 6
      have g7 := hr.f 7
      have g8 := hr.f 8
      have g9 := hr.f 9
      clear hr
      go_wp2_with fail
      refine bodyPost_ret (v := .tuple #[.agg ⟨[.int .u8 4, .int .i64 q, .int .u64 0, .int .u64 0, .int .u64 0, .int .u64 0, .int .u64 0, .int .u64 1, .int .u64 0, .int .u64 0]⟩, .int .i64 0]) ?_ rfl ⟨by rw [HV.out, HE.out]; rfl, below_acc HB.out (by omega) _ _ _ _ _ _ _ _ _ _⟩
      exact (HR.out.acc _ _ _ _ _ _ _ _ _ _).results2 (t := 28) rfl (fun _ => by kernel_rfl) (fun _ => by kernel_rfl) rfl rfl
    · have hE := stE_out hm hg
      have HV := Lib.hid (show stA c k v t = .none from if_neg (by rw [hE]; decide))
      have HE := Lib.hid hE
      have hr := HR.out
      have r0 := hr.c 0 rfl
      have r1 := hr.c 1 rfl
      have r2 := hr.c 2 rfl
      have r3 := hr.c 3 rfl
      have r4 := hr.c 4 rfl
      have r5 := hr.c 5 rfl
      have r6 := hr.c 6 rfl
      have r7 := hr.c 7 rfl
      have r8 := hr.c 8 rfl
      have r9 := hr.c 9 rfl
      have g0 := hr.f 0
      have g1 := hr.f 1
      have g2 := hr.f 2
      have g3 := hr.f 3
      have g4 := hr.f 4
      have g5 := hr.f 5
      have g6 := hr.f 6
      have g7 := hr.f 7
      have g8 := hr.f 8
      have g9 := hr.f 9
      have x2 := HX.out.c 2 rfl
      clear hr hm hE
      by_cases h1 : v < 0
      · go_wp2_with fail
        refine bodyPost_ret (v := .tuple #[.agg ⟨[.int .u8 0, .int .i64 0, .int .u64 0, .int .u64 0, .int .u64 0, .int .u64 0, .int .u64 0, .int .u64 0, .int .u64 0, .int .u64 0]⟩, .int .i64 2]) ?_ rfl ⟨by rw [HV.out, HE.out]; rfl, below_acc HB.out (by omega) _ _ _ _ _ _ _ _ _ _⟩
        exact (HR.out.acc _ _ _ _ _ _ _ _ _ _).results2 (t := 28) rfl (fun _ => by kernel_rfl) (fun _ => by kernel_rfl) rfl rfl
      have h1' : 0 ≤ v := by omega
      by_cases h2 : 1 < v
      · go_wp2_with fail
        refine bodyPost_ret (v := .tuple #[.agg ⟨[.int .u8 0, .int .i64 0, .int .u64 0, .int .u64 0, .int .u64 0, .int .u64 0, .int .u64 0, .int .u64 0, .int .u64 0, .int .u64 0]⟩, .int .i64 2]) ?_ rfl ⟨by rw [HV.out, HE.out]; rfl, below_acc HB.out (by omega) _ _ _ _ _ _ _ _ _ _⟩
        exact (HR.out.acc _ _ _ _ _ _ _ _ _ _).results2 (t := 28) rfl (fun _ => by kernel_rfl) (fun _ => by kernel_rfl) rfl rfl
      have h2' : v ≤ 1 := by omega
      by_cases h3 : t < 0
      · go_wp2_with fail
        refine bodyPost_ret (v := .tuple #[.agg ⟨[.int .u8 0, .int .i64 0, .int .u64 0, .int .u64 0, .int .u64 0, .int .u64 0, .int .u64 0, .int .u64 0, .int .u64 0, .int .u64 0]⟩, .int .i64 2]) ?_ rfl ⟨by rw [HV.out, HE.out]; rfl, below_acc HB.out (by omega) _ _ _ _ _ _ _ _ _ _⟩
        exact (HR.out.acc _ _ _ _ _ _ _ _ _ _).results2 (t := 28) rfl (fun _ => by kernel_rfl) (fun _ => by kernel_rfl) rfl rfl
      have h3' : 0 ≤ t := by omega
      have h4 : c.thr ≤ t := by omega
      clear hg h1 h2 h3
      go_wp2_with fail
      refine bodyPost_ret (v := .tuple #[.agg ⟨[.int .u8 0, .int .i64 0, .int .u64 0, .int .u64 0, .int .u64 0, .int .u64 0, .int .u64 0, .int .u64 0, .int .u64 0, .int .u64 0]⟩, .int .i64 2]) ?_ rfl ⟨by rw [HV.out, HE.out]; rfl, below_acc HB.out (by omega) _ _ _ _ _ _ _ _ _ _⟩
      exact (HR.out.acc _ _ _ _ _ _ _ _ _ _).results2 (t := 28) rfl (fun _ => by kernel_rfl) (fun _ => by kernel_rfl) rfl rfl
  · rw [show stripesB c = false from decide_eq_false hm]
    have hE := stE_no hm v t
    have HV := Lib.hid (show stA c k v t = .none from if_neg (by rw [hE]; decide))
    have HE := Lib.hid hE
    have hr := HR.out
    have r0 := hr.c 0 rfl
    have r1 := hr.c 1 rfl
    have r2 := hr.c 2 rfl
    have r3 := hr.c 3 rfl
    have r4 := hr.c 4 rfl
    have r5 := hr.c 5 rfl
    have r6 := hr.c 6 rfl
    have r7 := hr.c 7 rfl
    have r8 := hr.c 8 rfl
    have r9 := hr.c 9 rfl
    have g0 := hr.f 0
    have g1 := hr.f 1
    have g2 := hr.f 2
    have g3 := hr.f 3
    have g4 := hr.f 4
    have g5 := hr.f 5
    have g6 := hr.f 6
    have g7 := hr.f 7
    have g8 := hr.f 8
    have g9 := hr.f 9
    clear hr hm hE
    go_wp2_with fail
    refine bodyPost_ret (v := .tuple #[.agg ⟨[.int .u8 0, .int .i64 0, .int .u64 0, .int .u64 0, .int .u64 0, .int .u64 0, .int .u64 0, .int .u64 0, .int .u64 0, .int .u64 0]⟩, .int .i64 40]) ?_ rfl ⟨by rw [HV.out, HE.out]; rfl, below_acc HB.out (by omega) _ _ _ _ _ _ _ _ _ _⟩
    exact (HR.out.acc _ _ _ _ _ _ _ _ _ _).results2 (t := 28) rfl (fun _ => by kernel_rfl) (fun _ => by kernel_rfl) rfl rfl

end Go.Proofs.YtdabhkbmdmlgcaaDoor
