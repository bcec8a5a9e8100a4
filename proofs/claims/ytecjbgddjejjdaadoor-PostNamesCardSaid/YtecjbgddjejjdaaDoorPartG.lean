/- Chapter 4: the reference's Where, Of. -/
import Derived.Test.YtecjbgddjejjdaaDoorPartF
namespace Go.Proofs.YtecjbgddjejjdaaDoor
open Go.RowKit



theorem where9 {s : Shp} {p : Pl} (h : p.k = 9) : whereN s p = aheadN s + p.a * (1 + s.size) := by simp [whereN, h]
theorem where10 {s : Shp} {p : Pl} (h : p.k = 10) : whereN s p = aheadN s + p.a * (1 + s.size) + 1 + p.b := by simp [whereN, h]
theorem has9 {s : Shp} {p : Pl} (h : p.k = 9) (g : hasP s p) : p.a < s.inst ∧ p.b < 1 := by
  have := cnt_9 (s := s)
  unfold hasP at g
  rw [h] at g
  omega
theorem has10 {s : Shp} {p : Pl} (h : p.k = 10) (g : hasP s p) : p.a < s.inst ∧ p.b < s.size := by
  have := cnt_10 (s := s)
  unfold hasP at g
  rw [h] at g
  omega

set_option maxHeartbeats 1600000 in
theorem Where_9 (c : Cfg) (a : Nat) (b : Int) (w : World) (hm : c.May) (ha : a < c.shp.inst) : Calls Tryd.prog 34 #[.agg #[.int .u8 c.ob, .int .i64 c.inst, .int .i64 c.thr, .int .u8 c.kd, .int .i64 c.str, .int .i64 c.bits, .int .i64 c.cap, .int .i64 c.node, .int .i64 c.bat, .int .i64 c.chk, .int .u64 c.lim, .int .u64 c.most], .agg #[.int .u8 9, .int .i64 a, .int .i64 b]] w fun e w' => e = .returned (.int .i64 (aheadN c.shp + a * (1 + greatN c) : Nat)) ∧ Below w.heap.size w w' := by
  have HM := Lib.hid hm
  obtain ⟨a1, a2, a3⟩ := all_le (May.small hm)
  have hS := May.small hm
  have hg : greatN c = c.shp.size := rfl
  have h4 := hS.size
  have h3 := hS.inst
  have hmul : a * (1 + greatN c) ≤ 4 * 162 := Nat.mul_le_mul (by omega) (by omega)
  clear hm hS a1 a2 ha
  go_enter Tryd.func34, Tryd.ntmps34
  go_wp2_with fail
  have hx := Box.new w 24 (cfgL c)
  have hp := Box.new (w.alloc (.cells ⟨cfgL c⟩ 24)) 59 [.int .u8 9, .int .i64 a, .int .i64 b]
  have hx := hx.alloc (.cells ⟨[.int .u8 9, .int .i64 a, .int .i64 b]⟩ 59)
  have HB := Lib.hid (moreB (newB w (.cells ⟨cfgL c⟩ 24)) (.cells ⟨[.int .u8 9, .int .i64 a, .int .i64 b]⟩ 59))
  rw [World.size_alloc] at hp
  unfold cfgL at *
  generalize (w.alloc _).alloc _ = V at *
  have x0 := hx.c 0 rfl
  have x1 := hx.c 1 rfl
  have x2 := hx.c 2 rfl
  have x3 := hx.c 3 rfl
  have x4 := hx.c 4 rfl
  have x5 := hx.c 5 rfl
  have x6 := hx.c 6 rfl
  have x7 := hx.c 7 rfl
  have x8 := hx.c 8 rfl
  have x9 := hx.c 9 rfl
  have x10 := hx.c 10 rfl
  have x11 := hx.c 11 rfl
  have p1 := hp.c 1 rfl
  clear hx hp
  generalize hA : aheadN c.shp = A at *
  generalize hG : greatN c = G at *
  obtain ⟨g1, hg1⟩ : ∃ g1, g1 = 1 + G := ⟨_, rfl⟩
  obtain ⟨g2, hg2⟩ : ∃ g2, g2 = a * g1 := ⟨_, rfl⟩
  obtain ⟨g3, hg3⟩ : ∃ g3, g3 = A + g2 := ⟨_, rfl⟩
  have e1 : IntKind.i64.wrap (1 + (G : Int)) = (g1 : Int) := wrapN (by omega) (by omega)
  have e2 : IntKind.i64.wrap ((a : Int) * (g1 : Int)) = (g2 : Int) := wrapN (by rw [hg2, Int.natCast_mul]) (by rw [hg2, hg1]; omega)
  have e3 : IntKind.i64.wrap ((A : Int) + (g2 : Int)) = (g3 : Int) := wrapN (by omega) (by rw [hg3, hg2, hg1]; omega)
  have HE := Lib.hid (show aheadN c.shp + a * (1 + greatN c) = g3 by rw [hA, hG, hg3, hg2, hg1])
  have uA : ∀ W, Calls Tryd.prog 57 #[.agg #[.int .u8 c.ob, .int .i64 c.inst, .int .i64 c.thr, .int .u8 c.kd, .int .i64 c.str, .int .i64 c.bits, .int .i64 c.cap, .int .i64 c.node, .int .i64 c.bat, .int .i64 c.chk, .int .u64 c.lim, .int .u64 c.most]] W fun e w' => e = .returned (.int .i64 A) ∧ Below W.heap.size W w' := fun W => by rw [← hA]; exact Ahead_any c W HM.out
  have uG : ∀ W, Calls Tryd.prog 58 #[.agg #[.int .u8 c.ob, .int .i64 c.inst, .int .i64 c.thr, .int .u8 c.kd, .int .i64 c.str, .int .i64 c.bits, .int .i64 c.cap, .int .i64 c.node, .int .i64 c.bat, .int .i64 c.chk, .int .u64 c.lim, .int .u64 c.most]] W fun e w' => e = .returned (.int .i64 G) ∧ Below W.heap.size W w' := fun W => by rw [← hG]; exact Great_any c W HM.out
  clear hmul hA hG hg hg1 hg2 hg3 h3 h4 a3
  go_region_held3 (fun U => Below w.heap.size w U ∧ U.cell? ⟨w.heap.size + 1, 1, none⟩ = some (.int .i64 a) ∧ U.cell? ⟨w.heap.size, 0, none⟩ = some (.int .u8 c.ob) ∧ U.cell? ⟨w.heap.size, 1, none⟩ = some (.int .i64 c.inst) ∧ U.cell? ⟨w.heap.size, 2, none⟩ = some (.int .i64 c.thr) ∧ U.cell? ⟨w.heap.size, 3, none⟩ = some (.int .u8 c.kd) ∧ U.cell? ⟨w.heap.size, 4, none⟩ = some (.int .i64 c.str) ∧ U.cell? ⟨w.heap.size, 5, none⟩ = some (.int .i64 c.bits) ∧ U.cell? ⟨w.heap.size, 6, none⟩ = some (.int .i64 c.cap) ∧ U.cell? ⟨w.heap.size, 7, none⟩ = some (.int .i64 c.node) ∧ U.cell? ⟨w.heap.size, 8, none⟩ = some (.int .i64 c.bat) ∧ U.cell? ⟨w.heap.size, 9, none⟩ = some (.int .i64 c.chk) ∧ U.cell? ⟨w.heap.size, 10, none⟩ = some (.int .u64 c.lim) ∧ U.cell? ⟨w.heap.size, 11, none⟩ = some (.int .u64 c.most)) ((first | ((try go_split_ands); (repeat' apply And.intro); all_goals first | assumption | exact HB.out | exact Below.drew HB.out | (rw [World.cell?_drew]; assumption) | exact keepC hb (by first | assumption | (rw [World.cell?_drew]; assumption)) | exact keepB hb (by first | assumption | exact Below.drew (by assumption))))) (first | ((go_at_call 58; refine (uG _).mono ?_; rintro e w' ⟨rfl, hb⟩)) | ((go_at_call 57; refine (uA _).mono ?_; rintro e w' ⟨rfl, hb⟩)))
  all_goals go_split_ands
  all_goals go_wp2_with fail
  all_goals go_ret
  all_goals exact ⟨ret_i64 (by rw [HE.out]), by assumption⟩

set_option maxHeartbeats 3200000 in
theorem Where_10 (c : Cfg) (a b : Nat) (w : World) (hm : c.May) (ha : a < c.shp.inst) (hb : b < c.shp.size) : Calls Tryd.prog 34 #[.agg #[.int .u8 c.ob, .int .i64 c.inst, .int .i64 c.thr, .int .u8 c.kd, .int .i64 c.str, .int .i64 c.bits, .int .i64 c.cap, .int .i64 c.node, .int .i64 c.bat, .int .i64 c.chk, .int .u64 c.lim, .int .u64 c.most], .agg #[.int .u8 10, .int .i64 a, .int .i64 b]] w fun e w' => e = .returned (.int .i64 (aheadN c.shp + a * (1 + greatN c) + 1 + b : Nat)) ∧ Below w.heap.size w w' := by
  have HM := Lib.hid hm
  obtain ⟨a1, a2, a3⟩ := all_le (May.small hm)
  have hS := May.small hm
  have hg : greatN c = c.shp.size := rfl
  have h4 := hS.size
  have h3 := hS.inst
  have hmul : a * (1 + greatN c) ≤ 4 * 162 := Nat.mul_le_mul (by omega) (by omega)
  have hb2 : b ≤ 161 := by omega
  clear hm hS a1 a2 ha hb
  go_enter Tryd.func34, Tryd.ntmps34
  go_wp2_with fail
  have hx := Box.new w 24 (cfgL c)
  have hp := Box.new (w.alloc (.cells ⟨cfgL c⟩ 24)) 59 [.int .u8 10, .int .i64 a, .int .i64 b]
  have hx := hx.alloc (.cells ⟨[.int .u8 10, .int .i64 a, .int .i64 b]⟩ 59)
  have HB := Lib.hid (moreB (newB w (.cells ⟨cfgL c⟩ 24)) (.cells ⟨[.int .u8 10, .int .i64 a, .int .i64 b]⟩ 59))
  rw [World.size_alloc] at hp
  unfold cfgL at *
  generalize (w.alloc _).alloc _ = V at *
  have x0 := hx.c 0 rfl
  have x1 := hx.c 1 rfl
  have x2 := hx.c 2 rfl
  have x3 := hx.c 3 rfl
  have x4 := hx.c 4 rfl
  have x5 := hx.c 5 rfl
  have x6 := hx.c 6 rfl
  have x7 := hx.c 7 rfl
  have x8 := hx.c 8 rfl
  have x9 := hx.c 9 rfl
  have x10 := hx.c 10 rfl
  have x11 := hx.c 11 rfl
  have p1 := hp.c 1 rfl
  have p2 := hp.c 2 rfl
  clear hx hp
  generalize hA : aheadN c.shp = A at *
  generalize hG : greatN c = G at *
  obtain ⟨g1, hg1⟩ : ∃ g1, g1 = 1 + G := ⟨_, rfl⟩
  obtain ⟨g2, hg2⟩ : ∃ g2, g2 = a * g1 := ⟨_, rfl⟩
  obtain ⟨g3, hg3⟩ : ∃ g3, g3 = A + g2 := ⟨_, rfl⟩
  obtain ⟨g4, hg4⟩ : ∃ g4, g4 = g3 + 1 := ⟨_, rfl⟩
  obtain ⟨g5, hg5⟩ : ∃ g5, g5 = g4 + b := ⟨_, rfl⟩
  have e1 : IntKind.i64.wrap (1 + (G : Int)) = (g1 : Int) := wrapN (by omega) (by omega)
  have e2 : IntKind.i64.wrap ((a : Int) * (g1 : Int)) = (g2 : Int) := wrapN (by rw [hg2, Int.natCast_mul]) (by rw [hg2, hg1]; omega)
  have q3 : g3 ≤ 67 + 648 := by rw [hg3, hg2, hg1]; omega
  have e3 : IntKind.i64.wrap ((A : Int) + (g2 : Int)) = (g3 : Int) := wrapN (by omega) (by omega)
  have e4 : IntKind.i64.wrap ((g3 : Int) + 1) = (g4 : Int) := wrapN (by omega) (by omega)
  have e5 : IntKind.i64.wrap ((g4 : Int) + (b : Int)) = (g5 : Int) := wrapN (by omega) (by omega)
  have HE := Lib.hid (show aheadN c.shp + a * (1 + greatN c) + 1 + b = g5 by rw [hA, hG, hg5, hg4, hg3, hg2, hg1])
  have uA : ∀ W, Calls Tryd.prog 57 #[.agg #[.int .u8 c.ob, .int .i64 c.inst, .int .i64 c.thr, .int .u8 c.kd, .int .i64 c.str, .int .i64 c.bits, .int .i64 c.cap, .int .i64 c.node, .int .i64 c.bat, .int .i64 c.chk, .int .u64 c.lim, .int .u64 c.most]] W fun e w' => e = .returned (.int .i64 A) ∧ Below W.heap.size W w' := fun W => by rw [← hA]; exact Ahead_any c W HM.out
  have uG : ∀ W, Calls Tryd.prog 58 #[.agg #[.int .u8 c.ob, .int .i64 c.inst, .int .i64 c.thr, .int .u8 c.kd, .int .i64 c.str, .int .i64 c.bits, .int .i64 c.cap, .int .i64 c.node, .int .i64 c.bat, .int .i64 c.chk, .int .u64 c.lim, .int .u64 c.most]] W fun e w' => e = .returned (.int .i64 G) ∧ Below W.heap.size W w' := fun W => by rw [← hG]; exact Great_any c W HM.out
  clear hmul hA hG hg hg1 hg2 hg3 hg4 hg5 h3 h4 a3 q3 hb2
  go_region_held3 (fun U => Below w.heap.size w U ∧ U.cell? ⟨w.heap.size + 1, 1, none⟩ = some (.int .i64 a) ∧ U.cell? ⟨w.heap.size + 1, 2, none⟩ = some (.int .i64 b) ∧ U.cell? ⟨w.heap.size, 0, none⟩ = some (.int .u8 c.ob) ∧ U.cell? ⟨w.heap.size, 1, none⟩ = some (.int .i64 c.inst) ∧ U.cell? ⟨w.heap.size, 2, none⟩ = some (.int .i64 c.thr) ∧ U.cell? ⟨w.heap.size, 3, none⟩ = some (.int .u8 c.kd) ∧ U.cell? ⟨w.heap.size, 4, none⟩ = some (.int .i64 c.str) ∧ U.cell? ⟨w.heap.size, 5, none⟩ = some (.int .i64 c.bits) ∧ U.cell? ⟨w.heap.size, 6, none⟩ = some (.int .i64 c.cap) ∧ U.cell? ⟨w.heap.size, 7, none⟩ = some (.int .i64 c.node) ∧ U.cell? ⟨w.heap.size, 8, none⟩ = some (.int .i64 c.bat) ∧ U.cell? ⟨w.heap.size, 9, none⟩ = some (.int .i64 c.chk) ∧ U.cell? ⟨w.heap.size, 10, none⟩ = some (.int .u64 c.lim) ∧ U.cell? ⟨w.heap.size, 11, none⟩ = some (.int .u64 c.most)) ((first | ((try go_split_ands); (repeat' apply And.intro); all_goals first | assumption | exact HB.out | exact Below.drew HB.out | (rw [World.cell?_drew]; assumption) | exact keepC hb (by first | assumption | (rw [World.cell?_drew]; assumption)) | exact keepB hb (by first | assumption | exact Below.drew (by assumption))))) (first | ((go_at_call 58; refine (uG _).mono ?_; rintro e w' ⟨rfl, hb⟩)) | ((go_at_call 57; refine (uA _).mono ?_; rintro e w' ⟨rfl, hb⟩)))
  all_goals go_split_ands
  all_goals go_wp2_with fail
  all_goals go_ret
  all_goals exact ⟨ret_i64 (by rw [HE.out]), by assumption⟩

set_option maxHeartbeats 3200000 in
theorem Where_8 (c : Cfg) (p : Pl) (w : World) (hm : c.May) (hp : hasP c.shp p) (h8 : p.k ≤ 8) : Calls Tryd.prog 34 #[.agg #[.int .u8 c.ob, .int .i64 c.inst, .int .i64 c.thr, .int .u8 c.kd, .int .i64 c.str, .int .i64 c.bits, .int .i64 c.cap, .int .i64 c.node, .int .i64 c.bat, .int .i64 c.chk, .int .u64 c.lim, .int .u64 c.most], .agg #[.int .u8 p.k, .int .i64 p.a, .int .i64 p.b]] w fun e w' => e = .returned (.int .i64 (whereN c.shp p)) ∧ Below w.heap.size w w' := by
  have HM := Lib.hid hm
  have HS := Lib.hid (May.small hm)
  obtain ⟨k1, hk⟩ := sumC_where hp h8
  have HK := Lib.hid hk
  have hw := where_le (May.small hm) hp
  obtain ⟨hp1, hp2⟩ := hp
  obtain ⟨n1, n2, n3⟩ := counts_le (May.small hm) p.k
  have hpa : p.a ≤ 16 := by omega
  have hpb : p.b ≤ 161 := by omega
  have hmul : p.a * (countsN c.shp p.k).2 ≤ 16 * 161 := Nat.mul_le_mul hpa n2
  obtain ⟨k, a, b⟩ := p
  simp only at *
  have q9 : ((k : Int) == 9) = false := by simp; omega
  have q10 : ((k : Int) == 10) = false := by simp; omega
  have hr := sumC_le HS.out (show k ≤ 9 by omega)
  obtain ⟨g0, hg0⟩ : ∃ g0, g0 = (countsN c.shp k).2 := ⟨_, rfl⟩
  rw [← hg0] at hk
  obtain ⟨g1, hg1⟩ : ∃ g1, g1 = a * g0 := ⟨_, rfl⟩
  obtain ⟨g2, hg2⟩ : ∃ g2, g2 = sumC c.shp k + g1 := ⟨_, rfl⟩
  have e1 := Lib.hid (show (a : Int) * (((countsN c.shp k).2 : Nat) : Int) = (g1 : Int) by rw [hg1, hg0, Int.natCast_mul])
  have e2 := Lib.hid (show ((sumC c.shp k : Nat) : Int) + (g1 : Int) = (g2 : Int) by omega)
  have HE := Lib.hid (show whereN c.shp ⟨k, a, b⟩ = g2 + b by rw [← hk, hg2, hg1])
  have b1 : g1 ≤ 16 * 161 := by rw [hg1, hg0]; exact hmul
  have b2 : g2 ≤ 67 + 16 * 161 := by omega
  clear hm hk hw hp1 hp2 n1 n2 n3 hmul hg0 hg1 hg2 hr HK
  go_enter Tryd.func34, Tryd.ntmps34
  go_wp2_with fail
  have hx := Box.new w 24 (cfgL c)
  have hp := Box.new (w.alloc (.cells ⟨cfgL c⟩ 24)) 59 [.int .u8 k, .int .i64 a, .int .i64 b]
  have hx := hx.alloc (.cells ⟨[.int .u8 k, .int .i64 a, .int .i64 b]⟩ 59)
  have HB := Lib.hid (moreB (newB w (.cells ⟨cfgL c⟩ 24)) (.cells ⟨[.int .u8 k, .int .i64 a, .int .i64 b]⟩ 59))
  rw [World.size_alloc] at hp
  unfold cfgL at *
  generalize (w.alloc _).alloc _ = V at *
  have HX := Lib.hid hx
  have HP := Lib.hid hp
  clear hx hp
  go_loopw [5, 6] (fun s i wr => ∃ j : Nat, 1 ≤ j ∧ j ≤ k ∧ i = .int .u8 j ∧ s = .int .i64 (sumC c.shp j : Nat) ∧ Below w.heap.size w wr ∧ Box wr w.heap.size (cfgL c) ∧ Box wr (w.heap.size + 1) [.int .u8 k, .int .i64 a, .int .i64 b]) (fun _ i _ => 10 - (intOf i).toNat)
  case atStart => exact ⟨1, by omega, by omega, rfl, rfl, HB.out, HX.out, HP.out⟩
  case round =>
    clear HX HB HP
    obtain ⟨j, hj1, hj, rfl, rfl, hb0, hx, hp⟩ := hrel
    have hs := sumC_le HS.out (show j ≤ 9 by omega)
    by_cases hlt : j < k
    · have hE := sumC_succ c.shp j hj1
      have hC := counts_le HS.out j
      obtain ⟨m1, hm1⟩ : ∃ m1, m1 = (countsN c.shp j).1 * (countsN c.shp j).2 := ⟨_, rfl⟩
      have f1 := Lib.hid (show (((countsN c.shp j).1 : Nat) : Int) * (((countsN c.shp j).2 : Nat) : Int) = (m1 : Int) by rw [hm1, Int.natCast_mul])
      rw [← hm1] at hE hC
      have HE2 := Lib.hid hE
      have hm2 := hC.2.2
      clear hm1 hE hC
      generalize sumC c.shp j = s at *
      have HX := Lib.hid hx
      have HP := Lib.hid hp
      have HB := Lib.hid hb0
      unfold cfgL at hx
      have x0 := hx.c 0 rfl
      have x1 := hx.c 1 rfl
      have x2 := hx.c 2 rfl
      have x3 := hx.c 3 rfl
      have x4 := hx.c 4 rfl
      have x5 := hx.c 5 rfl
      have x6 := hx.c 6 rfl
      have x7 := hx.c 7 rfl
      have x8 := hx.c 8 rfl
      have x9 := hx.c 9 rfl
      have x10 := hx.c 10 rfl
      have x11 := hx.c 11 rfl
      have p0 := hp.c 0 rfl
      clear hx hb0 hp
      go_wp2_with fail
      refine (counts_any c j j wr HM.out rfl).mono ?_
      rintro e w1 ⟨rfl, hb⟩
      have HX1 := Lib.hid (HX.out.below hb)
      have HP1 := Lib.hid (HP.out.below hb)
      have HB1 := Lib.hid (keepB hb HB.out)
      clear x0 x1 x2 x3 x4 x5 x6 x7 x8 x9 x10 x11 p0 HX HB HP hb
      have f := f1.out
      generalize (((countsN c.shp j).1 : Nat) : Int) = n1 at *
      generalize (((countsN c.shp j).2 : Nat) : Int) = n2 at *
      go_wp2_with fail
      go_roundw
      case rel => exact ⟨j + 1, by omega, by omega, by go_num, by rw [HE2.out]; go_num, HB1.out, HX1.out, HP1.out⟩
      case measure => simp [intOf]; omega
    · obtain rfl : j = k := by omega
      have HX := Lib.hid hx
      have HP := Lib.hid hp
      have HB := Lib.hid hb0
      unfold cfgL at hx
      have x0 := hx.c 0 rfl
      have x1 := hx.c 1 rfl
      have x2 := hx.c 2 rfl
      have x3 := hx.c 3 rfl
      have x4 := hx.c 4 rfl
      have x5 := hx.c 5 rfl
      have x6 := hx.c 6 rfl
      have x7 := hx.c 7 rfl
      have x8 := hx.c 8 rfl
      have x9 := hx.c 9 rfl
      have x10 := hx.c 10 rfl
      have x11 := hx.c 11 rfl
      have p0 := hp.c 0 rfl
      have c2 := e2.out
      generalize ((sumC c.shp j : Nat) : Int) = s at *
      clear hx hb0 hp
      go_wp2_with fail
      refine (counts_any c j j wr HM.out rfl).mono ?_
      rintro e w1 ⟨rfl, hb⟩
      have hp := HP.out.below hb
      have p1 := hp.c 1 rfl
      have p2 := hp.c 2 rfl
      have HB1 := Lib.hid (keepB hb HB.out)
      clear x0 x1 x2 x3 x4 x5 x6 x7 x8 x9 x10 x11 p0 HX HB HP hb hp
      have c1 := e1.out
      generalize (((countsN c.shp j).1 : Nat) : Int) = n1 at *
      generalize (((countsN c.shp j).2 : Nat) : Int) = n2 at *
      go_wp2_with fail
      go_ret
      exact ⟨ret_i64 (by rw [HE.out]; go_num), HB1.out⟩

theorem Where_any (c : Cfg) (p : Pl) (w : World) (hm : c.May) (hp : hasP c.shp p) : Calls Tryd.prog 34 #[.agg #[.int .u8 c.ob, .int .i64 c.inst, .int .i64 c.thr, .int .u8 c.kd, .int .i64 c.str, .int .i64 c.bits, .int .i64 c.cap, .int .i64 c.node, .int .i64 c.bat, .int .i64 c.chk, .int .u64 c.lim, .int .u64 c.most], .agg #[.int .u8 p.k, .int .i64 p.a, .int .i64 p.b]] w fun e w' => e = .returned (.int .i64 (whereN c.shp p)) ∧ Below w.heap.size w w' := by
  have hk := has_k hp
  by_cases h8 : p.k ≤ 8
  · exact Where_8 c p w hm hp h8
  · obtain ⟨k, a, b⟩ := p
    simp only at *
    by_cases h9 : k = 9
    · subst h9
      rw [where9 rfl]
      exact Where_9 c a b w hm (has9 (p := ⟨9, a, b⟩) rfl hp).1
    · obtain rfl : k = 10 := by omega
      obtain ⟨g1, g2⟩ := has10 (p := ⟨10, a, b⟩) rfl hp
      rw [where10 rfl]
      exact Where_10 c a b w hm g1 g2

end Go.Proofs.YtecjbgddjejjdaaDoor
