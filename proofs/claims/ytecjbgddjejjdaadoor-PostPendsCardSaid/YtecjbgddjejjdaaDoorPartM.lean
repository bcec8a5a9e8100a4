/- Chapter 4: part.Cells. -/
import Derived.Test.YtecjbgddjejjdaaDoorPartF
import Derived.Test.YtecjbgddjejjdaaDoorPartJ
namespace Go.Proofs.YtecjbgddjejjdaaDoor
open Go.RowKit



set_option maxHeartbeats 3200000 in
theorem Cells_any (c : Cfg) (w : World) (hp : Pw w) : Calls Tryd.prog 37 #[.agg #[.int .u8 c.ob, .int .i64 c.inst, .int .i64 c.thr, .int .u8 c.kd, .int .i64 c.str, .int .i64 c.bits, .int .i64 c.cap, .int .i64 c.node, .int .i64 c.bat, .int .i64 c.chk, .int .u64 c.lim, .int .u64 c.most]] w fun e w' => e = .returned (.tuple #[.int .i64 (cellsV c), .int .i64 (checkE c)]) ∧ Below w.heap.size w w' := by
  have HP := Lib.hid hp
  clear hp
  go_enter Tryd.func37, Tryd.ntmps37
  go_wp2_with fail
  have hx := Box.new w 24 (cfgL c); have HB := Lib.hid (newB w (.cells ⟨cfgL c⟩ 24)); unfold cfgL at hx HB; generalize w.alloc _ = V at *; have HX := Lib.hid hx
  clear hx
  refine (Check_any c V).mono ?_
  rintro e w1 ⟨rfl, hb⟩
  have HB := Lib.hid (keepB hb HB.out)
  have hx := HX.out.below hb
  have HX := Lib.hid hx
  have x0 := hx.c 0 rfl
  have x1 := hx.c 1 rfl
  have x2 := hx.c 2 rfl
  have x3 := hx.c 3 rfl
  have x4 := hx.c 4 rfl
  have x5 := hx.c 5 rfl
  have x6 := hx.c 6 rfl
  have x7 := hx.c 7 rfl
  have x8 := hx.c 8 rfl
  have x9 := hx.c 9 rfl
  have x10 := hx.c 10 rfl
  have x11 := hx.c 11 rfl
  clear hx hb
  by_cases hm : c.May
  · have E1 := Lib.hid (show cellsV c = (allN c.shp : Nat) by simp [cellsV, hm])
    have E2 := Lib.hid (show checkE c = 0 by simp [checkE, hm])
    rw [show checkE c = 0 from E2.out]
    have HM := Lib.hid hm
    have hS := May.small hm
    have s1 := shp_thr hm
    have s2 := shp_inst hm
    have s3 := shp_str hm
    have hkd := May.kd hm
    have b1 := hS.thr
    have b2 := hS.str
    have b3 := hS.inst
    have b4 := hS.size
    have hgr : greatN c = c.shp.size := rfl
    have hmul : c.shp.inst * (1 + greatN c) ≤ 4 * 162 := Nat.mul_le_mul b3 (by omega)
    have HA := Lib.hid (show allN c.shp = aheadN c.shp + c.shp.inst * (1 + greatN c) from rfl)
    clear hm hS
    go_wp2_with fail
    generalize hG : greatN c = G at *
    obtain ⟨g1, hg1⟩ : ∃ g, g = 2 * c.shp.thr := ⟨_, rfl⟩
    obtain ⟨g2, hg2⟩ : ∃ g, g = 3 + g1 := ⟨_, rfl⟩
    obtain ⟨g3, hg3⟩ : ∃ g, g = 4 * c.shp.str := ⟨_, rfl⟩
    obtain ⟨g4, hg4⟩ : ∃ g, g = g2 + g3 := ⟨_, rfl⟩
    obtain ⟨g5, hg5⟩ : ∃ g, g = 1 + G := ⟨_, rfl⟩
    obtain ⟨g6, hg6⟩ : ∃ g, g = c.shp.inst * g5 := ⟨_, rfl⟩
    obtain ⟨g7, hg7⟩ : ∃ g, g = g4 + g6 := ⟨_, rfl⟩
    have e1 : IntKind.i64.wrap (2 * c.thr) = (g1 : Int) := wrapN (by omega) (by omega)
    have e2 : IntKind.i64.wrap (3 + (g1 : Int)) = (g2 : Int) := wrapN (by omega) (by omega)
    have e3 : IntKind.i64.wrap (4 * c.str) = (g3 : Int) := wrapN (by omega) (by omega)
    have e4 : IntKind.i64.wrap ((g2 : Int) + (g3 : Int)) = (g4 : Int) := wrapN (by omega) (by omega)
    have e5 : IntKind.i64.wrap (1 + (G : Int)) = (g5 : Int) := wrapN (by omega) (by omega)
    have hm6 : g6 ≤ 648 := by rw [hg6, hg5]; exact hmul
    have e6 : IntKind.i64.wrap (c.inst * (g5 : Int)) = (g6 : Int) := wrapN (by rw [hg6, Int.natCast_mul, s2]) (by omega)
    have e7 : IntKind.i64.wrap ((g4 : Int) + (g6 : Int)) = (g7 : Int) := wrapN (by omega) (by omega)
    have uG : ∀ W, Pw W → Calls Tryd.prog 60 #[.agg #[.int .u8 c.ob, .int .i64 c.inst, .int .i64 c.thr, .int .u8 c.kd, .int .i64 c.str, .int .i64 c.bits, .int .i64 c.cap, .int .i64 c.node, .int .i64 c.bat, .int .i64 c.chk, .int .u64 c.lim, .int .u64 c.most]] W fun e w' => e = .returned (.int .i64 G) ∧ Below W.heap.size W w' := fun W hp => by rw [← hG]; exact size_any c W HM.out hp
    have HUG := Lib.hid uG
    have hq7 : g7 ≤ 1000 := by omega
    have hal : (if c.shp.slots then g7 + g1 else g7) = allN c.shp := by
      rw [HA.out, ← hg5, ← hg6]
      unfold aheadN
      rcases hkd with ⟨_, d2, d3⟩ | ⟨_, d2, _⟩
      · rw [d2]; simp; omega
      · rw [d2]; simp; omega
    have HAL := Lib.hid hal
    have hg1' : (g1 : Int) = 2 * c.thr := by omega
    have HG1 := Lib.hid hg1'
    have hth : 2 * c.thr ≤ 100 := by omega
    have hth2 : 0 ≤ 2 * c.thr := by omega
    clear s1 s2 s3 hmul hG hgr hg1 hg2 hg3 hg4 hg5 hg6 hg7 b1 b2 b3 b4 uG hm6 HA hal hg1'
    go_region_held3 (fun U => Below w.heap.size w U ∧ U.cell? ⟨w.heap.size, 0, none⟩ = some (.int .u8 c.ob) ∧ U.cell? ⟨w.heap.size, 1, none⟩ = some (.int .i64 c.inst) ∧ U.cell? ⟨w.heap.size, 2, none⟩ = some (.int .i64 c.thr) ∧ U.cell? ⟨w.heap.size, 3, none⟩ = some (.int .u8 c.kd) ∧ U.cell? ⟨w.heap.size, 4, none⟩ = some (.int .i64 c.str) ∧ U.cell? ⟨w.heap.size, 5, none⟩ = some (.int .i64 c.bits) ∧ U.cell? ⟨w.heap.size, 6, none⟩ = some (.int .i64 c.cap) ∧ U.cell? ⟨w.heap.size, 7, none⟩ = some (.int .i64 c.node) ∧ U.cell? ⟨w.heap.size, 8, none⟩ = some (.int .i64 c.bat) ∧ U.cell? ⟨w.heap.size, 9, none⟩ = some (.int .i64 c.chk) ∧ U.cell? ⟨w.heap.size, 10, none⟩ = some (.int .u64 c.lim) ∧ U.cell? ⟨w.heap.size, 11, none⟩ = some (.int .u64 c.most)) ((first | ((try go_split_ands); (repeat' apply And.intro); all_goals first | assumption | exact HB.out | exact Below.drew HB.out | (rw [World.cell?_drew]; assumption) | exact keepC hb (by first | assumption | (rw [World.cell?_drew]; assumption)) | exact keepB hb (by first | assumption | exact Below.drew (by assumption))))) ((go_at_call 60; refine (HUG.out _ (HP.out.more (Below.drew HB.out))).mono ?_; rintro e w' ⟨rfl, hb⟩))
    all_goals go_split_ands
    all_goals clear e1 e2 e3 e4 e5 e6 e7
    all_goals rcases hkd with ⟨d1, d2, d3⟩ | ⟨d1, d2, d3⟩
    all_goals rw [d2] at HAL
    all_goals first | (have k1 : (c.kd == 1) = true := by simp [d1]) | (have k1 : (c.kd == 1) = false := by simp [d1])
    all_goals clear d1 d2 d3
    all_goals go_wp2_with fail
    all_goals go_ret2
    all_goals refine ⟨?_, by assumption⟩
    · have v1 := HAL.out
      have v2 := HG1.out
      simp only [↓reduceIte] at v1
      rw [E1.out, E2.out, show ((allN c.shp : Nat) : Int) = (g7 : Int) + 2 * c.thr by omega]
      rfl
    · have v1 := HAL.out
      simp only [Bool.false_eq_true, ↓reduceIte] at v1
      rw [E1.out, E2.out, show ((allN c.shp : Nat) : Int) = (g7 : Int) by omega]
      rfl
  · have E1 := Lib.hid (show cellsV c = 0 by simp [cellsV, hm])
    have E2 := Lib.hid (show checkE c = 40 by simp [checkE, hm])
    rw [show checkE c = 40 from E2.out]
    clear hm
    go_wp2_with fail
    go_ret2
    exact ⟨by rw [E1.out, E2.out]; rfl, HB.out⟩

end Go.Proofs.YtecjbgddjejjdaaDoor
