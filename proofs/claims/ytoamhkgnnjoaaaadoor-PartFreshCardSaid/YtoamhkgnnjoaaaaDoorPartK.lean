/- Chapter 4: the reference's At, What, Size, Cells, Check. -/
import Derived.Test.YtoamhkgnnjoaaaaDoorPartH
import Derived.Test.YtoamhkgnnjoaaaaDoorPartB
namespace Go.Proofs.YtoamhkgnnjoaaaaDoor
open Go.RowKit


def sizeV (c : Cfg) : Int := if c.May then (greatN c : Nat) else 0
def cellsV (c : Cfg) : Int := if c.May then (allN c.shp : Nat) else 0


set_option maxHeartbeats 1600000 in
theorem rSize_any (c : Cfg) (w : World) (hk : 0 ≤ c.most) : Calls Tryd.prog 22 #[.agg #[.int .u8 c.ob, .int .i64 c.inst, .int .i64 c.thr, .int .u8 c.kd, .int .i64 c.str, .int .i64 c.bits, .int .i64 c.cap, .int .i64 c.node, .int .i64 c.bat, .int .i64 c.chk, .int .u64 c.lim, .int .u64 c.most]] w fun e w' => e = .returned (.tuple #[.int .i64 (sizeV c), .int .i64 (checkE c)]) ∧ Below w.heap.size w w' := by
  have HK := Lib.hid hk
  clear hk
  go_enter Tryd.func22, Tryd.ntmps22
  go_wp2_with fail
  have hx := Box.new w 24 (cfgL c); have HB := Lib.hid (newB w (.cells ⟨cfgL c⟩ 24)); unfold cfgL at hx HB; generalize w.alloc _ = V at *; have HX := Lib.hid hx
  clear hx
  refine (MayBe_any c V HK.out).mono ?_
  rintro e w1 ⟨rfl, hb⟩
  have HB := Lib.hid (keepB hb HB.out)
  have hx := HX.out.below hb
  have HX := Lib.hid hx
  have x0 := hx.c 0 rfl
  have x1 := hx.c 1 rfl
  have x2 := hx.c 2 rfl
  have x3 := hx.c 3 rfl
  have x4 := hx.c 4 rfl
  have x5 := hx.c 5 rfl
  have x6 := hx.c 6 rfl
  have x7 := hx.c 7 rfl
  have x8 := hx.c 8 rfl
  have x9 := hx.c 9 rfl
  have x10 := hx.c 10 rfl
  have x11 := hx.c 11 rfl
  clear hx hb
  by_cases hm : c.May
  · have E1 := Lib.hid (show sizeV c = (greatN c : Nat) by simp [sizeV, hm])
    have E2 := Lib.hid (show checkE c = 0 by simp [checkE, hm])
    rw [show mayC c = true from (mayC_iff c).2 hm]
    have HM := Lib.hid hm
    clear hm
    go_wp2_with fail
    refine (Great_any c w1 HM.out).mono ?_
    rintro e w2 ⟨rfl, hb⟩
    have HB := Lib.hid (keepB hb HB.out)
    clear x0 x1 x2 x3 x4 x5 x6 x7 x8 x9 x10 x11 hb
    go_wp2_with fail
    go_ret2
    exact ⟨by rw [E1.out, E2.out]; rfl, HB.out⟩
  · have E1 := Lib.hid (show sizeV c = 0 by simp [sizeV, hm])
    have E2 := Lib.hid (show checkE c = 40 by simp [checkE, hm])
    rw [show mayC c = false from by simp [mayC, hm]]
    clear hm
    go_wp2_with fail
    go_ret2
    exact ⟨by rw [E1.out, E2.out]; rfl, HB.out⟩

set_option maxHeartbeats 1600000 in
theorem rCells_any (c : Cfg) (w : World) (hk : 0 ≤ c.most) : Calls Tryd.prog 24 #[.agg #[.int .u8 c.ob, .int .i64 c.inst, .int .i64 c.thr, .int .u8 c.kd, .int .i64 c.str, .int .i64 c.bits, .int .i64 c.cap, .int .i64 c.node, .int .i64 c.bat, .int .i64 c.chk, .int .u64 c.lim, .int .u64 c.most]] w fun e w' => e = .returned (.tuple #[.int .i64 (cellsV c), .int .i64 (checkE c)]) ∧ Below w.heap.size w w' := by
  have HK := Lib.hid hk
  clear hk
  go_enter Tryd.func24, Tryd.ntmps24
  go_wp2_with fail
  have hx := Box.new w 24 (cfgL c); have HB := Lib.hid (newB w (.cells ⟨cfgL c⟩ 24)); unfold cfgL at hx HB; generalize w.alloc _ = V at *; have HX := Lib.hid hx
  clear hx
  refine (MayBe_any c V HK.out).mono ?_
  rintro e w1 ⟨rfl, hb⟩
  have HB := Lib.hid (keepB hb HB.out)
  have hx := HX.out.below hb
  have HX := Lib.hid hx
  have x0 := hx.c 0 rfl
  have x1 := hx.c 1 rfl
  have x2 := hx.c 2 rfl
  have x3 := hx.c 3 rfl
  have x4 := hx.c 4 rfl
  have x5 := hx.c 5 rfl
  have x6 := hx.c 6 rfl
  have x7 := hx.c 7 rfl
  have x8 := hx.c 8 rfl
  have x9 := hx.c 9 rfl
  have x10 := hx.c 10 rfl
  have x11 := hx.c 11 rfl
  clear hx hb
  by_cases hm : c.May
  · have E1 := Lib.hid (show cellsV c = (allN c.shp : Nat) by simp [cellsV, hm])
    have E2 := Lib.hid (show checkE c = 0 by simp [checkE, hm])
    rw [show mayC c = true from (mayC_iff c).2 hm]
    have HM := Lib.hid hm
    clear hm
    go_wp2_with fail
    refine (All_any c w1 HM.out).mono ?_
    rintro e w2 ⟨rfl, hb⟩
    have HB := Lib.hid (keepB hb HB.out)
    clear x0 x1 x2 x3 x4 x5 x6 x7 x8 x9 x10 x11 hb
    go_wp2_with fail
    go_ret2
    exact ⟨by rw [E1.out, E2.out]; rfl, HB.out⟩
  · have E1 := Lib.hid (show cellsV c = 0 by simp [cellsV, hm])
    have E2 := Lib.hid (show checkE c = 40 by simp [checkE, hm])
    rw [show mayC c = false from by simp [mayC, hm]]
    clear hm
    go_wp2_with fail
    go_ret2
    exact ⟨by rw [E1.out, E2.out]; rfl, HB.out⟩

theorem rCheck_any (c : Cfg) (w : World) (hk : 0 ≤ c.most) : Calls Tryd.prog 27 #[.agg #[.int .u8 c.ob, .int .i64 c.inst, .int .i64 c.thr, .int .u8 c.kd, .int .i64 c.str, .int .i64 c.bits, .int .i64 c.cap, .int .i64 c.node, .int .i64 c.bat, .int .i64 c.chk, .int .u64 c.lim, .int .u64 c.most]] w fun e w' => e = .returned (.int .i64 (checkE c)) ∧ Below w.heap.size w w' := by
  have HK := Lib.hid hk
  clear hk
  go_enter Tryd.func27, Tryd.ntmps27
  go_wp2_with fail
  have hx := Box.new w 24 (cfgL c); have HB := Lib.hid (newB w (.cells ⟨cfgL c⟩ 24)); unfold cfgL at hx HB; generalize w.alloc _ = V at *; have HX := Lib.hid hx
  clear hx
  refine (MayBe_any c V HK.out).mono ?_
  rintro e w1 ⟨rfl, hb⟩
  have HB := Lib.hid (keepB hb HB.out)
  clear hb
  by_cases hm : c.May
  · have E2 := Lib.hid (show checkE c = 0 by simp [checkE, hm])
    rw [show mayC c = true from (mayC_iff c).2 hm]
    clear hm
    go_wp2_with fail
    go_ret
    exact ⟨ret_i64 (by rw [E2.out]), HB.out⟩
  · have E2 := Lib.hid (show checkE c = 40 by simp [checkE, hm])
    rw [show mayC c = false from by simp [mayC, hm]]
    clear hm
    go_wp2_with fail
    go_ret
    exact ⟨ret_i64 (by rw [E2.out]), HB.out⟩

set_option maxHeartbeats 1600000 in
theorem rAt_any (c : Cfg) (k a b : Int) (w : World) (hk : 0 ≤ c.most) (hk0 : 0 ≤ k) : Calls Tryd.prog 30 #[.agg #[.int .u8 c.ob, .int .i64 c.inst, .int .i64 c.thr, .int .u8 c.kd, .int .i64 c.str, .int .i64 c.bits, .int .i64 c.cap, .int .i64 c.node, .int .i64 c.bat, .int .i64 c.chk, .int .u64 c.lim, .int .u64 c.most], .agg #[.int .u8 k, .int .i64 a, .int .i64 b]] w fun e w' => e = .returned (.tuple #[.int .i64 (atV c k a b), .int .i64 (atE c k a b)]) ∧ Below w.heap.size w w' := by
  have HK := Lib.hid hk
  have HK0 := Lib.hid hk0
  clear hk hk0
  go_enter Tryd.func30, Tryd.ntmps30
  go_wp2_with fail
  have hx := (Box.new w 24 (cfgL c)).alloc (.cells #[.int .u8 k, .int .i64 a, .int .i64 b] 48)
  have hp := Box.new (w.alloc (.cells ⟨cfgL c⟩ 24)) 48 [.int .u8 k, .int .i64 a, .int .i64 b]
  have HB := Lib.hid (moreB (newB w (.cells ⟨cfgL c⟩ 24)) (.cells #[.int .u8 k, .int .i64 a, .int .i64 b] 48))
  rw [World.size_alloc] at hp
  unfold cfgL at *
  generalize (w.alloc _).alloc _ = V at *
  have HX := Lib.hid hx
  have HP := Lib.hid hp
  clear hx hp
  refine (MayBe_any c V HK.out).mono ?_
  rintro e w1 ⟨rfl, hb⟩
  have HB := Lib.hid (keepB hb HB.out)
  have hx := HX.out.below hb
  have HX := Lib.hid hx
  have hp := HP.out.below hb
  have HP := Lib.hid hp
  have x0 := hx.c 0 rfl
  have x1 := hx.c 1 rfl
  have x2 := hx.c 2 rfl
  have x3 := hx.c 3 rfl
  have x4 := hx.c 4 rfl
  have x5 := hx.c 5 rfl
  have x6 := hx.c 6 rfl
  have x7 := hx.c 7 rfl
  have x8 := hx.c 8 rfl
  have x9 := hx.c 9 rfl
  have x10 := hx.c 10 rfl
  have x11 := hx.c 11 rfl
  have p0 := hp.c 0 rfl
  have p1 := hp.c 1 rfl
  have p2 := hp.c 2 rfl
  clear hx hb hp
  by_cases hm : c.May
  · rw [show mayC c = true from (mayC_iff c).2 hm]
    have HM := Lib.hid hm
    clear hm
    go_wp2_with fail
    refine (Has_any c k a b w1 HM.out HK0.out).mono ?_
    rintro e w2 ⟨rfl, hb⟩
    have HB := Lib.hid (keepB hb HB.out)
    have hx := HX.out.below hb
    have HX := Lib.hid hx
    have hp := HP.out.below hb
    have HP := Lib.hid hp
    clear x0 x1 x2 x3 x4 x5 x6 x7 x8 x9 x10 x11 hb p0 p1 p2
    have x0 := hx.c 0 rfl
    have x1 := hx.c 1 rfl
    have x2 := hx.c 2 rfl
    have x3 := hx.c 3 rfl
    have x4 := hx.c 4 rfl
    have x5 := hx.c 5 rfl
    have x6 := hx.c 6 rfl
    have x7 := hx.c 7 rfl
    have x8 := hx.c 8 rfl
    have x9 := hx.c 9 rfl
    have x10 := hx.c 10 rfl
    have x11 := hx.c 11 rfl
    have p0 := hp.c 0 rfl
    have p1 := hp.c 1 rfl
    have p2 := hp.c 2 rfl
    clear hx hp
    cases hz : hasZ c.shp k a b with
    | true =>
      have E1 := Lib.hid (atV_in HM.out hz)
      have E2 := Lib.hid (atE_in HM.out hz)
      obtain ⟨g1, g2, g3⟩ := hasZ_t.1 hz
      have HG := Lib.hid g3
      obtain ⟨k', rfl⟩ := Int.eq_ofNat_of_zero_le HK0.out
      obtain ⟨a', rfl⟩ := Int.eq_ofNat_of_zero_le g1
      obtain ⟨b', rfl⟩ := Int.eq_ofNat_of_zero_le g2
      clear hz g1 g2 g3
      go_wp2_with fail
      refine (Where_any c ⟨k', a', b'⟩ w2 HM.out HG.out).mono ?_
      rintro e w3 ⟨rfl, hb⟩
      have HB := Lib.hid (keepB hb HB.out)
      clear x0 x1 x2 x3 x4 x5 x6 x7 x8 x9 x10 x11 hb p0 p1 p2
      go_wp2_with fail
      go_ret2
      exact ⟨by rw [E1.out, E2.out]; rfl, HB.out⟩
    | false =>
      have E1 := Lib.hid (atV_out hz)
      have E2 := Lib.hid (atE_out HM.out hz)
      clear hz
      go_wp2_with fail
      go_ret2
      exact ⟨by rw [E1.out, E2.out]; rfl, HB.out⟩
  · rw [show mayC c = false from by simp [mayC, hm]]
    have E1 := Lib.hid (atV_no hm k a b)
    have E2 := Lib.hid (atE_no hm k a b)
    clear hm
    go_wp2_with fail
    go_ret2
    exact ⟨by rw [E1.out, E2.out]; rfl, HB.out⟩

end Go.Proofs.YtoamhkgnnjoaaaaDoor
