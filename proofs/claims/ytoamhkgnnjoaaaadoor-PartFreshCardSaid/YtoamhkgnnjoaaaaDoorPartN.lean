/- Chapter 4: a fresh memory, and the reference's What and Fresh. -/
import Derived.Test.YtoamhkgnnjoaaaaDoorPartM
import Derived.Test.YtoamhkgnnjoaaaaDoorZeros
import Derived.WalkSpells
namespace Go.Proofs.YtoamhkgnnjoaaaaDoor
open Go.RowKit



/-- A fresh memory. -/
def freshL (c : Cfg) : List Cel := (zerosL (allN c.shp)).set 2 ⟨c.shp.inst + 5, 0, 0, 0⟩
def frL (c : Cfg) : List Cel := if c.May then freshL c else []
theorem freshL_len (c : Cfg) : (freshL c).length = allN c.shp := by simp [freshL, zeros_len]
def FreshPost (c : Cfg) (w : World) (e : Ending) (w' : World) : Prop := ∃ a cap, e = .returned (.tuple #[.slice a (frL c).length cap, .int .i64 (checkE c)]) ∧ Rd w' a cap (frL c) ∧ Below w.heap.size w w'

set_option maxHeartbeats 3200000 in
theorem Fresh_any (c : Cfg) (w : World) (hp : Pw w) : Calls Tryd.prog 25 #[.agg #[.int .u8 c.ob, .int .i64 c.inst, .int .i64 c.thr, .int .u8 c.kd, .int .i64 c.str, .int .i64 c.bits, .int .i64 c.cap, .int .i64 c.node, .int .i64 c.bat, .int .i64 c.chk, .int .u64 c.lim, .int .u64 c.most]] w (FreshPost c w) := by
  have HP := Lib.hid hp
  clear hp
  go_enter Tryd.func25, Tryd.ntmps25
  go_wp2_with fail
  have hx := Box.new w 24 (cfgL c); have HB := Lib.hid (newB w (.cells ⟨cfgL c⟩ 24)); unfold cfgL at hx HB; generalize w.alloc _ = V at *; have HX := Lib.hid hx
  have hpw := HP.out.more HB.out
  clear hx
  refine (Cells_any c V hpw).mono ?_
  clear hpw
  rintro e w1 ⟨rfl, hb⟩
  have HB := Lib.hid (keepB hb HB.out)
  have hx := HX.out.below hb
  have HX := Lib.hid hx
  by_cases hm : c.May
  · have E2 := Lib.hid (show checkE c = 0 by simp [checkE, hm])
    have E1 := Lib.hid (show frL c = freshL c by simp [frL, hm])
    rw [show checkE c = 0 from E2.out, show cellsV c = (allN c.shp : Nat) by simp [cellsV, hm]]
    have s2 := shp_inst hm
    have hS := May.small hm
    obtain ⟨a1, a2, _⟩ := all_le hS
    have HL := Lib.hid (freshL_len c)
    have HF := Lib.hid (show celsV (freshL c) = (celsV (zerosL (allN c.shp))).set (2 * 4) (.int .u64 ((c.shp.inst + 5 : Nat) : Int)) from zeros_set _ 2 _ (by omega))
    have x1 := fun (o : Obj) => (hx.alloc o).c 1 rfl
    have hi1 : 2 ≤ c.shp.inst := hS.inst2
    have hi2 : c.shp.inst ≤ 4 := hS.inst
    clear hm hS hb hx
    generalize allN c.shp = n at *
    have hmk : ∀ W : World, (Instr.makeSlice 39 (.int .i64 (n : Int)) (.int .i64 (n : Int))).run Tryd.prog W = .ok (.slice (some ⟨W.heap.size, 0, none⟩) n n) (W.alloc (zerosB n)) := make_zeros n (by omega)
    have hz := Box.new w1 58 (celsV (zerosL n))
    change Box (w1.alloc (zerosB n)) _ _ at hz
    have hz8 : (celsV (zerosL n))[8]? = some (.int .u64 0) := by rw [zeros_vals, List.getElem?_replicate, if_pos (by omega)]
    have d8 := hz.c 8 hz8
    have f8 := hz.f 8
    have HZ := Lib.hid hz
    have HB3 := Lib.hid (moreB HB.out (zerosB n))
    have HB4 := Lib.hid (show w.heap.size ≤ w1.heap.size from HB.out.size)
    clear hz hz8
    rw [← s2] at x1
    have i1 : (2 : Int) < (n : Int) := by omega
    clear a1 a2 s2
    go_wp2_with fail
    go_ret2
    refine ⟨some ⟨w1.heap.size, 0, none⟩, n, by rw [E1.out, HL.out, E2.out]; rfl, ?_, (moreB HB.out _).setCell (p := ⟨w1.heap.size, 8, none⟩) HB4.out _⟩
    rw [E1.out]
    exact rd_of_box ((HZ.out.set 8 _).as (by rw [HF.out]; rfl))
  · have E2 := Lib.hid (show checkE c = 40 by simp [checkE, hm])
    have E1 := Lib.hid (show frL c = [] by simp [frL, hm])
    rw [show checkE c = 40 from E2.out]
    clear hm hx hb
    go_wp2_with fail
    go_ret2
    exact ⟨none, 0, by rw [E1.out, E2.out]; rfl, by rw [E1.out]; exact ⟨fun _ => ⟨rfl, rfl⟩, .inl rfl⟩, HB.out⟩

set_option maxHeartbeats 3200000 in
theorem rWhat_any (c : Cfg) (i : Int) (w : World) (hk : 0 ≤ c.most) : Calls Tryd.prog 32 #[.agg #[.int .u8 c.ob, .int .i64 c.inst, .int .i64 c.thr, .int .u8 c.kd, .int .i64 c.str, .int .i64 c.bits, .int .i64 c.cap, .int .i64 c.node, .int .i64 c.bat, .int .i64 c.chk, .int .u64 c.lim, .int .u64 c.most], .int .i64 i] w fun e w' => e = .returned (plR (whatP c i) (whatE c i)) ∧ Below w.heap.size w w' := by
  have HK := Lib.hid hk
  clear hk
  go_enter Tryd.func32, Tryd.ntmps32
  go_wp2_with fail
  have hx := (Box.new w 24 (cfgL c)).alloc (.cells #[.int .u8 0, .int .i64 0, .int .i64 0] 48)
  have hr := Box.new (w.alloc (.cells ⟨cfgL c⟩ 24)) 48 [.int .u8 0, .int .i64 0, .int .i64 0]
  have HB := Lib.hid (moreB (newB w (.cells ⟨cfgL c⟩ 24)) (.cells #[.int .u8 0, .int .i64 0, .int .i64 0] 48))
  rw [World.size_alloc] at hr
  unfold cfgL at *
  generalize (w.alloc _).alloc _ = V at *
  have HX := Lib.hid hx
  have HR := Lib.hid hr
  clear hx hr
  refine (MayBe_any c V HK.out).mono ?_
  rintro e w1 ⟨rfl, hb⟩
  have HB := Lib.hid (keepB hb HB.out)
  have hx := HX.out.below hb
  have HX := Lib.hid hx
  have hr := HR.out.below hb
  have HR := Lib.hid hr
  have x0 := hx.c 0 rfl
  have x1 := hx.c 1 rfl
  have x2 := hx.c 2 rfl
  have x3 := hx.c 3 rfl
  have x4 := hx.c 4 rfl
  have x5 := hx.c 5 rfl
  have x6 := hx.c 6 rfl
  have x7 := hx.c 7 rfl
  have x8 := hx.c 8 rfl
  have x9 := hx.c 9 rfl
  have x10 := hx.c 10 rfl
  have x11 := hx.c 11 rfl
  have r0 := hr.c 0 rfl
  have r1 := hr.c 1 rfl
  have r2 := hr.c 2 rfl
  have f0 := hr.f 0
  have f1 := hr.f 1
  have f2 := hr.f 2
  clear hx hb hr
  by_cases hm : c.May
  · rw [show mayC c = true from (mayC_iff c).2 hm]
    have HM := Lib.hid hm
    obtain ⟨a1, a2, _⟩ := all_le (May.small hm)
    cases hz : inZ c i with
    | true =>
      obtain ⟨p, n, rfl, hpn, _, _, e1, e2⟩ := what_in hz
      have hlt : (n : Int) < (allN c.shp : Nat) := by have := (inZ_t.1 hz).2.2; exact this
      have E1 := Lib.hid e1
      have E2 := Lib.hid e2
      have HPN := Lib.hid hpn
      have hA := fun W => All_any c W hm
      generalize ((allN c.shp : Nat) : Int) = N at *
      clear hm hz hpn e1 e2 a1 a2
      go_wp2_with fail
      refine (hA w1).mono ?_
      rintro e w2 ⟨rfl, hb⟩
      have HB := Lib.hid (keepB hb HB.out)
      have hx := HX.out.below hb
      have HX := Lib.hid hx
      have HR := Lib.hid (HR.out.below hb)
      clear x0 x1 x2 x3 x4 x5 x6 x7 x8 x9 x10 x11 r0 r1 r2 f0 f1 f2 hA hb
      have x0 := hx.c 0 rfl
      have x1 := hx.c 1 rfl
      have x2 := hx.c 2 rfl
      have x3 := hx.c 3 rfl
      have x4 := hx.c 4 rfl
      have x5 := hx.c 5 rfl
      have x6 := hx.c 6 rfl
      have x7 := hx.c 7 rfl
      have x8 := hx.c 8 rfl
      have x9 := hx.c 9 rfl
      have x10 := hx.c 10 rfl
      have x11 := hx.c 11 rfl
      clear hx
      go_wp2_with fail
      refine (Of_any c n p w2 HM.out HPN.out).mono ?_
      rintro e w3 ⟨rfl, hb⟩
      have HB := Lib.hid (keepB hb HB.out)
      have hr := HR.out.below hb
      have HR := Lib.hid hr
      clear x0 x1 x2 x3 x4 x5 x6 x7 x8 x9 x10 x11 hb
      have r0 := hr.c 0 rfl
      have r1 := hr.c 1 rfl
      have r2 := hr.c 2 rfl
      have f0 := hr.f 0
      have f1 := hr.f 1
      have f2 := hr.f 2
      clear hr
      go_wp2_with fail
      refine bodyPost_ret (v := plR p 0) ?_ rfl ⟨by rw [E1.out, E2.out], ((HB.out.setCell (p := ⟨w.heap.size + 1, 0, none⟩) (by simp) _).setCell (p := ⟨w.heap.size + 1, 1, none⟩) (by simp) _).setCell (p := ⟨w.heap.size + 1, 2, none⟩) (by simp) _⟩
      exact (((HR.out.set 0 (.int .u8 p.k)).set 1 (.int .i64 p.a)).set 2 (.int .i64 p.b)).results2 (t := 48) rfl (fun _ => by kernel_rfl) (fun _ => by kernel_rfl) rfl rfl
    | false =>
      have E1 := Lib.hid (what_out hz)
      have E2 := Lib.hid (whatE_out hm hz)
      have hA := fun W => All_any c W hm
      by_cases hneg : i < 0
      · clear hz hA hm
        go_wp2_with fail
        refine bodyPost_ret (v := plR ⟨0, 0, 0⟩ 2) ?_ rfl ⟨by rw [E1.out, E2.out], ((HB.out.setCell (p := ⟨w.heap.size + 1, 0, none⟩) (by simp) _).setCell (p := ⟨w.heap.size + 1, 1, none⟩) (by simp) _).setCell (p := ⟨w.heap.size + 1, 2, none⟩) (by simp) _⟩
        exact (((HR.out.set 0 (.int .u8 0)).set 1 (.int .i64 0)).set 2 (.int .i64 0)).results2 (t := 48) rfl (fun _ => by kernel_rfl) (fun _ => by kernel_rfl) rfl rfl
      · have hge : ((allN c.shp : Nat) : Int) ≤ i := by
          have := inZ_f.1 hz
          by_cases h : (allN c.shp : Nat) ≤ i
          · exact h
          · exact absurd ⟨hm, by omega, by omega⟩ this
        have hneg : 0 ≤ i := by omega
        generalize ((allN c.shp : Nat) : Int) = N at *
        clear hz hm a1 a2
        go_wp2_with fail
        refine (hA w1).mono ?_
        rintro e w2 ⟨rfl, hb⟩
        have HB := Lib.hid (keepB hb HB.out)
        have hr := HR.out.below hb
        have HR := Lib.hid hr
        clear x0 x1 x2 x3 x4 x5 x6 x7 x8 x9 x10 x11 r0 r1 r2 f0 f1 f2 hA hb
        have r0 := hr.c 0 rfl
        have r1 := hr.c 1 rfl
        have r2 := hr.c 2 rfl
        have f0 := hr.f 0
        have f1 := hr.f 1
        have f2 := hr.f 2
        clear hr
        go_wp2_with fail
        refine bodyPost_ret (v := plR ⟨0, 0, 0⟩ 2) ?_ rfl ⟨by rw [E1.out, E2.out], ((HB.out.setCell (p := ⟨w.heap.size + 1, 0, none⟩) (by simp) _).setCell (p := ⟨w.heap.size + 1, 1, none⟩) (by simp) _).setCell (p := ⟨w.heap.size + 1, 2, none⟩) (by simp) _⟩
        exact (((HR.out.set 0 (.int .u8 0)).set 1 (.int .i64 0)).set 2 (.int .i64 0)).results2 (t := 48) rfl (fun _ => by kernel_rfl) (fun _ => by kernel_rfl) rfl rfl
  · rw [show mayC c = false from by simp [mayC, hm]]
    have E1 := Lib.hid (what_out (c := c) (i := i) (inZ_no hm))
    have E2 := Lib.hid (whatE_no (c := c) (i := i) hm)
    clear hm
    go_wp2_with fail
    refine bodyPost_ret (v := plR ⟨0, 0, 0⟩ 40) ?_ rfl ⟨by rw [E1.out, E2.out], ((HB.out.setCell (p := ⟨w.heap.size + 1, 0, none⟩) (by simp) _).setCell (p := ⟨w.heap.size + 1, 1, none⟩) (by simp) _).setCell (p := ⟨w.heap.size + 1, 2, none⟩) (by simp) _⟩
    exact (((HR.out.set 0 (.int .u8 0)).set 1 (.int .i64 0)).set 2 (.int .i64 0)).results2 (t := 48) rfl (fun _ => by kernel_rfl) (fun _ => by kernel_rfl) rfl rfl

end Go.Proofs.YtoamhkgnnjoaaaaDoor
