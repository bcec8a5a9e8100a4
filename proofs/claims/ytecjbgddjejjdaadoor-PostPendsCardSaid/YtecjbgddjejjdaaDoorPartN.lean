/- Chapter 4: a fresh memory. -/
import Derived.Test.YtecjbgddjejjdaaDoorPartM
import Derived.Test.YtecjbgddjejjdaaDoorZeros
import Derived.WalkSpells
namespace Go.Proofs.YtecjbgddjejjdaaDoor
open Go.RowKit



/-- A fresh memory. -/
def freshL (c : Cfg) : List Cel := (zerosL (allN c.shp)).set 2 ⟨c.shp.inst + 5, 0, 0, 0⟩
def frL (c : Cfg) : List Cel := if c.May then freshL c else []
theorem freshL_len (c : Cfg) : (freshL c).length = allN c.shp := by simp [freshL, zeros_len]
def FreshPost (c : Cfg) (w : World) (e : Ending) (w' : World) : Prop := ∃ a cap, e = .returned (.tuple #[.slice a (frL c).length cap, .int .i64 (checkE c)]) ∧ Rd w' a cap (frL c) ∧ Below w.heap.size w w'

set_option maxHeartbeats 3200000 in
theorem Fresh_any (c : Cfg) (w : World) (hp : Pw w) : Calls Tryd.prog 16 #[.agg #[.int .u8 c.ob, .int .i64 c.inst, .int .i64 c.thr, .int .u8 c.kd, .int .i64 c.str, .int .i64 c.bits, .int .i64 c.cap, .int .i64 c.node, .int .i64 c.bat, .int .i64 c.chk, .int .u64 c.lim, .int .u64 c.most]] w (FreshPost c w) := by
  have HP := Lib.hid hp
  clear hp
  go_enter Tryd.func16, Tryd.ntmps16
  go_wp2_with fail
  have hx := Box.new w 24 (cfgL c); have HB := Lib.hid (newB w (.cells ⟨cfgL c⟩ 24)); unfold cfgL at hx HB; generalize w.alloc _ = V at *; have HX := Lib.hid hx
  have hpw := HP.out.more HB.out
  clear hx
  refine (Cells_any c V hpw).mono ?_
  clear hpw
  rintro e w1 ⟨rfl, hb⟩
  have HB := Lib.hid (keepB hb HB.out)
  have hx := HX.out.below hb
  have HX := Lib.hid hx
  by_cases hm : c.May
  · have E2 := Lib.hid (show checkE c = 0 by simp [checkE, hm])
    have E1 := Lib.hid (show frL c = freshL c by simp [frL, hm])
    rw [show checkE c = 0 from E2.out, show cellsV c = (allN c.shp : Nat) by simp [cellsV, hm]]
    have s2 := shp_inst hm
    have hS := May.small hm
    obtain ⟨a1, a2, _⟩ := all_le hS
    have HL := Lib.hid (freshL_len c)
    have HF := Lib.hid (show celsV (freshL c) = (celsV (zerosL (allN c.shp))).set (2 * 4) (.int .u64 ((c.shp.inst + 5 : Nat) : Int)) from zeros_set _ 2 _ (by omega))
    have x1 := fun (o : Obj) => (hx.alloc o).c 1 rfl
    have hi1 : 2 ≤ c.shp.inst := hS.inst2
    have hi2 : c.shp.inst ≤ 4 := hS.inst
    clear hm hS hb hx
    generalize allN c.shp = n at *
    have hmk : ∀ W : World, (Instr.makeSlice 49 (.int .i64 (n : Int)) (.int .i64 (n : Int))).run Tryd.prog W = .ok (.slice (some ⟨W.heap.size, 0, none⟩) n n) (W.alloc (zerosB n)) := make_zeros n (by omega)
    have hz := Box.new w1 29 (celsV (zerosL n))
    change Box (w1.alloc (zerosB n)) _ _ at hz
    have hz8 : (celsV (zerosL n))[8]? = some (.int .u64 0) := by rw [zeros_vals, List.getElem?_replicate, if_pos (by omega)]
    have d8 := hz.c 8 hz8
    have f8 := hz.f 8
    have HZ := Lib.hid hz
    have HB3 := Lib.hid (moreB HB.out (zerosB n))
    have HB4 := Lib.hid (show w.heap.size ≤ w1.heap.size from HB.out.size)
    clear hz hz8
    rw [← s2] at x1
    have i1 : (2 : Int) < (n : Int) := by omega
    clear a1 a2 s2
    go_wp2_with fail
    go_ret2
    refine ⟨some ⟨w1.heap.size, 0, none⟩, n, by rw [E1.out, HL.out, E2.out]; rfl, ?_, (moreB HB.out _).setCell (p := ⟨w1.heap.size, 8, none⟩) HB4.out _⟩
    rw [E1.out]
    exact rd_of_box ((HZ.out.set 8 _).as (by rw [HF.out]; rfl))
  · have E2 := Lib.hid (show checkE c = 40 by simp [checkE, hm])
    have E1 := Lib.hid (show frL c = [] by simp [frL, hm])
    rw [show checkE c = 40 from E2.out]
    clear hm hx hb
    go_wp2_with fail
    go_ret2
    exact ⟨none, 0, by rw [E1.out, E2.out]; rfl, by rw [E1.out]; exact ⟨fun _ => ⟨rfl, rfl⟩, .inl rfl⟩, HB.out⟩

end Go.Proofs.YtecjbgddjejjdaaDoor
