/- The walks of PartSays and PartBack. -/
import Derived.Test.YtoamhkgnnjoaaaaDoorAlive04
import Derived.Test.YtoamhkgnnjoaaaaDoorPartO
namespace Go.Proofs.YtoamhkgnnjoaaaaDoor
open Go.RowKit

set_option maxHeartbeats 6400000 in
theorem says_walk (c : Cfg) (w : World) (hk : 0 ≤ c.most) (hp : Pw w) :
    Calls Tryd.prog 4 #[.agg #[.int .u8 c.ob, .int .i64 c.inst, .int .i64 c.thr, .int .u8 c.kd, .int .i64 c.str, .int .i64 c.bits, .int .i64 c.cap, .int .i64 c.node, .int .i64 c.bat, .int .i64 c.chk, .int .u64 c.lim, .int .u64 c.most]] w fun e w' => e = .returned (.bool true) ∧ Below w.heap.size w w' := by
  have HK := Lib.hid hk; have HP := Lib.hid hp
  clear hk hp
  go_enter Tryd.func4, Tryd.ntmps4
  go_wp2_with fail
  have HX := Lib.hid (Box.new w 24 (cfgL c))
  have HB := Lib.hid (newB w (.cells ⟨cfgL c⟩ 24))
  unfold cfgL at *
  generalize w.alloc _ = V at *
  have hlen : (frL c).length ≤ 715 := by
    unfold frL
    split
    · rename_i h
      rw [freshL_len]
      exact (all_le (May.small h)).1
    · simp
  have HLN := Lib.hid hlen
  clear hlen
  refine (Check_any c V).mono ?_
  rintro e w1 ⟨rfl, hb⟩
  generalize hE : checkE c = E
  have HE := Lib.hid hE
  clear hE
  have HB := Lib.hid (keepB hb HB.out); have HX := Lib.hid (HX.out.below hb); clear hb
  have x0 := HX.out.c 0 rfl; have x1 := HX.out.c 1 rfl; have x2 := HX.out.c 2 rfl; have x3 := HX.out.c 3 rfl; have x4 := HX.out.c 4 rfl; have x5 := HX.out.c 5 rfl; have x6 := HX.out.c 6 rfl; have x7 := HX.out.c 7 rfl; have x8 := HX.out.c 8 rfl; have x9 := HX.out.c 9 rfl; have x10 := HX.out.c 10 rfl; have x11 := HX.out.c 11 rfl
  go_wp2_with fail
  refine (Size_any c _ (HP.out.more HB.out)).mono ?_
  rintro e w2 ⟨rfl, hb⟩
  generalize hS : sizeV c = S
  have HS := Lib.hid hS
  clear hS
  rw [HE.out]
  clear x0 x1 x2 x3 x4 x5 x6 x7 x8 x9 x10 x11
  have HB := Lib.hid (keepB hb HB.out); have HX := Lib.hid (HX.out.below hb); clear hb
  have x0 := HX.out.c 0 rfl; have x1 := HX.out.c 1 rfl; have x2 := HX.out.c 2 rfl; have x3 := HX.out.c 3 rfl; have x4 := HX.out.c 4 rfl; have x5 := HX.out.c 5 rfl; have x6 := HX.out.c 6 rfl; have x7 := HX.out.c 7 rfl; have x8 := HX.out.c 8 rfl; have x9 := HX.out.c 9 rfl; have x10 := HX.out.c 10 rfl; have x11 := HX.out.c 11 rfl
  go_wp2_with fail
  refine (rSize_any c _ HK.out).mono ?_
  rintro e w3 ⟨rfl, hb⟩
  rw [HE.out, HS.out]
  clear x0 x1 x2 x3 x4 x5 x6 x7 x8 x9 x10 x11
  have HB := Lib.hid (keepB hb HB.out); have HX := Lib.hid (HX.out.below hb); clear hb
  have x0 := HX.out.c 0 rfl; have x1 := HX.out.c 1 rfl; have x2 := HX.out.c 2 rfl; have x3 := HX.out.c 3 rfl; have x4 := HX.out.c 4 rfl; have x5 := HX.out.c 5 rfl; have x6 := HX.out.c 6 rfl; have x7 := HX.out.c 7 rfl; have x8 := HX.out.c 8 rfl; have x9 := HX.out.c 9 rfl; have x10 := HX.out.c 10 rfl; have x11 := HX.out.c 11 rfl
  go_wp2_with fail
  refine (Cells_any c _ (HP.out.more HB.out)).mono ?_
  rintro e w4 ⟨rfl, hb⟩
  generalize hS : cellsV c = M
  have HM := Lib.hid hS
  clear hS
  rw [HE.out]
  clear x0 x1 x2 x3 x4 x5 x6 x7 x8 x9 x10 x11
  have HB := Lib.hid (keepB hb HB.out); have HX := Lib.hid (HX.out.below hb); clear hb
  have x0 := HX.out.c 0 rfl; have x1 := HX.out.c 1 rfl; have x2 := HX.out.c 2 rfl; have x3 := HX.out.c 3 rfl; have x4 := HX.out.c 4 rfl; have x5 := HX.out.c 5 rfl; have x6 := HX.out.c 6 rfl; have x7 := HX.out.c 7 rfl; have x8 := HX.out.c 8 rfl; have x9 := HX.out.c 9 rfl; have x10 := HX.out.c 10 rfl; have x11 := HX.out.c 11 rfl
  go_wp2_with fail
  refine (rCells_any c _ HK.out).mono ?_
  rintro e w5 ⟨rfl, hb⟩
  rw [HE.out, HM.out]
  clear x0 x1 x2 x3 x4 x5 x6 x7 x8 x9 x10 x11
  have HB := Lib.hid (keepB hb HB.out); have HX := Lib.hid (HX.out.below hb); clear hb
  have x0 := HX.out.c 0 rfl; have x1 := HX.out.c 1 rfl; have x2 := HX.out.c 2 rfl; have x3 := HX.out.c 3 rfl; have x4 := HX.out.c 4 rfl; have x5 := HX.out.c 5 rfl; have x6 := HX.out.c 6 rfl; have x7 := HX.out.c 7 rfl; have x8 := HX.out.c 8 rfl; have x9 := HX.out.c 9 rfl; have x10 := HX.out.c 10 rfl; have x11 := HX.out.c 11 rfl
  go_wp2_with fail
  refine (Fresh_any c _ (HP.out.more HB.out)).mono ?_
  rintro e w6 ⟨a, cap, rfl, hrd, hb⟩
  rw [HE.out]
  clear x0 x1 x2 x3 x4 x5 x6 x7 x8 x9 x10 x11
  have HB := Lib.hid (keepB hb HB.out); have HX := Lib.hid (HX.out.below hb); clear hb
  have x0 := HX.out.c 0 rfl; have x1 := HX.out.c 1 rfl; have x2 := HX.out.c 2 rfl; have x3 := HX.out.c 3 rfl; have x4 := HX.out.c 4 rfl; have x5 := HX.out.c 5 rfl; have x6 := HX.out.c 6 rfl; have x7 := HX.out.c 7 rfl; have x8 := HX.out.c 8 rfl; have x9 := HX.out.c 9 rfl; have x10 := HX.out.c 10 rfl; have x11 := HX.out.c 11 rfl
  have HR := Lib.hid hrd
  clear hrd
  go_wp2_with fail
  refine (rFresh_any c _ HK.out).mono ?_
  rintro e w7 ⟨a', cap', rfl, hrd, hb⟩
  rw [HE.out]
  have HR := Lib.hid (HR.out.below hb)
  have HR2 := Lib.hid hrd
  clear x0 x1 x2 x3 x4 x5 x6 x7 x8 x9 x10 x11
  have HB := Lib.hid (keepB hb HB.out); have HX := Lib.hid (HX.out.below hb); clear hb
  have x0 := HX.out.c 0 rfl; have x1 := HX.out.c 1 rfl; have x2 := HX.out.c 2 rfl; have x3 := HX.out.c 3 rfl; have x4 := HX.out.c 4 rfl; have x5 := HX.out.c 5 rfl; have x6 := HX.out.c 6 rfl; have x7 := HX.out.c 7 rfl; have x8 := HX.out.c 8 rfl; have x9 := HX.out.c 9 rfl; have x10 := HX.out.c 10 rfl; have x11 := HX.out.c 11 rfl
  clear hrd
  go_wp2_with fail
  refine (rCheck_any c _ HK.out).mono ?_
  rintro e w8 ⟨rfl, hb⟩
  rw [HE.out]
  have HR := Lib.hid (HR.out.below hb)
  have HR2 := Lib.hid (HR2.out.below hb)
  have HB := Lib.hid (keepB hb HB.out)
  clear x0 x1 x2 x3 x4 x5 x6 x7 x8 x9 x10 x11
  clear hb
  generalize hl : (frL c).length = n at *
  have HLL := Lib.hid hl
  clear hl
  go_wp2_with fail
  rw [← HLL.out]
  refine (SameCells_eq a a' cap cap' (frL c) _ HR.out HR2.out (by rw [HLL.out]; have := HLN.out; omega)).mono ?_
  rintro e w9 ⟨rfl, hb⟩
  have HB := Lib.hid (keepB hb HB.out)
  clear hb
  go_wp2_with fail
  go_ret
  exact ⟨rfl, HB.out⟩

set_option linter.unusedVariables false in
theorem walk_PartSays (n0_0 n0_1 n0_2 n0_3 n0_4 n0_5 n0_6 n0_7 n0_8 n0_9 n0_10 n0_11 : Int) (w : World) (b0_0 : IntKind.u8.min ≤ n0_0 ∧ n0_0 ≤ IntKind.u8.max) (b0_1 : IntKind.i64.min ≤ n0_1 ∧ n0_1 ≤ IntKind.i64.max) (b0_2 : IntKind.i64.min ≤ n0_2 ∧ n0_2 ≤ IntKind.i64.max) (b0_3 : IntKind.u8.min ≤ n0_3 ∧ n0_3 ≤ IntKind.u8.max) (b0_4 : IntKind.i64.min ≤ n0_4 ∧ n0_4 ≤ IntKind.i64.max) (b0_5 : IntKind.i64.min ≤ n0_5 ∧ n0_5 ≤ IntKind.i64.max) (b0_6 : IntKind.i64.min ≤ n0_6 ∧ n0_6 ≤ IntKind.i64.max) (b0_7 : IntKind.i64.min ≤ n0_7 ∧ n0_7 ≤ IntKind.i64.max) (b0_8 : IntKind.i64.min ≤ n0_8 ∧ n0_8 ≤ IntKind.i64.max) (b0_9 : IntKind.i64.min ≤ n0_9 ∧ n0_9 ≤ IntKind.i64.max) (b0_10 : IntKind.u64.min ≤ n0_10 ∧ n0_10 ≤ IntKind.u64.max) (b0_11 : IntKind.u64.min ≤ n0_11 ∧ n0_11 ≤ IntKind.u64.max) (hp : Pw w) :
    Calls Tryd.prog 4 #[.agg #[.int .u8 n0_0, .int .i64 n0_1, .int .i64 n0_2, .int .u8 n0_3, .int .i64 n0_4, .int .i64 n0_5, .int .i64 n0_6, .int .i64 n0_7, .int .i64 n0_8, .int .i64 n0_9, .int .u64 n0_10, .int .u64 n0_11]] w fun e w' => e = .returned (.bool true) ∧ Below w.heap.size w w' := by
  simp [IntKind.min, IntKind.max, IntKind.signed, IntKind.bits] at b0_11
  exact says_walk ⟨n0_0, n0_1, n0_2, n0_3, n0_4, n0_5, n0_6, n0_7, n0_8, n0_9, n0_10, n0_11⟩ w b0_11.1 hp

set_option maxHeartbeats 6400000 in
theorem back_walk (c : Cfg) (w : World) (hp : Pw w) :
    Calls Tryd.prog 11 #[.agg #[.int .u8 c.ob, .int .i64 c.inst, .int .i64 c.thr, .int .u8 c.kd, .int .i64 c.str, .int .i64 c.bits, .int .i64 c.cap, .int .i64 c.node, .int .i64 c.bat, .int .i64 c.chk, .int .u64 c.lim, .int .u64 c.most]] w fun e w' => e = .returned (.bool true) ∧ Below w.heap.size w w' := by
  have HP := Lib.hid hp
  clear hp
  go_enter Tryd.func11, Tryd.ntmps11
  go_wp2_with fail
  have HX := Lib.hid (Box.new w 24 (cfgL c))
  have HB := Lib.hid (newB w (.cells ⟨cfgL c⟩ 24))
  unfold cfgL at *
  generalize w.alloc _ = V at *
  refine (alive04_any V (HP.out.more HB.out)).mono ?_
  rintro e w1 ⟨rfl, hb⟩
  have HB := Lib.hid (keepB hb HB.out); have HX := Lib.hid (HX.out.below hb); clear hb
  have x0 := HX.out.c 0 rfl; have x1 := HX.out.c 1 rfl; have x2 := HX.out.c 2 rfl; have x3 := HX.out.c 3 rfl; have x4 := HX.out.c 4 rfl; have x5 := HX.out.c 5 rfl; have x6 := HX.out.c 6 rfl; have x7 := HX.out.c 7 rfl; have x8 := HX.out.c 8 rfl; have x9 := HX.out.c 9 rfl; have x10 := HX.out.c 10 rfl; have x11 := HX.out.c 11 rfl
  go_wp2_with fail
  refine (Cells_any c _ (HP.out.more HB.out)).mono ?_
  rintro e w2 ⟨rfl, hb⟩
  clear x0 x1 x2 x3 x4 x5 x6 x7 x8 x9 x10 x11
  have HB := Lib.hid (keepB hb HB.out); have HX := Lib.hid (HX.out.below hb); clear hb
  by_cases hm : c.May
  · rw [show checkE c = 0 by simp [checkE, hm], show cellsV c = (allN c.shp : Nat) by simp [cellsV, hm]]
    obtain ⟨a1, a2, _⟩ := all_le (May.small hm)
    have HL := Lib.hid (places_len c.shp)
    have HM := Lib.hid hm
    have HO := Lib.hid (show inZ c (allN c.shp : Nat) = false from inZ_f.2 fun h => by omega)
    clear hm
    generalize allN c.shp = n at *
    go_wp2_with fail
    go_loopw [6] (fun i wr => ∃ k : Nat, k ≤ n ∧ i = .int .i64 k ∧ Below w.heap.size w wr ∧ Box wr w.heap.size (cfgL c)) (fun i _ => n - (intOf i).toNat)
    case atStart => exact ⟨0, Nat.zero_le _, rfl, HB.out, HX.out⟩
    case round =>
      clear HX HB
      obtain ⟨k, hk, rfl, hb0, hx⟩ := hrel
      have HB := Lib.hid hb0
      have HX := Lib.hid hx
      clear hb0 hx
      have x0 := HX.out.c 0 rfl; have x1 := HX.out.c 1 rfl; have x2 := HX.out.c 2 rfl; have x3 := HX.out.c 3 rfl; have x4 := HX.out.c 4 rfl; have x5 := HX.out.c 5 rfl; have x6 := HX.out.c 6 rfl; have x7 := HX.out.c 7 rfl; have x8 := HX.out.c 8 rfl; have x9 := HX.out.c 9 rfl; have x10 := HX.out.c 10 rfl; have x11 := HX.out.c 11 rfl
      by_cases hlt : k < n
      · have hi : (placesL c.shp)[k]? = some ((placesL c.shp)[k]'(by rw [HL.out]; exact hlt)) := List.getElem?_eq_getElem _
        generalize (placesL c.shp)[k]'(by rw [HL.out]; exact hlt) = q at hi
        have HI := Lib.hid (what_at HM.out hi)
        obtain ⟨g1, g2⟩ := where_of hi
        have hz : hasZ c.shp q.k q.a q.b = true := hasZ_t.2 ⟨by omega, by omega, by simpa [plZ] using g2⟩
        have HA := Lib.hid (show atV c q.k q.a q.b = (k : Int) ∧ atE c q.k q.a q.b = 0 from ⟨by rw [atV_in HM.out hz]; simp [plZ, g1], atE_in HM.out hz⟩)
        have hlt' : (k : Int) < (n : Int) := by omega
        clear hi g1 g2 hz
        go_wp2_with fail
        refine (What_any c k _ (HP.out.more HB.out)).mono ?_
        rintro e w3 ⟨rfl, hb⟩
        rw [HI.out.1, HI.out.2, plR_form]
        clear x0 x1 x2 x3 x4 x5 x6 x7 x8 x9 x10 x11
        have HB := Lib.hid (keepB hb HB.out); have HX := Lib.hid (HX.out.below hb); clear hb
        have x0 := fun o => (HX.out.alloc o).c 0 rfl; have x1 := fun o => (HX.out.alloc o).c 1 rfl; have x2 := fun o => (HX.out.alloc o).c 2 rfl; have x3 := fun o => (HX.out.alloc o).c 3 rfl; have x4 := fun o => (HX.out.alloc o).c 4 rfl; have x5 := fun o => (HX.out.alloc o).c 5 rfl; have x6 := fun o => (HX.out.alloc o).c 6 rfl; have x7 := fun o => (HX.out.alloc o).c 7 rfl; have x8 := fun o => (HX.out.alloc o).c 8 rfl; have x9 := fun o => (HX.out.alloc o).c 9 rfl; have x10 := fun o => (HX.out.alloc o).c 10 rfl; have x11 := fun o => (HX.out.alloc o).c 11 rfl
        go_wp2_with fail
        refine (At_any c q.k q.a q.b _ (HP.out.more (moreB HB.out _)) (by omega)).mono ?_
        rintro e w4 ⟨rfl, hb⟩
        rw [HA.out.1, HA.out.2]
        clear x0 x1 x2 x3 x4 x5 x6 x7 x8 x9 x10 x11
        have HB := Lib.hid (keepB hb (moreB HB.out _)); have HX := Lib.hid ((HX.out.alloc _).below hb)
        clear hb
        go_wp2_with fail
        go_roundw
        case rel => exact ⟨k + 1, by omega, by go_num, HB.out, HX.out⟩
        case measure => simp [intOf]; omega
      · obtain rfl : k = n := by omega
        go_wp2_with fail
        refine (What_any c k _ (HP.out.more HB.out)).mono ?_
        rintro e w3 ⟨rfl, hb⟩
        rw [what_out HO.out, whatE_out HM.out HO.out, plR_form]
        clear x0 x1 x2 x3 x4 x5 x6 x7 x8 x9 x10 x11
        have HB := Lib.hid (keepB hb HB.out); have HX := Lib.hid (HX.out.below hb); clear hb
        go_wp2_with fail
        go_ret
        exact ⟨rfl, moreB HB.out _⟩
  · rw [show checkE c = 40 by simp [checkE, hm], show cellsV c = 0 by simp [cellsV, hm]]
    clear hm
    go_wp2_with fail
    go_ret
    exact ⟨rfl, HB.out⟩

set_option linter.unusedVariables false in
theorem walk_PartBack (n0_0 n0_1 n0_2 n0_3 n0_4 n0_5 n0_6 n0_7 n0_8 n0_9 n0_10 n0_11 : Int) (w : World) (b0_0 : IntKind.u8.min ≤ n0_0 ∧ n0_0 ≤ IntKind.u8.max) (b0_1 : IntKind.i64.min ≤ n0_1 ∧ n0_1 ≤ IntKind.i64.max) (b0_2 : IntKind.i64.min ≤ n0_2 ∧ n0_2 ≤ IntKind.i64.max) (b0_3 : IntKind.u8.min ≤ n0_3 ∧ n0_3 ≤ IntKind.u8.max) (b0_4 : IntKind.i64.min ≤ n0_4 ∧ n0_4 ≤ IntKind.i64.max) (b0_5 : IntKind.i64.min ≤ n0_5 ∧ n0_5 ≤ IntKind.i64.max) (b0_6 : IntKind.i64.min ≤ n0_6 ∧ n0_6 ≤ IntKind.i64.max) (b0_7 : IntKind.i64.min ≤ n0_7 ∧ n0_7 ≤ IntKind.i64.max) (b0_8 : IntKind.i64.min ≤ n0_8 ∧ n0_8 ≤ IntKind.i64.max) (b0_9 : IntKind.i64.min ≤ n0_9 ∧ n0_9 ≤ IntKind.i64.max) (b0_10 : IntKind.u64.min ≤ n0_10 ∧ n0_10 ≤ IntKind.u64.max) (b0_11 : IntKind.u64.min ≤ n0_11 ∧ n0_11 ≤ IntKind.u64.max) (hp : Pw w) :
    Calls Tryd.prog 11 #[.agg #[.int .u8 n0_0, .int .i64 n0_1, .int .i64 n0_2, .int .u8 n0_3, .int .i64 n0_4, .int .i64 n0_5, .int .i64 n0_6, .int .i64 n0_7, .int .i64 n0_8, .int .i64 n0_9, .int .u64 n0_10, .int .u64 n0_11]] w fun e w' => e = .returned (.bool true) ∧ Below w.heap.size w w' :=
  back_walk ⟨n0_0, n0_1, n0_2, n0_3, n0_4, n0_5, n0_6, n0_7, n0_8, n0_9, n0_10, n0_11⟩ w hp

end Go.Proofs.YtoamhkgnnjoaaaaDoor
