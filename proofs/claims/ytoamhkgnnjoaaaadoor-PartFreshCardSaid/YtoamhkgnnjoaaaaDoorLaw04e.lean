/- The walk of PartFresh. -/
import Derived.Test.YtoamhkgnnjoaaaaDoorAlive04
import Derived.Test.YtoamhkgnnjoaaaaDoorPartO
namespace Go.Proofs.YtoamhkgnnjoaaaaDoor
open Go.RowKit

theorem at_ctl {c : Cfg} (h : c.May) : atV c 3 0 0 = 2 ∧ atE c 3 0 0 = 0 := by
  have hz : hasZ c.shp 3 0 0 = true := hasZ_t.2 ⟨by omega, by omega, by simp [hasP, plZ, countsN]⟩
  exact ⟨by rw [atV_in h hz]; simp [plZ, whereN], atE_in h hz⟩

set_option maxRecDepth 100000 in
set_option maxHeartbeats 6400000 in
theorem fresh_walk (c : Cfg) (w : World) (hp : Pw w) :
    Calls Tryd.prog 12 #[.agg #[.int .u8 c.ob, .int .i64 c.inst, .int .i64 c.thr, .int .u8 c.kd, .int .i64 c.str, .int .i64 c.bits, .int .i64 c.cap, .int .i64 c.node, .int .i64 c.bat, .int .i64 c.chk, .int .u64 c.lim, .int .u64 c.most]] w fun e w' => e = .returned (.bool true) ∧ Below w.heap.size w w' := by
  have HP := Lib.hid hp
  clear hp
  go_enter Tryd.func12, Tryd.ntmps12
  go_wp2_with fail
  have HX := Lib.hid (Box.new w 24 (cfgL c))
  have HB := Lib.hid (newB w (.cells ⟨cfgL c⟩ 24))
  unfold cfgL at *
  generalize w.alloc _ = V at *
  refine (alive04_any V (HP.out.more HB.out)).mono ?_
  rintro e w1 ⟨rfl, hb⟩
  have HB := Lib.hid (keepB hb HB.out); have HX := Lib.hid (HX.out.below hb); clear hb
  have x0 := HX.out.c 0 rfl; have x1 := HX.out.c 1 rfl; have x2 := HX.out.c 2 rfl; have x3 := HX.out.c 3 rfl; have x4 := HX.out.c 4 rfl; have x5 := HX.out.c 5 rfl; have x6 := HX.out.c 6 rfl; have x7 := HX.out.c 7 rfl; have x8 := HX.out.c 8 rfl; have x9 := HX.out.c 9 rfl; have x10 := HX.out.c 10 rfl; have x11 := HX.out.c 11 rfl
  go_wp2_with fail
  refine (Fresh_any c _ (HP.out.more HB.out)).mono ?_
  rintro e w2 ⟨a, cap, rfl, hrd, hb⟩
  have HR := Lib.hid hrd
  clear x0 x1 x2 x3 x4 x5 x6 x7 x8 x9 x10 x11
  have HB := Lib.hid (keepB hb HB.out); have HX := Lib.hid (HX.out.below hb); clear hb
  have x0 := HX.out.c 0 rfl; have x1 := HX.out.c 1 rfl; have x2 := HX.out.c 2 rfl; have x3 := HX.out.c 3 rfl; have x4 := HX.out.c 4 rfl; have x5 := HX.out.c 5 rfl; have x6 := HX.out.c 6 rfl; have x7 := HX.out.c 7 rfl; have x8 := HX.out.c 8 rfl; have x9 := HX.out.c 9 rfl; have x10 := HX.out.c 10 rfl; have x11 := HX.out.c 11 rfl
  clear hrd
  generalize hE : checkE c = E
  have HE := Lib.hid hE
  clear hE
  generalize hl : (frL c).length = n
  have HLL := Lib.hid hl
  clear hl
  go_wp2_with fail
  refine (Cells_any c _ (HP.out.more HB.out)).mono ?_
  rintro e w3 ⟨rfl, hb⟩
  rw [HE.out]
  have HR := Lib.hid (HR.out.below hb)
  clear x0 x1 x2 x3 x4 x5 x6 x7 x8 x9 x10 x11
  have HB := Lib.hid (keepB hb HB.out); have HX := Lib.hid (HX.out.below hb); clear hb
  have x0 := HX.out.c 0 rfl; have x1 := HX.out.c 1 rfl; have x2 := HX.out.c 2 rfl; have x3 := HX.out.c 3 rfl; have x4 := HX.out.c 4 rfl; have x5 := HX.out.c 5 rfl; have x6 := HX.out.c 6 rfl; have x7 := HX.out.c 7 rfl; have x8 := HX.out.c 8 rfl; have x9 := HX.out.c 9 rfl; have x10 := HX.out.c 10 rfl; have x11 := HX.out.c 11 rfl
  generalize hl : cellsV c = M
  have HMV := Lib.hid hl
  clear hl
  go_wp2_with fail
  refine (At_any c 3 0 0 _ (HP.out.more HB.out) (by decide)).mono ?_
  rintro e w4 ⟨rfl, hb⟩
  have HR := Lib.hid (HR.out.below hb)
  clear x0 x1 x2 x3 x4 x5 x6 x7 x8 x9 x10 x11
  have HB := Lib.hid (keepB hb HB.out); have HX := Lib.hid (HX.out.below hb); clear hb
  by_cases hm : c.May
  · rw [(at_ctl hm).1, (at_ctl hm).2]
    obtain rfl : E = 0 := by rw [← HE.out]; simp [checkE, hm]
    have hn : allN c.shp = n := by rw [← HLL.out]; simp [frL, hm, freshL_len]
    obtain rfl : M = (n : Nat) := by rw [← HMV.out, ← hn]; simp [cellsV, hm]
    have HF := Lib.hid (show ∀ k, k < n → (frL c)[k]? = some (if k = 2 then ⟨c.shp.inst + 5, 0, 0, 0⟩ else .zero) from fun k hk => by
      rw [show frL c = freshL c by simp [frL, hm]]
      exact fresh_at c k (by omega))
    have hn2 : n ≤ 715 := by rw [← hn]; exact (all_le (May.small hm)).1
    have s2 := Lib.hid (shp_inst hm)
    have hS := May.small hm
    have hi1 : 2 ≤ c.shp.inst := hS.inst2
    have hi2 : c.shp.inst ≤ 4 := hS.inst
    have HW := Lib.hid (show w.heap.size < w4.heap.size from HX.out.lt)
    clear hm hn hS HLL HMV HE
    go_wp2_with fail
    go_loopw [10] (fun i wr => ∃ k : Nat, k ≤ n ∧ i = .int .i64 k ∧ Below w.heap.size w wr ∧ Box wr w.heap.size (cfgL c) ∧ Rd wr a cap (frL c)) (fun i _ => n - (intOf i).toNat)
    case atStart => exact ⟨0, Nat.zero_le _, rfl, HB.out, HX.out, HR.out⟩
    case round =>
      clear HX HB HR
      obtain ⟨k, hk, rfl, hb0, hx, hr⟩ := hrel
      have HB := Lib.hid hb0
      have HX := Lib.hid hx
      have HR := Lib.hid hr
      clear hb0 hx hr
      by_cases hlt : k < n
      · have hgt := HF.out k hlt
        obtain ⟨b, off, rfl⟩ := HR.out.addr (k := k) (List.getElem?_eq_some_iff.1 hgt).1
        have hlt' : (k : Int) < (n : Int) := by omega
        have hk0 : (0 : Int) ≤ (k : Int) := by omega
        rename World => w5
        by_cases h2 : k = 2
        · subst h2
          rw [if_pos rfl] at hgt
          have y1 : ∀ o, (w5.alloc o).cell? ⟨w.heap.size, 1, none⟩ = some (.int .i64 c.shp.inst) := fun o => by
            have := (HX.out.alloc o).c 1 rfl
            rwa [← s2.out] at this
          have d0 := fun o => ((HR.out.below (newB w5 o)).get hgt).1
          have d1 := fun o => ((HR.out.below (newB w5 o)).get hgt).2.1
          have d2 := fun o => ((HR.out.below (newB w5 o)).get hgt).2.2.1
          have d3 := fun o => ((HR.out.below (newB w5 o)).get hgt).2.2.2
          have HBN := Lib.hid (fun o => HR.out.below (newB w5 o))
          clear hgt
          go_wp2_with fail
          go_quiet (fail)
          go_wp2_with fail
          go_roundw
          case rel => exact ⟨2 + 1, by omega, by go_num, below_drewN (moreB HB.out _) nq, (HX.out.alloc _).drewN nq, (HBN.out _).below (below_drewN (Below.refl _ _) nq)⟩
          case measure => simp [intOf]; omega
        · rw [if_neg h2, show Cel.zero = ⟨0, 0, 0, 0⟩ from rfl] at hgt
          have e2 : ((k : Int) == 2) = false := by simp; omega
          have d0 := fun o => ((HR.out.below (newB w5 o)).get hgt).1
          have d1 := fun o => ((HR.out.below (newB w5 o)).get hgt).2.1
          have d2 := fun o => ((HR.out.below (newB w5 o)).get hgt).2.2.1
          have d3 := fun o => ((HR.out.below (newB w5 o)).get hgt).2.2.2
          have HBN := Lib.hid (fun o => HR.out.below (newB w5 o))
          clear hgt
          go_wp2_with fail
          go_quiet (fail)
          go_wp2_with fail
          go_roundw
          case rel => exact ⟨k + 1, by omega, by go_num, below_drewN (moreB HB.out _) nq, (HX.out.alloc _).drewN nq, (HBN.out _).below (below_drewN (Below.refl _ _) nq)⟩
          case measure => simp [intOf]; omega
      · obtain rfl : k = n := by omega
        go_wp2_with fail
        go_ret
        exact ⟨rfl, HB.out⟩
  · rw [atE_no hm]
    obtain rfl : E = 40 := by rw [← HE.out]; simp [checkE, hm]
    obtain rfl : n = 0 := by rw [← HLL.out]; simp [frL, hm]
    clear hm HE
    go_wp2_with fail
    go_ret
    exact ⟨rfl, HB.out⟩

set_option linter.unusedVariables false in
theorem walk_PartFresh (n0_0 n0_1 n0_2 n0_3 n0_4 n0_5 n0_6 n0_7 n0_8 n0_9 n0_10 n0_11 : Int) (w : World) (b0_0 : IntKind.u8.min ≤ n0_0 ∧ n0_0 ≤ IntKind.u8.max) (b0_1 : IntKind.i64.min ≤ n0_1 ∧ n0_1 ≤ IntKind.i64.max) (b0_2 : IntKind.i64.min ≤ n0_2 ∧ n0_2 ≤ IntKind.i64.max) (b0_3 : IntKind.u8.min ≤ n0_3 ∧ n0_3 ≤ IntKind.u8.max) (b0_4 : IntKind.i64.min ≤ n0_4 ∧ n0_4 ≤ IntKind.i64.max) (b0_5 : IntKind.i64.min ≤ n0_5 ∧ n0_5 ≤ IntKind.i64.max) (b0_6 : IntKind.i64.min ≤ n0_6 ∧ n0_6 ≤ IntKind.i64.max) (b0_7 : IntKind.i64.min ≤ n0_7 ∧ n0_7 ≤ IntKind.i64.max) (b0_8 : IntKind.i64.min ≤ n0_8 ∧ n0_8 ≤ IntKind.i64.max) (b0_9 : IntKind.i64.min ≤ n0_9 ∧ n0_9 ≤ IntKind.i64.max) (b0_10 : IntKind.u64.min ≤ n0_10 ∧ n0_10 ≤ IntKind.u64.max) (b0_11 : IntKind.u64.min ≤ n0_11 ∧ n0_11 ≤ IntKind.u64.max) (hp : Pw w) :
    Calls Tryd.prog 12 #[.agg #[.int .u8 n0_0, .int .i64 n0_1, .int .i64 n0_2, .int .u8 n0_3, .int .i64 n0_4, .int .i64 n0_5, .int .i64 n0_6, .int .i64 n0_7, .int .i64 n0_8, .int .i64 n0_9, .int .u64 n0_10, .int .u64 n0_11]] w fun e w' => e = .returned (.bool true) ∧ Below w.heap.size w w' :=
  fresh_walk ⟨n0_0, n0_1, n0_2, n0_3, n0_4, n0_5, n0_6, n0_7, n0_8, n0_9, n0_10, n0_11⟩ w hp

end Go.Proofs.YtoamhkgnnjoaaaaDoor
