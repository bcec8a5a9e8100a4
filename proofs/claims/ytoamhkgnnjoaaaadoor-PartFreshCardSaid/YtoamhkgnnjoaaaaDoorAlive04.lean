/- The examples of chapter 4 (alive), and the walk of PartNames. -/
import Derived.Test.YtoamhkgnnjoaaaaDoorPartN
namespace Go.Proofs.YtoamhkgnnjoaaaaDoor
open Go.RowKit

theorem plR_form (p : Pl) (e : Int) : plR p e = .tuple #[.agg #[.int .u8 p.k, .int .i64 p.a, .int .i64 p.b], .int .i64 e] := rfl
def ex4 : Cfg := ⟨3, 2, 3, 1, 0, 0, 4, 0, 2, 0, 131072, 0⟩
theorem ex4_size : sizeV ex4 = 4 ∧ checkE ex4 = 0 ∧ cellsV ex4 = 25 := by decide +kernel
theorem ex4_at1 : atV ex4 3 0 0 = 2 ∧ atE ex4 3 0 0 = 0 := by decide +kernel
theorem ex4_at2 : atV ex4 6 1 0 = 12 ∧ atE ex4 6 1 0 = 0 := by decide +kernel
theorem ex4_at3 : atV ex4 9 1 0 = 20 ∧ atE ex4 9 1 0 = 0 := by decide +kernel
theorem ex4_what : whatP ex4 24 = ⟨10, 1, 3⟩ ∧ whatE ex4 24 = 0 := by decide +kernel
theorem ex4_len : (frL ex4).length = 25 := by decide +kernel
theorem ex4_tag : (frL ex4)[2]? = some ⟨7, 0, 0, 0⟩ := by decide +kernel

set_option maxHeartbeats 3200000 in
theorem alive04_any (w : World) (hp : Pw w) : Calls Tryd.prog 35 #[] w fun e w' => e = .returned (.bool true) ∧ Below w.heap.size w w' := by
  have HP := Lib.hid hp
  clear hp
  go_enter Tryd.func35, Tryd.ntmps35
  go_wp2_with fail
  have HX := Lib.hid (Box.new w 24 (cfgL ex4))
  have HB := Lib.hid (newB w (.cells ⟨cfgL ex4⟩ 24))
  unfold cfgL ex4 at HX HB
  generalize w.alloc _ = V at *
  refine (Size_any ex4 V (HP.out.more HB.out)).mono ?_
  rintro e w1 ⟨rfl, hb⟩
  rw [ex4_size.1, ex4_size.2.1]
  have HB := Lib.hid (keepB hb HB.out); have HX := Lib.hid (HX.out.below hb); clear hb
  have x0 := HX.out.c 0 rfl; have x1 := HX.out.c 1 rfl; have x2 := HX.out.c 2 rfl; have x3 := HX.out.c 3 rfl; have x4 := HX.out.c 4 rfl; have x5 := HX.out.c 5 rfl; have x6 := HX.out.c 6 rfl; have x7 := HX.out.c 7 rfl; have x8 := HX.out.c 8 rfl; have x9 := HX.out.c 9 rfl; have x10 := HX.out.c 10 rfl; have x11 := HX.out.c 11 rfl
  go_wp2_with fail
  refine (Cells_any ex4 _ (HP.out.more HB.out)).mono ?_
  rintro e w2 ⟨rfl, hb⟩
  rw [ex4_size.2.2, ex4_size.2.1]
  clear x0 x1 x2 x3 x4 x5 x6 x7 x8 x9 x10 x11
  have HB := Lib.hid (keepB hb HB.out); have HX := Lib.hid (HX.out.below hb); clear hb
  have x0 := HX.out.c 0 rfl; have x1 := HX.out.c 1 rfl; have x2 := HX.out.c 2 rfl; have x3 := HX.out.c 3 rfl; have x4 := HX.out.c 4 rfl; have x5 := HX.out.c 5 rfl; have x6 := HX.out.c 6 rfl; have x7 := HX.out.c 7 rfl; have x8 := HX.out.c 8 rfl; have x9 := HX.out.c 9 rfl; have x10 := HX.out.c 10 rfl; have x11 := HX.out.c 11 rfl
  go_wp2_with fail
  refine (At_any ex4 3 0 0 _ (HP.out.more HB.out) (by decide)).mono ?_
  rintro e w3 ⟨rfl, hb⟩
  rw [ex4_at1.1, ex4_at1.2]
  clear x0 x1 x2 x3 x4 x5 x6 x7 x8 x9 x10 x11
  have HB := Lib.hid (keepB hb HB.out); have HX := Lib.hid (HX.out.below hb); clear hb
  have x0 := HX.out.c 0 rfl; have x1 := HX.out.c 1 rfl; have x2 := HX.out.c 2 rfl; have x3 := HX.out.c 3 rfl; have x4 := HX.out.c 4 rfl; have x5 := HX.out.c 5 rfl; have x6 := HX.out.c 6 rfl; have x7 := HX.out.c 7 rfl; have x8 := HX.out.c 8 rfl; have x9 := HX.out.c 9 rfl; have x10 := HX.out.c 10 rfl; have x11 := HX.out.c 11 rfl
  go_wp2_with fail
  refine (At_any ex4 6 1 0 _ (HP.out.more HB.out) (by decide)).mono ?_
  rintro e w4 ⟨rfl, hb⟩
  rw [ex4_at2.1, ex4_at2.2]
  clear x0 x1 x2 x3 x4 x5 x6 x7 x8 x9 x10 x11
  have HB := Lib.hid (keepB hb HB.out); have HX := Lib.hid (HX.out.below hb); clear hb
  have x0 := HX.out.c 0 rfl; have x1 := HX.out.c 1 rfl; have x2 := HX.out.c 2 rfl; have x3 := HX.out.c 3 rfl; have x4 := HX.out.c 4 rfl; have x5 := HX.out.c 5 rfl; have x6 := HX.out.c 6 rfl; have x7 := HX.out.c 7 rfl; have x8 := HX.out.c 8 rfl; have x9 := HX.out.c 9 rfl; have x10 := HX.out.c 10 rfl; have x11 := HX.out.c 11 rfl
  go_wp2_with fail
  refine (At_any ex4 9 1 0 _ (HP.out.more HB.out) (by decide)).mono ?_
  rintro e w5 ⟨rfl, hb⟩
  rw [ex4_at3.1, ex4_at3.2]
  clear x0 x1 x2 x3 x4 x5 x6 x7 x8 x9 x10 x11
  have HB := Lib.hid (keepB hb HB.out); have HX := Lib.hid (HX.out.below hb); clear hb
  have x0 := HX.out.c 0 rfl; have x1 := HX.out.c 1 rfl; have x2 := HX.out.c 2 rfl; have x3 := HX.out.c 3 rfl; have x4 := HX.out.c 4 rfl; have x5 := HX.out.c 5 rfl; have x6 := HX.out.c 6 rfl; have x7 := HX.out.c 7 rfl; have x8 := HX.out.c 8 rfl; have x9 := HX.out.c 9 rfl; have x10 := HX.out.c 10 rfl; have x11 := HX.out.c 11 rfl
  go_wp2_with fail
  refine (What_any ex4 24 _ (HP.out.more HB.out)).mono ?_
  rintro e w6 ⟨rfl, hb⟩
  rw [ex4_what.1, ex4_what.2, plR_form]
  clear x0 x1 x2 x3 x4 x5 x6 x7 x8 x9 x10 x11
  have HB := Lib.hid (keepB hb HB.out); have HX := Lib.hid (HX.out.below hb); clear hb
  have x0 := fun o => (HX.out.alloc o).c 0 rfl; have x1 := fun o => (HX.out.alloc o).c 1 rfl; have x2 := fun o => (HX.out.alloc o).c 2 rfl; have x3 := fun o => (HX.out.alloc o).c 3 rfl; have x4 := fun o => (HX.out.alloc o).c 4 rfl; have x5 := fun o => (HX.out.alloc o).c 5 rfl; have x6 := fun o => (HX.out.alloc o).c 6 rfl; have x7 := fun o => (HX.out.alloc o).c 7 rfl; have x8 := fun o => (HX.out.alloc o).c 8 rfl; have x9 := fun o => (HX.out.alloc o).c 9 rfl; have x10 := fun o => (HX.out.alloc o).c 10 rfl; have x11 := fun o => (HX.out.alloc o).c 11 rfl
  go_wp2_with fail
  refine (Fresh_any ex4 _ (HP.out.more (moreB HB.out _))).mono ?_
  rintro e w7 ⟨a, cap, rfl, hrd, hb⟩
  clear x0 x1 x2 x3 x4 x5 x6 x7 x8 x9 x10 x11
  have hy := (Box.new w6 48 [.int .u8 ((10 : Nat) : Int), .int .i64 ((1 : Nat) : Int), .int .i64 ((3 : Nat) : Int)]).below hb
  obtain ⟨b, off, rfl⟩ := hrd.addr (k := 2) (by rw [ex4_len]; omega)
  have hc := (hrd.get ex4_tag).1
  have HB := Lib.hid (keepB hb (moreB HB.out _))
  rw [ex4_len, ex4_size.2.1]
  have y0 := hy.c 0 rfl
  have y1 := hy.c 1 rfl
  have y2 := hy.c 2 rfl
  clear hb hy hrd
  go_wp2_with fail
  go_ret
  exact ⟨rfl, HB.out⟩

end Go.Proofs.YtoamhkgnnjoaaaaDoor
