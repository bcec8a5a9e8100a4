/- The walk of PartNames. -/
import Derived.Test.YtoamhkgnnjoaaaaDoorAlive04
namespace Go.Proofs.YtoamhkgnnjoaaaaDoor
open Go.RowKit

def ex4b : Cfg := ⟨2, 2, 3, 2, 2, 0, 7, 2, 2, 1, 131072, 9⟩
def ex4s : Cfg := ⟨2, 2, 3, 2, 2, 0, 7, 2, 2, 1, 131071, 9⟩
def ex4n : Cfg := ⟨2, 2, 3, 2, 2, 0, 7, 2, 2, 1, 131072, 0⟩
def ex4i : Cfg := ⟨2, 2, 3, 2, 2, 1, 7, 2, 2, 1, 131072, 9⟩
def ex40 : Cfg := ⟨0, 0, 0, 0, 0, 0, 0, 0, 0, 0, 0, 0⟩
theorem ex4b_size : sizeV ex4b = 14 ∧ checkE ex4b = 0 := by decide +kernel
theorem ex4b_at1 : atV ex4b 8 0 1 = 14 ∧ atE ex4b 8 0 1 = 0 := by decide +kernel
theorem ex4b_at2 : atE ex4b 6 0 0 = 2 := by decide +kernel
theorem ex4b_what : whatP ex4b (-1) = ⟨0, 0, 0⟩ ∧ whatE ex4b (-1) = 2 := by decide +kernel
theorem ex4_wrong : checkE ex4s = 40 ∧ checkE ex4n = 40 ∧ checkE ex4i = 40 ∧ checkE ex40 = 40 := by decide +kernel

set_option maxHeartbeats 3200000 in
theorem walk_PartNames (w : World) (hp : Pw w) : Calls Tryd.prog 9 #[] w fun e w' => e = .returned (.bool true) ∧ Below w.heap.size w w' := by
  have HP := Lib.hid hp
  clear hp
  go_enter Tryd.func9, Tryd.ntmps9
  go_wp2_with fail
  have HX := Lib.hid (Box.new w 24 (cfgL ex4b))
  have HB := Lib.hid (newB w (.cells ⟨cfgL ex4b⟩ 24))
  unfold cfgL ex4b at HX HB
  generalize w.alloc _ = V at *
  refine (Size_any ex4b V (HP.out.more HB.out)).mono ?_
  rintro e w1 ⟨rfl, hb⟩
  rw [ex4b_size.1, ex4b_size.2]
  have HB := Lib.hid (keepB hb HB.out); have HX := Lib.hid (HX.out.below hb); clear hb
  have x0 := HX.out.c 0 rfl; have x1 := HX.out.c 1 rfl; have x2 := HX.out.c 2 rfl; have x3 := HX.out.c 3 rfl; have x4 := HX.out.c 4 rfl; have x5 := HX.out.c 5 rfl; have x6 := HX.out.c 6 rfl; have x7 := HX.out.c 7 rfl; have x8 := HX.out.c 8 rfl; have x9 := HX.out.c 9 rfl; have x10 := HX.out.c 10 rfl; have x11 := HX.out.c 11 rfl
  go_wp2_with fail
  refine (At_any ex4b 8 0 1 _ (HP.out.more HB.out) (by decide)).mono ?_
  rintro e w2 ⟨rfl, hb⟩
  rw [ex4b_at1.1, ex4b_at1.2]
  clear x0 x1 x2 x3 x4 x5 x6 x7 x8 x9 x10 x11
  have HB := Lib.hid (keepB hb HB.out); have HX := Lib.hid (HX.out.below hb); clear hb
  have x0 := HX.out.c 0 rfl; have x1 := HX.out.c 1 rfl; have x2 := HX.out.c 2 rfl; have x3 := HX.out.c 3 rfl; have x4 := HX.out.c 4 rfl; have x5 := HX.out.c 5 rfl; have x6 := HX.out.c 6 rfl; have x7 := HX.out.c 7 rfl; have x8 := HX.out.c 8 rfl; have x9 := HX.out.c 9 rfl; have x10 := HX.out.c 10 rfl; have x11 := HX.out.c 11 rfl
  go_wp2_with fail
  refine (At_any ex4b 6 0 0 _ (HP.out.more HB.out) (by decide)).mono ?_
  rintro e w3 ⟨rfl, hb⟩
  rw [ex4b_at2]
  generalize atV ex4b 6 0 0 = v0
  clear x0 x1 x2 x3 x4 x5 x6 x7 x8 x9 x10 x11
  have HB := Lib.hid (keepB hb HB.out); have HX := Lib.hid (HX.out.below hb); clear hb
  have x0 := HX.out.c 0 rfl; have x1 := HX.out.c 1 rfl; have x2 := HX.out.c 2 rfl; have x3 := HX.out.c 3 rfl; have x4 := HX.out.c 4 rfl; have x5 := HX.out.c 5 rfl; have x6 := HX.out.c 6 rfl; have x7 := HX.out.c 7 rfl; have x8 := HX.out.c 8 rfl; have x9 := HX.out.c 9 rfl; have x10 := HX.out.c 10 rfl; have x11 := HX.out.c 11 rfl
  go_wp2_with fail
  refine (What_any ex4b (-1) _ (HP.out.more HB.out)).mono ?_
  rintro e w4 ⟨rfl, hb⟩
  rw [ex4b_what.1, ex4b_what.2, plR_form]
  clear x0 x1 x2 x3 x4 x5 x6 x7 x8 x9 x10 x11
  have HB := Lib.hid (keepB hb HB.out); have HX := Lib.hid (HX.out.below hb); clear hb
  have x0 := fun o => (HX.out.alloc o).c 0 rfl; have x1 := fun o => (HX.out.alloc o).c 1 rfl; have x2 := fun o => (HX.out.alloc o).c 2 rfl; have x3 := fun o => (HX.out.alloc o).c 3 rfl; have x4 := fun o => (HX.out.alloc o).c 4 rfl; have x5 := fun o => (HX.out.alloc o).c 5 rfl; have x6 := fun o => (HX.out.alloc o).c 6 rfl; have x7 := fun o => (HX.out.alloc o).c 7 rfl; have x8 := fun o => (HX.out.alloc o).c 8 rfl; have x9 := fun o => (HX.out.alloc o).c 9 rfl; have x10 := fun o => (HX.out.alloc o).c 10 rfl; have x11 := fun o => (HX.out.alloc o).c 11 rfl
  have y0 := fun o p => ((HX.out.alloc o).alloc p).c 0 rfl; have y1 := fun o p => ((HX.out.alloc o).alloc p).c 1 rfl; have y2 := fun o p => ((HX.out.alloc o).alloc p).c 2 rfl; have y3 := fun o p => ((HX.out.alloc o).alloc p).c 3 rfl; have y4 := fun o p => ((HX.out.alloc o).alloc p).c 4 rfl; have y5 := fun o p => ((HX.out.alloc o).alloc p).c 5 rfl; have y6 := fun o p => ((HX.out.alloc o).alloc p).c 6 rfl; have y7 := fun o p => ((HX.out.alloc o).alloc p).c 7 rfl; have y8 := fun o p => ((HX.out.alloc o).alloc p).c 8 rfl; have y9 := fun o p => ((HX.out.alloc o).alloc p).c 9 rfl; have y10 := fun o p => ((HX.out.alloc o).alloc p).c 10 rfl; have y11 := fun o p => ((HX.out.alloc o).alloc p).c 11 rfl
  have z0 := fun o p q => (((HX.out.alloc o).alloc p).alloc q).c 0 rfl; have z1 := fun o p q => (((HX.out.alloc o).alloc p).alloc q).c 1 rfl; have z2 := fun o p q => (((HX.out.alloc o).alloc p).alloc q).c 2 rfl; have z3 := fun o p q => (((HX.out.alloc o).alloc p).alloc q).c 3 rfl; have z4 := fun o p q => (((HX.out.alloc o).alloc p).alloc q).c 4 rfl; have z5 := fun o p q => (((HX.out.alloc o).alloc p).alloc q).c 5 rfl; have z6 := fun o p q => (((HX.out.alloc o).alloc p).alloc q).c 6 rfl; have z7 := fun o p q => (((HX.out.alloc o).alloc p).alloc q).c 7 rfl; have z8 := fun o p q => (((HX.out.alloc o).alloc p).alloc q).c 8 rfl; have z9 := fun o p q => (((HX.out.alloc o).alloc p).alloc q).c 9 rfl; have z10 := fun o p q => (((HX.out.alloc o).alloc p).alloc q).c 10 rfl; have z11 := fun o p q => (((HX.out.alloc o).alloc p).alloc q).c 11 rfl
  go_wp2_with fail
  have hs := ((Box.new (w4.alloc (.cells #[.int .u8 ((0 : Nat) : Int), .int .i64 ((0 : Nat) : Int), .int .i64 ((0 : Nat) : Int)] 48)) 24 (cfgL ex4s)).alloc (.cells ⟨cfgL ex4n⟩ 24)).alloc (.cells ⟨cfgL ex4i⟩ 24)
  have hn := (Box.new ((w4.alloc (.cells #[.int .u8 ((0 : Nat) : Int), .int .i64 ((0 : Nat) : Int), .int .i64 ((0 : Nat) : Int)] 48)).alloc (.cells ⟨cfgL ex4s⟩ 24)) 24 (cfgL ex4n)).alloc (.cells ⟨cfgL ex4i⟩ 24)
  have hi := Box.new (((w4.alloc (.cells #[.int .u8 ((0 : Nat) : Int), .int .i64 ((0 : Nat) : Int), .int .i64 ((0 : Nat) : Int)] 48)).alloc (.cells ⟨cfgL ex4s⟩ 24)).alloc (.cells ⟨cfgL ex4n⟩ 24)) 24 (cfgL ex4i)
  have HB := Lib.hid (moreB (moreB (moreB (moreB HB.out (.cells #[.int .u8 ((0 : Nat) : Int), .int .i64 ((0 : Nat) : Int), .int .i64 ((0 : Nat) : Int)] 48)) (.cells ⟨cfgL ex4s⟩ 24)) (.cells ⟨cfgL ex4n⟩ 24)) (.cells ⟨cfgL ex4i⟩ 24))
  simp only [World.size_alloc] at hs hn hi
  unfold cfgL ex4s ex4n ex4i at *
  clear x0 x1 x2 x3 x4 x5 x6 x7 x8 x9 x10 x11
  clear y0 y1 y2 y3 y4 y5 y6 y7 y8 y9 y10 y11
  clear z0 z1 z2 z3 z4 z5 z6 z7 z8 z9 z10 z11
  change Calls _ _ _ ((((w4.alloc (.cells #[.int .u8 ((0 : Nat) : Int), .int .i64 ((0 : Nat) : Int), .int .i64 ((0 : Nat) : Int)] 48)).alloc (.cells ⟨[.int .u8 2, .int .i64 2, .int .i64 3, .int .u8 2, .int .i64 2, .int .i64 0, .int .i64 7, .int .i64 2, .int .i64 2, .int .i64 1, .int .u64 131071, .int .u64 9]⟩ 24)).alloc (.cells ⟨[.int .u8 2, .int .i64 2, .int .i64 3, .int .u8 2, .int .i64 2, .int .i64 0, .int .i64 7, .int .i64 2, .int .i64 2, .int .i64 1, .int .u64 131072, .int .u64 0]⟩ 24)).alloc (.cells ⟨[.int .u8 2, .int .i64 2, .int .i64 3, .int .u8 2, .int .i64 2, .int .i64 1, .int .i64 7, .int .i64 2, .int .i64 2, .int .i64 1, .int .u64 131072, .int .u64 9]⟩ 24)) _
  generalize (((w4.alloc _).alloc _).alloc _).alloc _ = U at *
  have HN := Lib.hid hn; have HI := Lib.hid hi
  clear hs hn hi HX
  refine (Check_any ex4s _).mono ?_
  rintro e w5 ⟨rfl, hb⟩
  rw [ex4_wrong.1]
  have HN := Lib.hid (HN.out.below hb); have HI := Lib.hid (HI.out.below hb); have HB := Lib.hid (keepB hb HB.out)
  clear hb
  have x0 := HN.out.c 0 rfl; have x1 := HN.out.c 1 rfl; have x2 := HN.out.c 2 rfl; have x3 := HN.out.c 3 rfl; have x4 := HN.out.c 4 rfl; have x5 := HN.out.c 5 rfl; have x6 := HN.out.c 6 rfl; have x7 := HN.out.c 7 rfl; have x8 := HN.out.c 8 rfl; have x9 := HN.out.c 9 rfl; have x10 := HN.out.c 10 rfl; have x11 := HN.out.c 11 rfl
  go_wp2_with fail
  refine (Check_any ex4n _).mono ?_
  rintro e w6 ⟨rfl, hb⟩
  rw [ex4_wrong.2.1]
  have HI := Lib.hid (HI.out.below hb); have HB := Lib.hid (keepB hb HB.out)
  clear x0 x1 x2 x3 x4 x5 x6 x7 x8 x9 x10 x11
  clear hb
  have x0 := HI.out.c 0 rfl; have x1 := HI.out.c 1 rfl; have x2 := HI.out.c 2 rfl; have x3 := HI.out.c 3 rfl; have x4 := HI.out.c 4 rfl; have x5 := HI.out.c 5 rfl; have x6 := HI.out.c 6 rfl; have x7 := HI.out.c 7 rfl; have x8 := HI.out.c 8 rfl; have x9 := HI.out.c 9 rfl; have x10 := HI.out.c 10 rfl; have x11 := HI.out.c 11 rfl
  go_wp2_with fail
  refine (Check_any ex4i _).mono ?_
  rintro e w7 ⟨rfl, hb⟩
  rw [ex4_wrong.2.2.1]
  have HB := Lib.hid (keepB hb HB.out)
  clear x0 x1 x2 x3 x4 x5 x6 x7 x8 x9 x10 x11
  clear hb
  go_wp2_with fail
  refine (Check_any ex40 _).mono ?_
  rintro e w8 ⟨rfl, hb⟩
  rw [ex4_wrong.2.2.2]
  have HB := Lib.hid (keepB hb HB.out)
  clear hb
  go_wp2_with fail
  refine (alive04_any _ (HP.out.more HB.out)).mono ?_
  rintro e w9 ⟨rfl, hb⟩
  have HB := Lib.hid (keepB hb HB.out)
  clear hb
  go_wp2_with fail
  go_ret
  exact ⟨rfl, HB.out⟩

end Go.Proofs.YtoamhkgnnjoaaaaDoor
