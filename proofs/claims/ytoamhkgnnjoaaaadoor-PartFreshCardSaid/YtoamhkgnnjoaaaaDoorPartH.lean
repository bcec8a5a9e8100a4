/- Chapter 4: the reference's Of, At, What, Size, Cells, Check. -/
import Derived.Test.YtoamhkgnnjoaaaaDoorPartG
import Derived.Test.YtoamhkgnnjoaaaaDoorPartB
namespace Go.Proofs.YtoamhkgnnjoaaaaDoor
open Go.RowKit



set_option maxHeartbeats 6400000 in
theorem Of_any (c : Cfg) (n : Nat) (p : Pl) (w : World) (hm : c.May) (hp : (placesL c.shp)[n]? = some p) :
    Calls Tryd.prog 48 #[.agg #[.int .u8 c.ob, .int .i64 c.inst, .int .i64 c.thr, .int .u8 c.kd, .int .i64 c.str, .int .i64 c.bits, .int .i64 c.cap, .int .i64 c.node, .int .i64 c.bat, .int .i64 c.chk, .int .u64 c.lim, .int .u64 c.most], .int .i64 n] w fun e w' => e = .returned (.agg #[.int .u8 p.k, .int .i64 p.a, .int .i64 p.b]) ∧ Below w.heap.size w w' := by
  have HM := Lib.hid hm
  have HS := Lib.hid (May.small hm)
  obtain ⟨hwn, hhas⟩ := where_of hp
  obtain ⟨hk1, hk10⟩ := has_k hhas
  have HI : ∀ q, hasP c.shp q → q ≠ p → whereN c.shp q ≠ n := fun q hq hne he => hne (where_inj hq hhas (by rw [he, hwn]))
  have HWL : ∀ q, hasP c.shp q → whereN c.shp q ≤ 714 := fun q hq => where_le HS.out hq
  have HI0 := Lib.hid HI
  have HWL0 := Lib.hid HWL
  clear HI HWL
  have HWN := Lib.hid hwn
  have HH := Lib.hid hhas
  have hn : n ≤ 714 := by rw [← hwn]; exact HWL0.out p hhas
  obtain ⟨K, A, B⟩ := p
  simp only at hk1 hk10
  clear hm hp hwn hhas
  go_enter Tryd.func48, Tryd.ntmps48
  go_wp2_with fail
  have hx := (Box.new w 24 (cfgL c)).alloc (.cells #[.int .u8 0, .int .i64 0, .int .i64 0] 48)
  have hr := Box.new (w.alloc (.cells ⟨cfgL c⟩ 24)) 48 [.int .u8 0, .int .i64 0, .int .i64 0]
  have HB := Lib.hid (moreB (newB w (.cells ⟨cfgL c⟩ 24)) (.cells #[.int .u8 0, .int .i64 0, .int .i64 0] 48))
  rw [World.size_alloc] at hr
  unfold cfgL at *
  generalize (w.alloc _).alloc _ = V at *
  have HX := Lib.hid hx
  have HR := Lib.hid hr
  clear hx hr
  go_loopw [5] (fun i wr => ∃ j : Nat, 1 ≤ j ∧ j ≤ K ∧ i = .int .u8 j ∧ Below w.heap.size w wr ∧ Box wr w.heap.size (cfgL c) ∧ Box wr (w.heap.size + 1) [.int .u8 0, .int .i64 0, .int .i64 0]) (fun i _ => 11 - (intOf i).toNat)
  case atStart => exact ⟨1, by omega, hk1, rfl, HB.out, HX.out, HR.out⟩
  case round =>
    clear HX HB HR
    obtain ⟨j, hj1, hj, rfl, hb0, hx, hr⟩ := hrel
    have HX := Lib.hid hx
    have HR := Lib.hid hr
    have HB := Lib.hid hb0
    unfold cfgL at hx
    have x0 := hx.c 0 rfl
    have x1 := hx.c 1 rfl
    have x2 := hx.c 2 rfl
    have x3 := hx.c 3 rfl
    have x4 := hx.c 4 rfl
    have x5 := hx.c 5 rfl
    have x6 := hx.c 6 rfl
    have x7 := hx.c 7 rfl
    have x8 := hx.c 8 rfl
    have x9 := hx.c 9 rfl
    have x10 := hx.c 10 rfl
    have x11 := hx.c 11 rfl
    clear hx hb0 hr
    go_wp2_with fail
    refine (counts_any c j j wr HM.out rfl).mono ?_
    rintro e w1 ⟨rfl, hb⟩
    have HX := Lib.hid (HX.out.below hb)
    have HR := Lib.hid (HR.out.below hb)
    have HB := Lib.hid (keepB hb HB.out)
    have hc := counts_le HS.out j
    have HHA : ∀ a b, hasP c.shp ⟨j, a, b⟩ ↔ a < (countsN c.shp j).1 ∧ b < (countsN c.shp j).2 := fun a b => Iff.rfl
    have HHK : j = K → A < (countsN c.shp j).1 ∧ B < (countsN c.shp j).2 := fun e => by subst e; exact HH.out
    clear x0 x1 x2 x3 x4 x5 x6 x7 x8 x9 x10 x11 hb
    generalize (countsN c.shp j).1 = n1 at *
    generalize (countsN c.shp j).2 = n2 at *
    obtain ⟨q1, q2, _⟩ := hc
    have HA := Lib.hid HHA
    have HK := Lib.hid HHK
    clear HHA HHK
    go_wp2_with fail
    go_loopw [8] (fun i W => ∃ a : Nat, a ≤ n1 ∧ (j = K → a ≤ A) ∧ i = .int .i64 a ∧ Below w.heap.size w W ∧ Box W w.heap.size (cfgL c) ∧ Box W (w.heap.size + 1) [.int .u8 0, .int .i64 0, .int .i64 0]) (fun i _ => n1 - (intOf i).toNat)
    case atStart => exact ⟨0, Nat.zero_le _, fun _ => Nat.zero_le _, rfl, HB.out, HX.out, HR.out⟩
    case round =>
      clear HB HX HR
      obtain ⟨a, ha, haK, rfl, hb0, hx, hr⟩ := hrel
      have HAK := Lib.hid haK
      have HX := Lib.hid hx
      have HR := Lib.hid hr
      have HB := Lib.hid hb0
      clear hx hb0 hr haK
      rename World => w8
      by_cases hlt : a < n1
      · go_wp2_with fail
        go_loopw [9] (fun i W => ∃ b : Nat, b ≤ n2 ∧ (j = K → a = A → b ≤ B) ∧ i = .int .i64 b ∧ Below w.heap.size w W ∧ Box W w.heap.size (cfgL c) ∧ Box W (w.heap.size + 1) [.int .u8 0, .int .i64 0, .int .i64 0]) (fun i _ => n2 - (intOf i).toNat)
        case atStart => exact ⟨0, Nat.zero_le _, fun _ _ => Nat.zero_le _, rfl, HB.out, HX.out, HR.out⟩
        case round =>
          clear HB HX HR
          obtain ⟨b, hb9, hbK, rfl, hb0, hx, hr⟩ := hrel
          have HBK := Lib.hid hbK
          have HX := Lib.hid hx
          have HR := Lib.hid hr
          have HB := Lib.hid hb0
          rename World => w9
          by_cases hlt2 : b < n2
          · have hhas := (HA.out a b).2 ⟨hlt, hlt2⟩
            have HHS := Lib.hid hhas
            unfold cfgL at hx
            clear hx hb0 hr hbK hhas
            have y0 := fun o => (HX.out.alloc o).c 0 rfl
            have y1 := fun o => (HX.out.alloc o).c 1 rfl
            have y2 := fun o => (HX.out.alloc o).c 2 rfl
            have y3 := fun o => (HX.out.alloc o).c 3 rfl
            have y4 := fun o => (HX.out.alloc o).c 4 rfl
            have y5 := fun o => (HX.out.alloc o).c 5 rfl
            have y6 := fun o => (HX.out.alloc o).c 6 rfl
            have y7 := fun o => (HX.out.alloc o).c 7 rfl
            have y8 := fun o => (HX.out.alloc o).c 8 rfl
            have y9 := fun o => (HX.out.alloc o).c 9 rfl
            have y10 := fun o => (HX.out.alloc o).c 10 rfl
            have y11 := fun o => (HX.out.alloc o).c 11 rfl
            go_wp2_with fail
            refine (Where_any c ⟨j, a, b⟩ _ HM.out HHS.out).mono ?_
            rintro e w2 ⟨rfl, hb⟩
            have HX1 := Lib.hid ((HX.out.alloc _).below hb)
            have HR1 := Lib.hid ((HR.out.alloc _).below hb)
            have HB1 := Lib.hid (keepB hb (moreB HB.out _))
            have hq := (Box.new w9 48 [.int .u8 j, .int .i64 a, .int .i64 b]).below hb
            have hne : w9.heap.size ≠ w.heap.size + 1 := by have := HR.out.lt; omega
            clear y0 y1 y2 y3 y4 y5 y6 y7 y8 y9 y10 y11 hb
            by_cases hit : (⟨j, a, b⟩ : Pl) = ⟨K, A, B⟩
            · obtain ⟨rfl, rfl, rfl⟩ := Pl.mk.inj hit
              rw [HWN.out]
              have q0 := hq.c 0 rfl
              have q1' := hq.c 1 rfl
              have q2' := hq.c 2 rfl
              have r0 := HR1.out.c 0 rfl
              have r1 := HR1.out.c 1 rfl
              have r2 := HR1.out.c 2 rfl
              have f0 := HR1.out.f 0
              have f1 := HR1.out.f 1
              have f2 := HR1.out.f 2
              go_wp2_with fail
              refine bodyPost_ret (v := .agg #[.int .u8 j, .int .i64 a, .int .i64 b]) ?_ rfl ⟨rfl, ((HB1.out.setCell (p := ⟨w.heap.size + 1, 0, none⟩) (by simp) _).setCell (p := ⟨w.heap.size + 1, 1, none⟩) (by simp) _).setCell (p := ⟨w.heap.size + 1, 2, none⟩) (by simp) _⟩
              exact (((HR1.out.set 0 (.int .u8 j)).set 1 (.int .i64 a)).set 2 (.int .i64 b)).results (t := 48) rfl (fun _ => by kernel_rfl) (fun _ => by kernel_rfl) rfl
            · have hw := HI0.out _ HHS.out hit
              have hwl := HWL0.out _ HHS.out
              generalize whereN c.shp ⟨j, a, b⟩ = v at *
              have e1 : ((v : Int) == (n : Int)) = false := by simp; omega
              have HN := Lib.hid (show j = K → a = A → b + 1 ≤ B from fun h1 h2 => by
                have h3 := HBK.out h1 h2
                have h4 : b ≠ B := fun h => hit (by rw [h1, h2, h])
                omega)
              clear hit hw hwl hq
              go_wp2_with fail
              go_roundw
              case rel => exact ⟨b + 1, by omega, HN.out, by go_num, HB1.out, HX1.out, HR1.out⟩
              case measure => simp [intOf]; omega
          · obtain rfl : b = n2 := by omega
            clear hx hb0 hr hbK
            have HN := Lib.hid (show j = K → a + 1 ≤ A from fun h1 => by
              have h2 := HAK.out h1
              have h3 := (HK.out h1).2
              have h4 : a ≠ A := fun h => by have := HBK.out h1 h; omega
              omega)
            go_wp2_with fail
            refine ⟨⟨a + 1, by omega, HN.out, by go_num, HB.out, HX.out, HR.out⟩, ?_⟩
            simp [intOf]; omega
      · obtain rfl : a = n1 := by omega
        have HN := Lib.hid (show j + 1 ≤ K from by
          have h1 : j ≠ K := fun h => by have := (HK.out h).1; have := HAK.out h; omega
          omega)
        go_wp2_with fail
        refine ⟨⟨j + 1, by omega, HN.out, by go_num, HB.out, HX.out, HR.out⟩, ?_⟩
        simp [intOf]; omega

end Go.Proofs.YtoamhkgnnjoaaaaDoor
