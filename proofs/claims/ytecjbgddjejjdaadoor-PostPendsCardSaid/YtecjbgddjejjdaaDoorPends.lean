/- The walk of PostPends. -/
import Derived.Test.YtecjbgddjejjdaaDoorAlive22
import Derived.Test.YtecjbgddjejjdaaDoorPlainPends
import Derived.Test.YtecjbgddjejjdaaDoorPartN
import Derived.Test.YtecjbgddjejjdaaDoorCellRun
import Derived.Deep.RegionHeld3
namespace Go.Proofs.YtecjbgddjejjdaaDoor
open Go.RowKit

theorem cell_drew {U : World} {a : Addr} {x : Value} (h : U.cell? a = some x) : U.drew.cell? a = some x := by rw [World.cell?_drew]; exact h
theorem rdx1 {W : World} {g : Nat} {p : Acc} (h : Box W g [.int .u8 p.k, .int .i64 p.at', .int .u64 p.old.t, .int .u64 p.old.a, .int .u64 p.old.b, .int .u64 p.old.c, .int .u64 p.new.t, .int .u64 p.new.a, .int .u64 p.new.b, .int .u64 p.new.c]) : RdX W (some ⟨g, 0, none⟩) [p] := by
  refine .inr ⟨g, 0, rfl, h.lt, fun k x hx => ?_⟩
  match k, hx with
  | 0, hx =>
    obtain rfl : p = x := by simpa using hx
    exact ⟨h.c 0 rfl, h.c 1 rfl, h.c 2 rfl, h.c 3 rfl, h.c 4 rfl, h.c 5 rfl, h.c 6 rfl, h.c 7 rfl, h.c 8 rfl, h.c 9 rfl⟩
  | k + 1, hx => simp at hx

set_option maxRecDepth 100000 in
set_option maxHeartbeats 6400000 in
theorem pends22_walk (c : Cfg) (t : Int) (s k a b x : Nat) (w : World) (hk : k < 256) (ha : a < 4294967296) (hb : b < 4294967296) (hx : x < 4294967296) (hp : Pw w ∧ Ob w ∧ Wr w) :
    Calls Tryd.prog 6 #[.agg #[.int .u8 c.ob, .int .i64 c.inst, .int .i64 c.thr, .int .u8 c.kd, .int .i64 c.str, .int .i64 c.bits, .int .i64 c.cap, .int .i64 c.node, .int .i64 c.bat, .int .i64 c.chk, .int .u64 c.lim, .int .u64 c.most], .int .i64 t, .int .u64 s, .agg #[.int .u8 k, .int .u32 a, .int .u32 b, .int .u32 x]] w fun e w' => e = .returned (.bool true) ∧ Below w.heap.size w w' := by
  have HP := Lib.hid hp; have HH := Lib.hid (And.intro hk (And.intro ha (And.intro hb hx)))
  clear hp hk ha hb hx
  go_enter Tryd.func6, Tryd.ntmps6
  go_wp2_with fail
  have HX := Lib.hid ((Box.new w 24 (cfgL c)).alloc (.cells #[.int .u8 k, .int .u32 a, .int .u32 b, .int .u32 x] 27))
  have hq := Box.new (w.alloc (.cells ⟨cfgL c⟩ 24)) 27 [.int .u8 k, .int .u32 a, .int .u32 b, .int .u32 x]
  have HB := Lib.hid (moreB (newB w (.cells ⟨cfgL c⟩ 24)) (.cells #[.int .u8 k, .int .u32 a, .int .u32 b, .int .u32 x] 27))
  simp only [World.size_alloc] at hq
  have HQ := Lib.hid hq
  clear hq
  unfold cfgL at *
  generalize (w.alloc _).alloc _ = V at *
  refine (alive22_any V ⟨HP.out.1.more HB.out, HP.out.2.1.more HB.out, HP.out.2.2.more HB.out⟩).mono ?_
  rintro e w1 ⟨rfl, hb⟩
  have HQ := Lib.hid (HQ.out.below hb)
  have HB := Lib.hid (keepB hb HB.out); have HX := Lib.hid (HX.out.below hb); clear hb
  have x0 := HX.out.c 0 rfl; have x1 := HX.out.c 1 rfl; have x2 := HX.out.c 2 rfl; have x3 := HX.out.c 3 rfl; have x4 := HX.out.c 4 rfl; have x5 := HX.out.c 5 rfl; have x6 := HX.out.c 6 rfl; have x7 := HX.out.c 7 rfl; have x8 := HX.out.c 8 rfl; have x9 := HX.out.c 9 rfl; have x10 := HX.out.c 10 rfl; have x11 := HX.out.c 11 rfl
  have q0 := HQ.out.c 0 rfl
  have q1 := HQ.out.c 1 rfl
  have q2 := HQ.out.c 2 rfl
  have q3 := HQ.out.c 3 rfl
  go_wp2_with fail
  refine (Ann_any c t s k a b x w1 HH.out.1 HH.out.2.1 HH.out.2.2.1 HH.out.2.2.2 (HP.out.1.more HB.out) (HP.out.2.1.more HB.out) (HP.out.2.2.more HB.out)).mono ?_
  rintro e w2 ⟨rfl, hb⟩
  generalize hq1 : annA c t s k a b x = p1
  generalize hq2 : annE c t s k a b x = E
  have HQ1 := Lib.hid hq1; have HE := Lib.hid hq2
  clear hq1 hq2 q0 q1 q2 q3
  rw [accV_form]
  clear x0 x1 x2 x3 x4 x5 x6 x7 x8 x9 x10 x11
  have HQ := Lib.hid (HQ.out.below hb)
  have HB := Lib.hid (keepB hb HB.out); have HX := Lib.hid (HX.out.below hb); clear hb
  have x0 := fun o => (HX.out.alloc o).c 0 rfl; have x1 := fun o => (HX.out.alloc o).c 1 rfl; have x2 := fun o => (HX.out.alloc o).c 2 rfl; have x3 := fun o => (HX.out.alloc o).c 3 rfl; have x4 := fun o => (HX.out.alloc o).c 4 rfl; have x5 := fun o => (HX.out.alloc o).c 5 rfl; have x6 := fun o => (HX.out.alloc o).c 6 rfl; have x7 := fun o => (HX.out.alloc o).c 7 rfl; have x8 := fun o => (HX.out.alloc o).c 8 rfl; have x9 := fun o => (HX.out.alloc o).c 9 rfl; have x10 := fun o => (HX.out.alloc o).c 10 rfl; have x11 := fun o => (HX.out.alloc o).c 11 rfl
  go_wp2_with fail
  refine (Fresh_any c _ (HP.out.1.more (moreB HB.out _))).mono ?_
  rintro e w3 ⟨fa, fc, rfl, hR, hb⟩
  have HR := Lib.hid hR
  have HA := Lib.hid ((Box.new w2 31 [.int .u8 p1.k, .int .i64 p1.at', .int .u64 p1.old.t, .int .u64 p1.old.a, .int .u64 p1.old.b, .int .u64 p1.old.c, .int .u64 p1.new.t, .int .u64 p1.new.a, .int .u64 p1.new.b, .int .u64 p1.new.c]).below hb)
  have HQ := Lib.hid ((HQ.out.alloc (.cells ⟨[.int .u8 p1.k, .int .i64 p1.at', .int .u64 p1.old.t, .int .u64 p1.old.a, .int .u64 p1.old.b, .int .u64 p1.old.c, .int .u64 p1.new.t, .int .u64 p1.new.a, .int .u64 p1.new.b, .int .u64 p1.new.c]⟩ 31)).below hb)
  clear x0 x1 x2 x3 x4 x5 x6 x7 x8 x9 x10 x11
  have HB := Lib.hid (keepB hb (moreB HB.out _)); have HX := Lib.hid ((HX.out.alloc _).below hb)
  clear hb hR
  by_cases hE : E = 0
  case neg =>
    have e1 : (E != 0) = true := by simpa using hE
    clear hE
    go_wp2_with fail
    go_ret
    exact ⟨rfl, HB.out⟩
  subst hE
  obtain ⟨hm, g1, g2, g3, g4⟩ := annE_zero HE.out
  obtain ⟨n, rfl⟩ := Int.eq_ofNat_of_zero_le g1
  have HM := Lib.hid hm
  have HG := Lib.hid (And.intro g2 (And.intro g3 g4))
  clear hm g1 g2 g3 g4
  rw [show checkE c = 0 by simp [checkE, HM.out]]
  have hfr : frL c = freshL c := by simp [frL, HM.out]
  have HR := Lib.hid (show Rd w3 fa fc (freshL c) by rw [← hfr]; exact HR.out)
  rw [hfr]
  clear hfr
  obtain ⟨k1, k2, k3⟩ := pend_run HM.out HG.out.1 HE.out
  rw [HQ1.out] at k1 k2 k3
  have K3 := Lib.hid k3
  have HL := Lib.hid (freshL_len c)
  have HN := Lib.hid (all_le (May.small HM.out)).1
  have pc := pend_cells HM.out HG.out.1 ⟨s, a * 256 + k, b, x⟩
  have pa := pend_at HM.out HG.out.1
  have OF := Lib.hid (of_back s k a b x HH.out.1 HH.out.2.1 HH.out.2.2.1 HH.out.2.2.2)
  have hX : a * 256 + k < 18446744073709551616 := by have := HH.out; omega
  have hlx : ((freshL c).set (3 + n) ⟨s, a * 256 + k, b, x⟩).length = (freshL c).length := List.length_set
  have k1' : p1.at' = ((3 + n : Nat) : Int) := by rw [k1]
  have hl12 : 3 + n < (freshL c).length ∧ 3 + c.shp.thr + n < (freshL c).length := by have := pa.2.2.2.2.1; omega
  generalize (freshL c).set (3 + n) ⟨s, a * 256 + k, b, x⟩ = lx at *
  clear k1
  generalize 3 + n = m1 at *
  generalize 3 + c.shp.thr + n = m2 at *
  have PA := Lib.hid pa; have HL12 := Lib.hid hl12
  have K1 := Lib.hid k1'
  have K2 := Lib.hid k2; have PC := Lib.hid pc; have HLX := Lib.hid hlx
  clear k1' k2 k3 pc hlx HE HQ1 pa hl12
  generalize a * 256 + k = X at *
  have HXX := Lib.hid hX
  clear hX
  generalize freshL c = l at *
  have a0 := HA.out.c 0 rfl
  have a1 := HA.out.c 1 rfl
  have a2 := HA.out.c 2 rfl
  have a3 := HA.out.c 3 rfl
  have a4 := HA.out.c 4 rfl
  have a5 := HA.out.c 5 rfl
  have a6 := HA.out.c 6 rfl
  have a7 := HA.out.c 7 rfl
  have a8 := HA.out.c 8 rfl
  have a9 := HA.out.c 9 rfl
  go_wp2_with fail
  clear a0 a1 a2 a3 a4 a5 a6 a7 a8 a9
  refine (Run_go fa (some ⟨w3.heap.size, 0, none⟩) fc 1 l [p1] _ (HR.out.below (newB w3 _)) (rdx1 (Box.new w3 31 [.int .u8 p1.k, .int .i64 p1.at', .int .u64 p1.old.t, .int .u64 p1.old.a, .int .u64 p1.old.b, .int .u64 p1.old.c, .int .u64 p1.new.t, .int .u64 p1.new.a, .int .u64 p1.new.b, .int .u64 p1.new.c])) (by have := HL.out; have := HN.out; omega) (by simp)).mono ?_
  rintro e w4 ⟨hb, h⟩
  rcases h with ⟨_, u, sv, rfl, ho, _⟩ | ⟨h0, _⟩
  case inr => exact absurd K3.out h0
  rw [K2.out] at ho
  obtain ⟨xa, xc, rfl, hrx, _⟩ := own_form ho
  have HRX := Lib.hid hrx
  have hb2 : Below w3.heap.size w3 w4 := keepB hb (newB w3 _)
  have HX := Lib.hid (HX.out.below hb2); have HA := Lib.hid (HA.out.below hb2); have HQ := Lib.hid (HQ.out.below hb2)
  have HB := Lib.hid (keepB hb2 HB.out)
  clear hb hb2 ho hrx HR
  rw [HLX.out]
  have x0 := HX.out.c 0 rfl; have x1 := HX.out.c 1 rfl; have x2 := HX.out.c 2 rfl; have x3 := HX.out.c 3 rfl; have x4 := HX.out.c 4 rfl; have x5 := HX.out.c 5 rfl; have x6 := HX.out.c 6 rfl; have x7 := HX.out.c 7 rfl; have x8 := HX.out.c 8 rfl; have x9 := HX.out.c 9 rfl; have x10 := HX.out.c 10 rfl; have x11 := HX.out.c 11 rfl
  go_wp2_with fail
  refine (At_any c 4 n 0 w4 (HP.out.1.more HB.out) (by decide)).mono ?_
  rintro e w5 ⟨rfl, hb⟩
  rw [PA.out.1, PA.out.2.1]
  clear x0 x1 x2 x3 x4 x5 x6 x7 x8 x9 x10 x11
  have HRX := Lib.hid (HRX.out.below hb); have HA := Lib.hid (HA.out.below hb); have HQ := Lib.hid (HQ.out.below hb)
  have HB := Lib.hid (keepB hb HB.out); have HX := Lib.hid (HX.out.below hb); clear hb
  have x0 := HX.out.c 0 rfl; have x1 := HX.out.c 1 rfl; have x2 := HX.out.c 2 rfl; have x3 := HX.out.c 3 rfl; have x4 := HX.out.c 4 rfl; have x5 := HX.out.c 5 rfl; have x6 := HX.out.c 6 rfl; have x7 := HX.out.c 7 rfl; have x8 := HX.out.c 8 rfl; have x9 := HX.out.c 9 rfl; have x10 := HX.out.c 10 rfl; have x11 := HX.out.c 11 rfl
  go_wp2_with fail
  refine (At_any c 5 n 0 w5 (HP.out.1.more HB.out) (by decide)).mono ?_
  rintro e w6 ⟨rfl, hb⟩
  rw [PA.out.2.2.1, PA.out.2.2.2.1]
  clear x0 x1 x2 x3 x4 x5 x6 x7 x8 x9 x10 x11
  have HRX := Lib.hid (HRX.out.below hb); have HA := Lib.hid (HA.out.below hb); have HQ := Lib.hid (HQ.out.below hb)
  have HB := Lib.hid (keepB hb HB.out); have HX := Lib.hid (HX.out.below hb); clear hb
  have a1 := HA.out.c 1 rfl
  rw [K1.out] at a1
  have hl1 : m1 < l.length := HL12.out.1
  have hl2 : m2 < l.length := HL12.out.2
  have hll : l.length ≤ 715 := by have := HN.out; have := HL.out; omega
  obtain ⟨xb, xo, rfl⟩ := HRX.out.addr (k := m1) (by rw [HLX.out]; exact hl1)
  obtain ⟨y0, y1, y2, y3⟩ := HRX.out.get PC.out.1
  obtain ⟨u0, u1, u2, u3⟩ := HRX.out.get PC.out.2
  simp only [] at y0 y1 y2 y3
  have z1 : (0 : Int) ≤ (m1 : Int) := by omega
  have z2 : (m1 : Int) < (l.length : Int) := by omega
  have z3 : (0 : Int) ≤ (m2 : Int) := by omega
  have z4 : (m2 : Int) < (l.length : Int) := by omega
  clear hl1 hl2 K1 K2 K3 PA HA HX HL12
  go_wp2_with fail
  clear a1
  refine (Of_any s X b x w6 HXX.out).mono ?_
  rintro e w7 ⟨rfl, hb⟩
  rw [OF.out]
  have HRX := Lib.hid (HRX.out.below hb); have HQ := Lib.hid (HQ.out.below hb)
  have HB := Lib.hid (keepB hb HB.out)
  clear hb y0 y1 y2 y3 u0 u1 u2 u3
  go_wp2_with fail
  have HN' := Box.new w7 27 [.int .u8 k, .int .u32 a, .int .u32 b, .int .u32 x]
  have HRX := Lib.hid (HRX.out.below (newB w7 (.cells ⟨[.int .u8 k, .int .u32 a, .int .u32 b, .int .u32 x]⟩ 27)))
  have HQ := Lib.hid (HQ.out.alloc (.cells ⟨[.int .u8 k, .int .u32 a, .int .u32 b, .int .u32 x]⟩ 27))
  have HB := Lib.hid (moreB HB.out (.cells ⟨[.int .u8 k, .int .u32 a, .int .u32 b, .int .u32 x]⟩ 27))
  generalize w7.alloc _ = w8 at *
  generalize w7.heap.size = H at *
  obtain ⟨y0, y1, y2, y3⟩ := HRX.out.get PC.out.1
  obtain ⟨u0, u1, u2, u3⟩ := HRX.out.get PC.out.2
  have r0 := HN'.c 0 rfl; have r1 := HN'.c 1 rfl; have r2 := HN'.c 2 rfl; have r3 := HN'.c 3 rfl
  have q0 := HQ.out.c 0 rfl
  have q1 := HQ.out.c 1 rfl
  have q2 := HQ.out.c 2 rfl
  have q3 := HQ.out.c 3 rfl
  have hb := HB.out
  clear HN'
  have y0 : w8.cell? ⟨xb, xo + m1 * 4, none⟩ = some (.int .u64 s) := y0
  have y1 : w8.cell? ⟨xb, xo + m1 * 4 + 1, none⟩ = some (.int .u64 X) := y1
  have y2 : w8.cell? ⟨xb, xo + m1 * 4 + 2, none⟩ = some (.int .u64 b) := y2
  have y3 : w8.cell? ⟨xb, xo + m1 * 4 + 3, none⟩ = some (.int .u64 x) := y3
  have u0 : w8.cell? ⟨xb, xo + m2 * 4, none⟩ = some (.int .u64 0) := u0
  have u1 : w8.cell? ⟨xb, xo + m2 * 4 + 1, none⟩ = some (.int .u64 0) := u1
  have u2 : w8.cell? ⟨xb, xo + m2 * 4 + 2, none⟩ = some (.int .u64 0) := u2
  have u3 : w8.cell? ⟨xb, xo + m2 * 4 + 3, none⟩ = some (.int .u64 0) := u3
  have hs1 : 1 ≤ s ∧ s ≤ 64 := HG.out.2
  obtain ⟨g, hg⟩ : ∃ g : Nat, g + 1 = s := ⟨s - 1, by omega⟩
  have hgw : IntKind.u64.wrap ((s : Int) - 1) = (g : Int) := by rw [IntKind.wrap_u64]; omega
  have T1 := Lib.hid (fun (U : World) => (Tell_any (g : Int) 9 0 0 (.slice none 0 0) U (by decide)))
  have T2 := Lib.hid (fun (U : World) => (Tell_any (s : Int) 9 0 0 (.slice none 0 0) U (by decide)))
  have hd1 : decide (g < s) = true := by simp; omega
  have hd2 : decide (s < s) = false := by simp
  have hd3 : decide (0 < s) = true := by simp; omega
  have P1 := Lib.hid (fun (U : World) => show Calls Tryd.prog 20 #[.agg #[.int .u64 s, .int .u64 X, .int .u64 b, .int .u64 x], .agg #[.int .u64 g, .int .u64 0, .int .u64 0, .int .u64 9]] U fun e w' => e = .returned (.bool true) ∧ Below U.heap.size U w' from (Pending_any s X b x g 0 0 9 U).mono fun e w' h => by rw [hd1] at h; exact h)
  have P2 := Lib.hid (fun (U : World) => show Calls Tryd.prog 20 #[.agg #[.int .u64 s, .int .u64 X, .int .u64 b, .int .u64 x], .agg #[.int .u64 s, .int .u64 0, .int .u64 0, .int .u64 9]] U fun e w' => e = .returned (.bool false) ∧ Below U.heap.size U w' from (Pending_any s X b x s 0 0 9 U).mono fun e w' h => by rw [hd2] at h; exact h)
  have P3 := Lib.hid (fun (U : World) => show Calls Tryd.prog 20 #[.agg #[.int .u64 s, .int .u64 X, .int .u64 b, .int .u64 x], .agg #[.int .u64 0, .int .u64 0, .int .u64 0, .int .u64 0]] U fun e w' => e = .returned (.bool true) ∧ Below U.heap.size U w' from (Pending_any s X b x 0 0 0 0 U).mono fun e w' h => by rw [hd3] at h; exact h)
  clear hd1 hd2 hd3 hg hs1 HG HM HN HL HLX HRX HQ HB OF PC HP HH HXX HR
  clear hll
  go_region_held3 (fun U => Below w.heap.size w U ∧ U.cell? ⟨xb, xo + m1 * 4, none⟩ = some (.int .u64 s) ∧ U.cell? ⟨xb, xo + m1 * 4 + 1, none⟩ = some (.int .u64 X) ∧ U.cell? ⟨xb, xo + m1 * 4 + 2, none⟩ = some (.int .u64 b) ∧ U.cell? ⟨xb, xo + m1 * 4 + 3, none⟩ = some (.int .u64 x) ∧ U.cell? ⟨xb, xo + m2 * 4, none⟩ = some (.int .u64 0) ∧ U.cell? ⟨xb, xo + m2 * 4 + 1, none⟩ = some (.int .u64 0) ∧ U.cell? ⟨xb, xo + m2 * 4 + 2, none⟩ = some (.int .u64 0) ∧ U.cell? ⟨xb, xo + m2 * 4 + 3, none⟩ = some (.int .u64 0) ∧ U.cell? ⟨H, 0, none⟩ = some (.int .u8 k) ∧ U.cell? ⟨H, 1, none⟩ = some (.int .u32 a) ∧ U.cell? ⟨H, 2, none⟩ = some (.int .u32 b) ∧ U.cell? ⟨H, 3, none⟩ = some (.int .u32 x) ∧ U.cell? ⟨w.heap.size + 1, 0, none⟩ = some (.int .u8 k) ∧ U.cell? ⟨w.heap.size + 1, 1, none⟩ = some (.int .u32 a) ∧ U.cell? ⟨w.heap.size + 1, 2, none⟩ = some (.int .u32 b) ∧ U.cell? ⟨w.heap.size + 1, 3, none⟩ = some (.int .u32 x)) (((try go_split_ands); (try dsimp only); (repeat' apply And.intro); all_goals with_reducible first | assumption | exact cell_drew (by assumption) | (refine Below.drew ?_; assumption) | exact keepC hb (by assumption) | exact keepC hb (cell_drew (by assumption)) | exact keepB hb (by assumption) | exact keepB hb (Below.drew (by assumption)))) (first
      | (go_at_call 20; refine (P1.out _).mono ?_; rintro e w' ⟨rfl, hb⟩)
      | (go_at_call 14; refine (T1.out _).mono ?_; rintro e w' ⟨rfl, hb⟩; simp only [tellV]))
  clear y0 y1 y2 y3 u0 u1 u2 u3 r0 r1 r2 r3 q0 q1 q2 q3 hb P1 T1
  go_split_ands
  go_wp2_with fail
  go_region_held3 (fun U => Below w.heap.size w U ∧ U.cell? ⟨xb, xo + m1 * 4, none⟩ = some (.int .u64 s) ∧ U.cell? ⟨xb, xo + m1 * 4 + 1, none⟩ = some (.int .u64 X) ∧ U.cell? ⟨xb, xo + m1 * 4 + 2, none⟩ = some (.int .u64 b) ∧ U.cell? ⟨xb, xo + m1 * 4 + 3, none⟩ = some (.int .u64 x) ∧ U.cell? ⟨xb, xo + m2 * 4, none⟩ = some (.int .u64 0) ∧ U.cell? ⟨xb, xo + m2 * 4 + 1, none⟩ = some (.int .u64 0) ∧ U.cell? ⟨xb, xo + m2 * 4 + 2, none⟩ = some (.int .u64 0) ∧ U.cell? ⟨xb, xo + m2 * 4 + 3, none⟩ = some (.int .u64 0) ∧ U.cell? ⟨H, 0, none⟩ = some (.int .u8 k) ∧ U.cell? ⟨H, 1, none⟩ = some (.int .u32 a) ∧ U.cell? ⟨H, 2, none⟩ = some (.int .u32 b) ∧ U.cell? ⟨H, 3, none⟩ = some (.int .u32 x) ∧ U.cell? ⟨w.heap.size + 1, 0, none⟩ = some (.int .u8 k) ∧ U.cell? ⟨w.heap.size + 1, 1, none⟩ = some (.int .u32 a) ∧ U.cell? ⟨w.heap.size + 1, 2, none⟩ = some (.int .u32 b) ∧ U.cell? ⟨w.heap.size + 1, 3, none⟩ = some (.int .u32 x)) (((try go_split_ands); (try dsimp only); (repeat' apply And.intro); all_goals with_reducible first | assumption | exact cell_drew (by assumption) | (refine Below.drew ?_; assumption) | exact keepC hb (by assumption) | exact keepC hb (cell_drew (by assumption)) | exact keepB hb (by assumption) | exact keepB hb (Below.drew (by assumption)))) (first
      | (go_at_call 20; refine (P2.out _).mono ?_; rintro e w' ⟨rfl, hb⟩)
      | (go_at_call 14; refine (T2.out _).mono ?_; rintro e w' ⟨rfl, hb⟩; simp only [tellV]))
  clear P2 T2
  go_split_ands
  go_wp2_with fail
  go_region_held3 (fun U => Below w.heap.size w U ∧ U.cell? ⟨xb, xo + m1 * 4, none⟩ = some (.int .u64 s) ∧ U.cell? ⟨xb, xo + m1 * 4 + 1, none⟩ = some (.int .u64 X) ∧ U.cell? ⟨xb, xo + m1 * 4 + 2, none⟩ = some (.int .u64 b) ∧ U.cell? ⟨xb, xo + m1 * 4 + 3, none⟩ = some (.int .u64 x) ∧ U.cell? ⟨xb, xo + m2 * 4, none⟩ = some (.int .u64 0) ∧ U.cell? ⟨xb, xo + m2 * 4 + 1, none⟩ = some (.int .u64 0) ∧ U.cell? ⟨xb, xo + m2 * 4 + 2, none⟩ = some (.int .u64 0) ∧ U.cell? ⟨xb, xo + m2 * 4 + 3, none⟩ = some (.int .u64 0) ∧ U.cell? ⟨H, 0, none⟩ = some (.int .u8 k) ∧ U.cell? ⟨H, 1, none⟩ = some (.int .u32 a) ∧ U.cell? ⟨H, 2, none⟩ = some (.int .u32 b) ∧ U.cell? ⟨H, 3, none⟩ = some (.int .u32 x) ∧ U.cell? ⟨w.heap.size + 1, 0, none⟩ = some (.int .u8 k) ∧ U.cell? ⟨w.heap.size + 1, 1, none⟩ = some (.int .u32 a) ∧ U.cell? ⟨w.heap.size + 1, 2, none⟩ = some (.int .u32 b) ∧ U.cell? ⟨w.heap.size + 1, 3, none⟩ = some (.int .u32 x)) (((try go_split_ands); (try dsimp only); (repeat' apply And.intro); all_goals with_reducible first | assumption | exact cell_drew (by assumption) | (refine Below.drew ?_; assumption) | exact keepC hb (by assumption) | exact keepC hb (cell_drew (by assumption)) | exact keepB hb (by assumption) | exact keepB hb (Below.drew (by assumption)))) (first | (go_at_call 20; refine (P3.out _).mono ?_; rintro e w' ⟨rfl, hb⟩))
  clear P3
  go_split_ands
  go_wp2_with fail
  go_ret
  exact ⟨rfl, by assumption⟩

set_option linter.unusedVariables false in
theorem walk_PostPends (n0_0 n0_1 n0_2 n0_3 n0_4 n0_5 n0_6 n0_7 n0_8 n0_9 n0_10 n0_11 n1 n2 n3_0 n3_1 n3_2 n3_3 : Int) (w : World) (b0_0 : IntKind.u8.min ≤ n0_0 ∧ n0_0 ≤ IntKind.u8.max) (b0_1 : IntKind.i64.min ≤ n0_1 ∧ n0_1 ≤ IntKind.i64.max) (b0_2 : IntKind.i64.min ≤ n0_2 ∧ n0_2 ≤ IntKind.i64.max) (b0_3 : IntKind.u8.min ≤ n0_3 ∧ n0_3 ≤ IntKind.u8.max) (b0_4 : IntKind.i64.min ≤ n0_4 ∧ n0_4 ≤ IntKind.i64.max) (b0_5 : IntKind.i64.min ≤ n0_5 ∧ n0_5 ≤ IntKind.i64.max) (b0_6 : IntKind.i64.min ≤ n0_6 ∧ n0_6 ≤ IntKind.i64.max) (b0_7 : IntKind.i64.min ≤ n0_7 ∧ n0_7 ≤ IntKind.i64.max) (b0_8 : IntKind.i64.min ≤ n0_8 ∧ n0_8 ≤ IntKind.i64.max) (b0_9 : IntKind.i64.min ≤ n0_9 ∧ n0_9 ≤ IntKind.i64.max) (b0_10 : IntKind.u64.min ≤ n0_10 ∧ n0_10 ≤ IntKind.u64.max) (b0_11 : IntKind.u64.min ≤ n0_11 ∧ n0_11 ≤ IntKind.u64.max) (b1 : IntKind.i64.min ≤ n1 ∧ n1 ≤ IntKind.i64.max) (b2 : IntKind.u64.min ≤ n2 ∧ n2 ≤ IntKind.u64.max) (b3_0 : IntKind.u8.min ≤ n3_0 ∧ n3_0 ≤ IntKind.u8.max) (b3_1 : IntKind.u32.min ≤ n3_1 ∧ n3_1 ≤ IntKind.u32.max) (b3_2 : IntKind.u32.min ≤ n3_2 ∧ n3_2 ≤ IntKind.u32.max) (b3_3 : IntKind.u32.min ≤ n3_3 ∧ n3_3 ≤ IntKind.u32.max) (hL : Pw w ∧ Ob w ∧ Wr w) :
    Calls Tryd.prog 6 #[.agg #[.int .u8 n0_0, .int .i64 n0_1, .int .i64 n0_2, .int .u8 n0_3, .int .i64 n0_4, .int .i64 n0_5, .int .i64 n0_6, .int .i64 n0_7, .int .i64 n0_8, .int .i64 n0_9, .int .u64 n0_10, .int .u64 n0_11], .int .i64 n1, .int .u64 n2, .agg #[.int .u8 n3_0, .int .u32 n3_1, .int .u32 n3_2, .int .u32 n3_3]] w fun e w' => e = .returned (.bool true) ∧ Below w.heap.size w w' := by
  simp [IntKind.min, IntKind.max, IntKind.signed, IntKind.bits] at b0_11 b2 b3_0 b3_1 b3_2 b3_3
  obtain ⟨s, rfl⟩ := Int.eq_ofNat_of_zero_le b2.1
  obtain ⟨k, rfl⟩ := Int.eq_ofNat_of_zero_le b3_0.1
  obtain ⟨a, rfl⟩ := Int.eq_ofNat_of_zero_le b3_1.1
  obtain ⟨b, rfl⟩ := Int.eq_ofNat_of_zero_le b3_2.1
  obtain ⟨x, rfl⟩ := Int.eq_ofNat_of_zero_le b3_3.1
  exact pends22_walk ⟨n0_0, n0_1, n0_2, n0_3, n0_4, n0_5, n0_6, n0_7, n0_8, n0_9, n0_10, n0_11⟩ n1 s k a b x w (by omega) (by omega) (by omega) (by omega) hL

end Go.Proofs.YtecjbgddjejjdaaDoor

