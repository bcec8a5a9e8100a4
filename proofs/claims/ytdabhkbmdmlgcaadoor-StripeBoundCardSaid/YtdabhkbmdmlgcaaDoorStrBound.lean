/- The walk of StripeBound. -/
import Derived.Test.YtdabhkbmdmlgcaaDoorAlive20
import Derived.Test.YtdabhkbmdmlgcaaDoorBoolsM
import Derived.Test.YtdabhkbmdmlgcaaDoorPartN
import Derived.Test.YtdabhkbmdmlgcaaDoorRdI
import Derived.Test.YtdabhkbmdmlgcaaDoorStrAt
import Derived.Test.YtdabhkbmdmlgcaaDoorPlainBound
import Derived.Test.YtdabhkbmdmlgcaaDoorCellRun
namespace Go.Proofs.YtdabhkbmdmlgcaaDoor
open Go.RowKit

theorem bd_start {c : Cfg} (hc : c.Strs) {v : Nat} (hv : v < 2) : BdI c v (freshL c) (List.replicate c.shp.thr false) (List.replicate c.shp.thr false) 0 :=
  ⟨st_start hc hv, by simp, fun s hs => Nat.le_trans ((st_start hc hv).bd s hs) (Nat.zero_le _)⟩

set_option maxRecDepth 100000 in
set_option maxHeartbeats 12800000 in
theorem bound20_walk (c : Cfg) (v : Int) (a3 : Option Addr) (l3 c3 : Nat) (st : Nat → Int) (w : World) (hp : Pw w) (hI : RdI w .u8 a3 l3 st) (hst : ∀ i, i < l3 → 0 ≤ st i ∧ st i ≤ 255) :
    Calls Tryd.prog 13 #[.agg #[.int .u8 c.ob, .int .i64 c.inst, .int .i64 c.thr, .int .u8 c.kd, .int .i64 c.str, .int .i64 c.bits, .int .i64 c.cap, .int .i64 c.node, .int .i64 c.bat, .int .i64 c.chk, .int .u64 c.lim, .int .u64 c.most], .int .i64 v, .slice a3 l3 c3] w fun e w' => e = .returned (.bool true) ∧ Below w.heap.size w w' := by
  have HP := Lib.hid hp; have HI := Lib.hid hI; have HST := Lib.hid hst
  clear hp hI hst
  go_enter Tryd.func13, Tryd.ntmps13
  go_wp2_with fail
  have HX := Lib.hid (Box.new w 24 (cfgL c))
  have HB := Lib.hid (newB w (.cells ⟨cfgL c⟩ 24))
  unfold cfgL at *
  generalize w.alloc _ = V at *
  refine (alive20_any V (HP.out.more HB.out)).mono ?_
  rintro e w1 ⟨rfl, hb⟩
  have HB := Lib.hid (keepB hb HB.out); have HX := Lib.hid (HX.out.below hb); clear hb
  have x0 := HX.out.c 0 rfl; have x1 := HX.out.c 1 rfl; have x2 := HX.out.c 2 rfl; have x3 := HX.out.c 3 rfl; have x4 := HX.out.c 4 rfl; have x5 := HX.out.c 5 rfl; have x6 := HX.out.c 6 rfl; have x7 := HX.out.c 7 rfl; have x8 := HX.out.c 8 rfl; have x9 := HX.out.c 9 rfl; have x10 := HX.out.c 10 rfl; have x11 := HX.out.c 11 rfl
  go_wp2_with fail
  refine (sLook_any c v 0 0 0 w1 (HP.out.more HB.out) (by decide)).mono ?_
  rintro e w2 ⟨rfl, hb⟩
  generalize hq1 : lkA c v 0 = p1
  generalize hq2 : lkE c v 0 = E
  have HE := Lib.hid hq2
  clear hq1 hq2
  rw [accV_form]
  clear x0 x1 x2 x3 x4 x5 x6 x7 x8 x9 x10 x11
  have HB := Lib.hid (keepB hb HB.out); have HX := Lib.hid (HX.out.below hb); clear hb
  have x0 := fun o => (HX.out.alloc o).c 0 rfl; have x1 := fun o => (HX.out.alloc o).c 1 rfl; have x2 := fun o => (HX.out.alloc o).c 2 rfl; have x3 := fun o => (HX.out.alloc o).c 3 rfl; have x4 := fun o => (HX.out.alloc o).c 4 rfl; have x5 := fun o => (HX.out.alloc o).c 5 rfl; have x6 := fun o => (HX.out.alloc o).c 6 rfl; have x7 := fun o => (HX.out.alloc o).c 7 rfl; have x8 := fun o => (HX.out.alloc o).c 8 rfl; have x9 := fun o => (HX.out.alloc o).c 9 rfl; have x10 := fun o => (HX.out.alloc o).c 10 rfl; have x11 := fun o => (HX.out.alloc o).c 11 rfl
  go_wp2_with fail
  refine (Fresh_any c _ (HP.out.more (moreB HB.out _))).mono ?_
  rintro e w3 ⟨fa, fc, rfl, hR, hb⟩
  have HR := Lib.hid hR
  clear x0 x1 x2 x3 x4 x5 x6 x7 x8 x9 x10 x11
  have HB := Lib.hid (keepB hb (moreB HB.out _)); have HX := Lib.hid ((HX.out.alloc _).below hb)
  clear hb hR
  by_cases hl : 300 < l3
  · have i1 : (300 : Int) < (l3 : Int) := by omega
    go_wp2_with fail
    go_ret
    exact ⟨rfl, HB.out⟩
  have i1 : (l3 : Int) ≤ (300 : Int) := by omega
  have HLE := Lib.hid hl
  clear hl
  by_cases hE : E = 0
  case neg =>
    have e1 : (E != 0) = true := by simpa using hE
    clear hE
    go_wp2_with fail
    go_ret
    exact ⟨rfl, HB.out⟩
  subst hE
  obtain ⟨hc, g1, g2, g3, g4⟩ := lkE_zero HE.out
  obtain ⟨vn, rfl⟩ := Int.eq_ofNat_of_zero_le g1
  have HC := Lib.hid (show c.Strs from hc)
  have HV := Lib.hid (show vn < 2 by omega)
  have HT := Lib.hid (show c.thr = (c.shp.thr : Nat) ∧ 1 ≤ c.shp.thr ∧ c.shp.thr ≤ 16 by have := hc.1.1; have e : c.shp.thr = c.thr.toNat := rfl; omega)
  have HN := Lib.hid (all_le (May.small hc.1)).1
  have HL := Lib.hid (freshL_len c)
  rw [show checkE c = 0 by simp [checkE, hc.1]]
  have hfr : frL c = freshL c := by simp [frL, hc.1]
  have HR := Lib.hid (show Rd w3 fa fc (freshL c) by rw [← hfr]; exact HR.out)
  rw [hfr]
  clear hc g1 g2 g3 g4 hfr
  have hmk : ∀ W : World, (Instr.makeSlice 60 (.int .i64 c.thr) (.int .i64 c.thr)).run Tryd.prog W = .ok (.slice (some ⟨W.heap.size, 0, none⟩) c.shp.thr c.shp.thr) (W.alloc (boolsB c.shp.thr)) := by
    rw [HT.out.1]; exact make_bools _ (by have := HT.out; omega)
  go_wp2_with fail
  have HSZ := Lib.hid HX.out.lt
  refine (New_any fa fc (freshL c) _ HR.out (by have := HL.out; have := HN.out; omega)).mono ?_
  rintro e w4 ⟨p, mv, rfl, hm, ho, hpp, hwp, hb⟩
  have HX := Lib.hid (HX.out.below hb)
  have HB := Lib.hid (keepB hb HB.out)
  clear hb
  obtain ⟨av, cv, rfl, _, hav⟩ := own_form ho
  have HM := Lib.hid hm; have HO := Lib.hid ho; have HPP := Lib.hid hpp; have HWP := Lib.hid hwp
  clear hm ho hpp hwp hav
  have x2 := HX.out.c 2 rfl
  have x2a := fun o => (HX.out.alloc o).c 2 rfl
  go_wp2_with fail
  have hD := ((show DrW w c p w3.heap.size (freshL c).length av cv [] (freshL c) w4 from ⟨HB.out, HX.out, HM.out, HO.out, by simp, fun e => (by have := (World.ownsRow.lt HO.out _ e).1; have := HSZ.out; omega), HPP.out, by simp, rfl, HSZ.out⟩).new 4 (boolsV (List.replicate c.shp.thr false))).new 4 (boolsV (List.replicate c.shp.thr false))
  have hpH := HM.out.lt
  have hwH := HX.out.lt
  rw [World.size_alloc] at hD
  have HDD := Lib.hid (show DrW w c p w3.heap.size (freshL c).length av cv [(w4.heap.size + 1, boolsV (List.replicate c.shp.thr false)), (w4.heap.size, boolsV (List.replicate c.shp.thr false))] (freshL c) ((w4.alloc (boolsB c.shp.thr)).alloc (boolsB c.shp.thr)) from hD)
  clear hD x2 x2a hmk HM HO HPP HX HB HR HWP
  generalize (w4.alloc _).alloc _ = Z0 at *
  generalize w4.heap.size = H at *
  generalize w3.heap.size = B at *
  generalize hn : (freshL c).length = n at *
  have HM0 := Lib.hid (bd_start (v := vn) HC.out HV.out)
  clear hn
  generalize freshL c = l0 at *
  have HPH := Lib.hid hpH; have HWH := Lib.hid hwH
  clear hpH hwH
  go_loopw [16] (fun i wr => ∃ (q : Nat) (l : List Cel) (hs os : List Bool), i = .int .i64 (q : Nat) ∧ q ≤ l3 ∧ DrW w c p B n av cv [(H + 1, boolsV os), (H, boolsV hs)] l wr ∧ BdI c vn l hs os q) (fun i _ => l3 - (intOf i).toNat)
  case atStart => exact ⟨0, _, _, _, rfl, Nat.zero_le _, HDD.out, HM0.out⟩
  case round =>
    obtain ⟨q, l, hs, os, rfl, hq, hD, hM⟩ := hrel
    have HD := Lib.hid hD; have HM := Lib.hid hM
    have HQ := Lib.hid (show q ≤ 1000000 by have := HLE.out; omega)
    have hx := hD.cfg
    unfold cfgL at hx
    have x0 := hx.c 0 rfl
    have x1 := hx.c 1 rfl
    have x2 := hx.c 2 rfl
    have x3 := hx.c 3 rfl
    have x4 := hx.c 4 rfl
    have x5 := hx.c 5 rfl
    have x6 := hx.c 6 rfl
    have x7 := hx.c 7 rfl
    have x8 := hx.c 8 rfl
    have x9 := hx.c 9 rfl
    have x10 := hx.c 10 rfl
    have x11 := hx.c 11 rfl
    clear hD hM hx HDD
    by_cases hlt : q < l3
    · have i2 : (q : Int) < (l3 : Int) := by omega
      obtain ⟨b3, o3, rfl⟩ := HI.out.addr (show 0 < l3 by omega)
      have s0 := (HI.out.below HD.out.below).get hlt
      have hs3 := HST.out q hlt
      obtain ⟨t, ht, htl⟩ : ∃ t : Nat, (st q).tmod c.thr = (t : Int) ∧ t < c.shp.thr := by
        have h1 := HT.out
        rw [Int.tmod_eq_emod_of_nonneg hs3.1]
        have h2 := Int.emod_nonneg (st q) (show c.thr ≠ 0 by omega)
        have h3 := Int.emod_lt_of_pos (st q) (show 0 < c.thr by omega)
        exact ⟨(st q % c.thr).toNat, by omega, by omega⟩
      have hwr : IntKind.i64.wrap (st q) = st q := by rw [IntKind.wrap_i64]; omega
      have hz : c.thr ≠ 0 := by have := HT.out; omega
      go_wp2_with fail
      go_quiet (fail)
      have HD := Lib.hid (HD.out.next (below_drewN (Below.refl _ _) nq))
      clear s0 hs3 hwr hz ht x0 x1 x2 x3 x4 x5 x6 x7 x8 x9 x10 x11
      generalize wr.drewN nq = wx at *
      have hx := HD.out.cfg
      unfold cfgL at hx
      have x0 := hx.c 0 rfl
      have x1 := hx.c 1 rfl
      have x2 := hx.c 2 rfl
      have x3 := hx.c 3 rfl
      have x4 := hx.c 4 rfl
      have x5 := hx.c 5 rfl
      have x6 := hx.c 6 rfl
      have x7 := hx.c 7 rfl
      have x8 := hx.c 8 rfl
      have x9 := hx.c 9 rfl
      have x10 := hx.c 10 rfl
      have x11 := hx.c 11 rfl
      clear hx
      have HHL := Lib.hid (show hs.length = c.shp.thr from HM.out.st.hl); have HOL := Lib.hid (show os.length = c.shp.thr from HM.out.ot)
      have i5 : (t : Int) < (c.shp.thr : Int) := by omega
      have it : (t : Int) < c.thr := by rw [HT.out.1]; omega
      have hlong : l3 ≤ 300 := by have := HLE.out; omega
      cases hh : hs.getD t false
      · have hc0 : (boolsV hs)[t]? = some (.bool false) := (boolsV_at (by rw [HHL.out]; exact htl)).trans (by rw [hh])
        cases ho : os.getD t false
        · have hc1 : (boolsV os)[t]? = some (.bool false) := (boolsV_at (by rw [HOL.out]; exact htl)).trans (by rw [ho])
          have b0 := (HD.out.bx (H, boolsV hs) (by simp)).c t hc0
          have b1 := (HD.out.bx (H + 1, boolsV os) (by simp)).c t hc1
          go_wp2_with fail
          clear b0 b1
          refine (sArrive_any c vn t wx (HP.out.more HD.out.below)).mono ?_
          rintro e u1 ⟨rfl, hb⟩
          obtain ⟨e1, e2⟩ := sarr_at HC.out HV.out it
          rw [e2, e1]
          have hmq := (cnt_lt HC.out HV.out (modK HC.out t).2).2.2.2.2.2
          have HD := Lib.hid (HD.out.next hb)
          clear x0 x1 x2 x3 x4 x5 x6 x7 x8 x9 x10 x11 hb e1 e2
          have HMK := Lib.hid (fun (fl : Bool) (hfl : fl = decide (c.most ≤ (((l.getD (inB c vn + t % c.shp.str) .zero).a : Nat) : Int))) => HM.out.arrive HC.out HV.out htl HQ.out hh ho hfl)
          generalize hn1 : inB c vn + t % c.shp.str = m at *
          have hml : m < l.length := by rw [HD.out.len, HL.out]; exact hmq
          obtain ⟨d1, d2, d3⟩ := do_add (l := l) (m := m) hml
          have HD1 := Lib.hid d1; have HD2 := Lib.hid d2; have HD3 := Lib.hid d3
          clear d1 d2 d3 hml hmq hn1
          have b0 := fun (o : Obj) => ((HD.out.bx (H, boolsV hs) (by simp)).alloc o).c t hc0
          go_wp2_with fail
          have HD := Lib.hid (HD.out.alloc (.cells ⟨[.int .u8 4, .int .i64 (m : Int), .int .u64 0, .int .u64 0, .int .u64 0, .int .u64 0, .int .u64 0, .int .u64 1, .int .u64 0, .int .u64 0]⟩ 28))
          clear b0
          generalize u1.alloc _ = u1' at *
          refine (Do_len p cv B n av l ⟨4, (m : Nat), ⟨0, 0, 0, 0⟩, ⟨0, 1, 0, 0⟩⟩ u1' HD.out.len HD.out.mem HD.out.own HD.out.fp).mono ?_
          rintro e u2 ⟨rfl, ho', hg⟩
          have HD := Lib.hid (HD.out.did ho' hg)
          rw [HD2.out, HD3.out]
          rw [HD1.out] at HD
          clear ho' hg
          generalize l.getD m .zero = x at *
          obtain ⟨xt, xa, xb, xc⟩ := x
          have hx := HD.out.cfg
          unfold cfgL at hx
          have x0 := fun (o : Obj) => (hx.alloc o).c 0 rfl
          have x1 := fun (o : Obj) => (hx.alloc o).c 1 rfl
          have x2 := fun (o : Obj) => (hx.alloc o).c 2 rfl
          have x3 := fun (o : Obj) => (hx.alloc o).c 3 rfl
          have x4 := fun (o : Obj) => (hx.alloc o).c 4 rfl
          have x5 := fun (o : Obj) => (hx.alloc o).c 5 rfl
          have x6 := fun (o : Obj) => (hx.alloc o).c 6 rfl
          have x7 := fun (o : Obj) => (hx.alloc o).c 7 rfl
          have x8 := fun (o : Obj) => (hx.alloc o).c 8 rfl
          have x9 := fun (o : Obj) => (hx.alloc o).c 9 rfl
          have x10 := fun (o : Obj) => (hx.alloc o).c 10 rfl
          have x11 := fun (o : Obj) => (hx.alloc o).c 11 rfl
          clear hx
          go_wp2_with fail
          have HD := Lib.hid (HD.out.alloc (.cells ⟨[.int .u64 xt, .int .u64 xa, .int .u64 xb, .int .u64 xc, .bool true]⟩ 62))
          clear x0 x1 x2 x3 x4 x5 x6 x7 x8 x9 x10 x11
          generalize u2.alloc _ = u2' at *
          refine (sFull_any c xt xa xb xc u2').mono ?_
          rintro e u3 ⟨rfl, hb⟩
          have HD := Lib.hid (HD.out.next hb)
          clear hb
          rw [show fullE c = 0 from if_pos HC.out, show fullB c (xa : Int) = decide (c.most ≤ (xa : Int)) from if_pos HC.out]
          generalize hfl : decide (c.most ≤ (xa : Int)) = fl
          have HFL := Lib.hid hfl
          clear hfl
          have b0 := (HD.out.bx (H, boolsV hs) (by simp)).c t hc0
          have b1 := (HD.out.bx (H + 1, boolsV os) (by simp)).c t hc1
          have f0 := (HD.out.bx (H, boolsV hs) (by simp)).f t
          have f1 := (HD.out.bx (H + 1, boolsV os) (by simp)).f t
          go_wp2_with fail
          have hPP : p ≠ H := Nat.ne_of_lt HPH.out
          have hD2 := HD.out.putAt (f1 := [(H + 1, boolsV os)]) (f2 := []) (g := H) (cs := boolsV hs) t (.bool true) HWH.out hPP (by simp) (by simp)
          have hD3 := hD2.putAt (f1 := []) (f2 := [(H, (boolsV hs).set t (.bool true))]) (g := H + 1) (cs := boolsV os) t (.bool fl) (by have := HWH.out; omega) (by have := HPH.out; omega) (by simp) (by simp)
          rw [← boolsV_set, ← boolsV_set] at hD3
          refine ⟨⟨q + 1, _, hs.set t true, os.set t fl, congrArg (Value.int .i64) (by omega), by omega, hD3, HMK.out fl HFL.out.symm⟩, ?_⟩
          simp [intOf]; omega
        · have hc1 : (boolsV os)[t]? = some (.bool true) := (boolsV_at (by rw [HOL.out]; exact htl)).trans (by rw [ho])
          have b0 := (HD.out.bx (H, boolsV hs) (by simp)).c t hc0
          have b1 := (HD.out.bx (H + 1, boolsV os) (by simp)).c t hc1
          go_wp2_with fail
          refine ⟨⟨q + 1, l, hs, os, congrArg (Value.int .i64) (by omega), by omega, HD.out, HM.out.more (by omega)⟩, ?_⟩
          simp [intOf]; omega
      · have hc0 : (boolsV hs)[t]? = some (.bool true) := (boolsV_at (by rw [HHL.out]; exact htl)).trans (by rw [hh])
        have HMK := Lib.hid (HM.out.depart HC.out HV.out htl HQ.out hh)
        cases ho : os.getD t false
        all_goals
          have hc1 := (boolsV_at (l := os) (i := t) (by rw [HOL.out]; exact htl)).trans (congrArg (fun b => some (Value.bool b)) ho)
          rw [ho] at HMK
          have b0 := (HD.out.bx (H, boolsV hs) (by simp)).c t hc0
          have b1 := (HD.out.bx (H + 1, boolsV os) (by simp)).c t hc1
          go_wp2_with fail
          clear b0 b1
          refine (sArrive_any c vn t wx (HP.out.more HD.out.below)).mono ?_
          rintro e u1 ⟨rfl, hb⟩
          obtain ⟨e1, e2⟩ := sarr_at HC.out HV.out it
          rw [e2, e1]
          have hmo := (cnt_lt HC.out HV.out (modK HC.out t).2).2.2.2.2.1
          have HD := Lib.hid (HD.out.next hb)
          clear x0 x1 x2 x3 x4 x5 x6 x7 x8 x9 x10 x11 hb e1 e2
          obtain ⟨e1, e2⟩ := sdep_at HC.out HV.out it
          have E1 := Lib.hid e1; have E2 := Lib.hid e2
          clear e1 e2
          generalize hn1 : inB c vn + t % c.shp.str = m at *
          generalize hn2 : outB c vn + t % c.shp.str = mo at *
          have hml : mo < l.length := by rw [HD.out.len, HL.out]; exact hmo
          obtain ⟨d1, d2, d3⟩ := do_add (l := l) (m := mo) hml
          have HD1 := Lib.hid d1; have HD2 := Lib.hid d2; have HD3 := Lib.hid d3
          have b0 := fun (o : Obj) => ((HD.out.bx (H, boolsV hs) (by simp)).alloc o).c t hc0
          have hx := HD.out.cfg
          unfold cfgL at hx
          have x0 := fun (o : Obj) => (hx.alloc o).c 0 rfl
          have x1 := fun (o : Obj) => (hx.alloc o).c 1 rfl
          have x2 := fun (o : Obj) => (hx.alloc o).c 2 rfl
          have x3 := fun (o : Obj) => (hx.alloc o).c 3 rfl
          have x4 := fun (o : Obj) => (hx.alloc o).c 4 rfl
          have x5 := fun (o : Obj) => (hx.alloc o).c 5 rfl
          have x6 := fun (o : Obj) => (hx.alloc o).c 6 rfl
          have x7 := fun (o : Obj) => (hx.alloc o).c 7 rfl
          have x8 := fun (o : Obj) => (hx.alloc o).c 8 rfl
          have x9 := fun (o : Obj) => (hx.alloc o).c 9 rfl
          have x10 := fun (o : Obj) => (hx.alloc o).c 10 rfl
          have x11 := fun (o : Obj) => (hx.alloc o).c 11 rfl
          clear hx d1 d2 d3 hml hmo hn1 hn2
          go_wp2_with fail
          have hHA := (HD.out.bx (H + 1, boolsV os) (by simp)).lt
          have HD := Lib.hid (HD.out.new 28 [.int .u8 4, .int .i64 (m : Int), .int .u64 0, .int .u64 0, .int .u64 0, .int .u64 0, .int .u64 0, .int .u64 1, .int .u64 0, .int .u64 0])
          clear x0 x1 x2 x3 x4 x5 x6 x7 x8 x9 x10 x11 b0
          generalize u1.alloc _ = v1 at *
          generalize u1.heap.size = A at *
          refine (sDepart_any c vn t v1 (HP.out.more HD.out.below)).mono ?_
          rintro e u2 ⟨rfl, hb⟩
          rw [E2.out, E1.out]
          have HD := Lib.hid (HD.out.next hb)
          have HHA := Lib.hid hHA
          clear hb hHA
          have hA := HD.out.bx (A, [.int .u8 4, .int .i64 (m : Int), .int .u64 0, .int .u64 0, .int .u64 0, .int .u64 0, .int .u64 0, .int .u64 1, .int .u64 0, .int .u64 0]) (by simp)
          have r0 := hA.c 0 rfl
          have r1 := hA.c 1 rfl
          have r2 := hA.c 2 rfl
          have r3 := hA.c 3 rfl
          have r4 := hA.c 4 rfl
          have r5 := hA.c 5 rfl
          have r6 := hA.c 6 rfl
          have r7 := hA.c 7 rfl
          have r8 := hA.c 8 rfl
          have r9 := hA.c 9 rfl
          have g0 := hA.f 0
          have g1 := hA.f 1
          have g2 := hA.f 2
          have g3 := hA.f 3
          have g4 := hA.f 4
          have g5 := hA.f 5
          have g6 := hA.f 6
          have g7 := hA.f 7
          have g8 := hA.f 8
          have g9 := hA.f 9
          clear hA
          go_wp2_with fail
          clear r0 r1 r2 r3 r4 r5 r6 r7 r8 r9 g0 g1 g2 g3 g4 g5 g6 g7 g8 g9
          have HD := Lib.hid (HD.out.acc (.int .u8 4) (.int .i64 (mo : Int)) (.int .u64 0) (.int .u64 0) (.int .u64 0) (.int .u64 0) (.int .u64 0) (.int .u64 1) (.int .u64 0) (.int .u64 0) (by have := HHA.out; have := HWH.out; omega) (by have := HHA.out; have := HPH.out; omega) (by have := HHA.out; simp; omega))
          generalize World.setCell _ _ _ = Z at *
          refine (Do_len p cv B n av l ⟨4, (mo : Nat), ⟨0, 0, 0, 0⟩, ⟨0, 1, 0, 0⟩⟩ Z HD.out.len HD.out.mem HD.out.own HD.out.fp).mono ?_
          rintro e u3 ⟨rfl, ho', hg⟩
          have HD := Lib.hid (HD.out.did ho' hg)
          rw [HD2.out, HD3.out]
          rw [HD1.out] at HD
          clear ho' hg
          generalize l.getD mo .zero = x at *
          obtain ⟨xt, xa, xb, xc⟩ := x
          have hx := HD.out.cfg
          unfold cfgL at hx
          have x0 := fun (o : Obj) => (hx.alloc o).c 0 rfl
          have x1 := fun (o : Obj) => (hx.alloc o).c 1 rfl
          have x2 := fun (o : Obj) => (hx.alloc o).c 2 rfl
          have x3 := fun (o : Obj) => (hx.alloc o).c 3 rfl
          have x4 := fun (o : Obj) => (hx.alloc o).c 4 rfl
          have x5 := fun (o : Obj) => (hx.alloc o).c 5 rfl
          have x6 := fun (o : Obj) => (hx.alloc o).c 6 rfl
          have x7 := fun (o : Obj) => (hx.alloc o).c 7 rfl
          have x8 := fun (o : Obj) => (hx.alloc o).c 8 rfl
          have x9 := fun (o : Obj) => (hx.alloc o).c 9 rfl
          have x10 := fun (o : Obj) => (hx.alloc o).c 10 rfl
          have x11 := fun (o : Obj) => (hx.alloc o).c 11 rfl
          clear hx
          go_wp2_with fail
          have HD := Lib.hid (HD.out.alloc (.cells ⟨[.int .u64 xt, .int .u64 xa, .int .u64 xb, .int .u64 xc, .bool true]⟩ 62))
          clear x0 x1 x2 x3 x4 x5 x6 x7 x8 x9 x10 x11
          generalize u3.alloc _ = u3' at *
          refine (sFull_any c xt xa xb xc u3').mono ?_
          rintro e u4 ⟨rfl, hb⟩
          have HD := Lib.hid (HD.out.next hb)
          clear hb
          rw [show fullE c = 0 from if_pos HC.out]
          generalize fullB c (xa : Int) = fl
          have b0 := (HD.out.bx (H, boolsV hs) (by simp)).c t hc0
          have b1 := (HD.out.bx (H + 1, boolsV os) (by simp)).c t hc1
          have f0 := (HD.out.bx (H, boolsV hs) (by simp)).f t
          have f1 := (HD.out.bx (H + 1, boolsV os) (by simp)).f t
          go_wp2_with fail
          have hPP : p ≠ H := Nat.ne_of_lt HPH.out
          have hD1 := HD.out.with (gs := [(H + 1, boolsV os), (H, boolsV hs)]) (fun x hx => HD.out.bx x (List.mem_cons_of_mem _ hx)) (fun x hx => HD.out.ff x (List.mem_cons_of_mem _ hx))
          have hD2 := hD1.putAt (f1 := [(H + 1, boolsV os)]) (f2 := []) (g := H) (cs := boolsV hs) t (.bool false) HWH.out hPP (by simp) (by simp)
          have hD3 := hD2.putAt (f1 := []) (f2 := [(H, (boolsV hs).set t (.bool false))]) (g := H + 1) (cs := boolsV os) t (.bool (os.getD t false)) (by have := HWH.out; omega) (by have := HPH.out; omega) (by simp) (by simp)
          rw [← boolsV_set, ← boolsV_set, ho] at hD3
          refine ⟨⟨q + 1, _, hs.set t false, os.set t _, congrArg (Value.int .i64) (by omega), by omega, hD3, HMK.out.more (by omega)⟩, ?_⟩
          simp [intOf]; omega
    · obtain rfl : q = l3 := by omega
      have i2 : (q : Int) ≤ (q : Int) := Int.le_refl _
      go_wp2_with fail
      refine (MemCells_any p B _ l wr HD.out.mem HD.out.own (by have := HD.out.len; have := HL.out; have := HN.out; omega)).mono ?_
      rintro e u1 ⟨v2, rfl, ho2, hb2⟩
      obtain ⟨ra, rc, rfl, hR2, _⟩ := own_form ho2
      have HD := Lib.hid (HD.out.next hb2)
      have HR2 := Lib.hid hR2
      clear ho2 hb2 hR2 x0 x1 x2 x3 x4 x5 x6 x7 x8 x9 x10 x11 i2
      go_wp2_with fail
      go_loopw [25] (fun i wr => ∃ (k : Nat), i = .int .i64 (k : Nat) ∧ k ≤ c.shp.str ∧ DrW w c p B n av cv [(H + 1, boolsV os), (H, boolsV hs)] l wr ∧ Rd wr ra rc l) (fun i _ => c.shp.str - (intOf i).toNat)
      case atStart => exact ⟨0, rfl, Nat.zero_le _, HD.out, HR2.out⟩
      case round =>
        clear HD HR2
        obtain ⟨k, rfl, hk, hD, hR⟩ := hrel
        have HD := Lib.hid hD; have HR2 := Lib.hid hR
        have hx := hD.cfg
        unfold cfgL at hx
        have x0 := hx.c 0 rfl
        have x1 := hx.c 1 rfl
        have x2 := hx.c 2 rfl
        have x3 := hx.c 3 rfl
        have x4 := hx.c 4 rfl
        have x5 := hx.c 5 rfl
        have x6 := hx.c 6 rfl
        have x7 := hx.c 7 rfl
        have x8 := hx.c 8 rfl
        have x9 := hx.c 9 rfl
        have x10 := hx.c 10 rfl
        have x11 := hx.c 11 rfl
        clear hD hR hx
        have HSC := Lib.hid (str_cast HC.out)
        by_cases hkl : k < c.shp.str
        · have i3 : (k : Int) < c.str := by rw [HSC.out.1]; omega
          have hk4 : k < 4 := by have := HSC.out; omega
          go_wp2_with fail
          refine (At_any c 7 vn k _ (HP.out.more HD.out.below) (by omega)).mono ?_
          rintro e u2 ⟨rfl, hb⟩
          have HD := Lib.hid (HD.out.next hb)
          have HR2 := Lib.hid (HR2.out.below hb)
          rw [inB_at HC.out HV.out i3, count_e HC.out (.inl rfl) ⟨by omega, i3⟩, if_pos ⟨by omega, by have := HV.out; omega⟩]
          clear x0 x1 x2 x3 x4 x5 x6 x7 x8 x9 x10 x11 hb
          have hx := HD.out.cfg
          unfold cfgL at hx
          have x0 := hx.c 0 rfl
          have x1 := hx.c 1 rfl
          have x2 := hx.c 2 rfl
          have x3 := hx.c 3 rfl
          have x4 := hx.c 4 rfl
          have x5 := hx.c 5 rfl
          have x6 := hx.c 6 rfl
          have x7 := hx.c 7 rfl
          have x8 := hx.c 8 rfl
          have x9 := hx.c 9 rfl
          have x10 := hx.c 10 rfl
          have x11 := hx.c 11 rfl
          clear hx
          obtain ⟨c1, _, _, _, c5, c6⟩ := cnt_lt HC.out HV.out hkl
          obtain ⟨hf1, hf2⟩ := HM.out.fin hkl
          unfold inN at hf1
          unfold inN outN at hf2
          have hm2 := outB_at HC.out HV.out i3
          generalize inB c vn + k = m1 at *
          generalize outB c vn + k = m2 at hf2 c5 hm2
          have HM2 := Lib.hid hm2; have HC5 := Lib.hid c5; have HC6 := Lib.hid c6
          clear hm2 c1 c5 c6
          go_wp2_with fail
          refine (At_any c 8 vn k _ (HP.out.more HD.out.below) (by omega)).mono ?_
          rintro e u3 ⟨rfl, hb⟩
          have HD := Lib.hid (HD.out.next hb)
          have HR2 := Lib.hid (HR2.out.below hb)
          rw [HM2.out, count_e HC.out (.inr rfl) ⟨by omega, i3⟩, if_pos ⟨by omega, by have := HV.out; omega⟩]
          clear x0 x1 x2 x3 x4 x5 x6 x7 x8 x9 x10 x11 hb
          have hx := HD.out.cfg
          unfold cfgL at hx
          have x0 := hx.c 0 rfl
          have x1 := hx.c 1 rfl
          have x2 := hx.c 2 rfl
          have x3 := hx.c 3 rfl
          have x4 := hx.c 4 rfl
          have x5 := hx.c 5 rfl
          have x6 := hx.c 6 rfl
          have x7 := hx.c 7 rfl
          have x8 := hx.c 8 rfl
          have x9 := hx.c 9 rfl
          have x10 := hx.c 10 rfl
          have x11 := hx.c 11 rfl
          clear hx
          have hl1 : m1 < l.length := by have := HM.out.st.len; have := HC6.out; omega
          have hl2 : m2 < l.length := by have := HM.out.st.len; have := HC5.out; omega
          obtain ⟨rb, ro, rfl⟩ := HR2.out.addr hl1
          have y1 := (HR2.out.get (k := m1) (y := l.getD m1 .zero) (by rw [List.getD_eq_getElem?_getD, List.getElem?_eq_getElem hl1]; rfl)).2.1
          have y2 := (HR2.out.get (k := m2) (y := l.getD m2 .zero) (by rw [List.getD_eq_getElem?_getD, List.getElem?_eq_getElem hl2]; rfl)).2.1
          have hmo : 1 ≤ c.most ∧ c.most ≤ 4611686018427387904 := by
            have h1 := HC.out.1.2.2.1
            have h2 := HC.out.2
            omega
          generalize (l.getD m1 .zero).a = ia at *
          generalize (l.getD m2 .zero).a = oa at *
          obtain ⟨ib, hib⟩ : ∃ ib : Int, (ia : Int) = ib := ⟨_, rfl⟩
          obtain ⟨ob, hob⟩ : ∃ ob : Int, (oa : Int) = ob := ⟨_, rfl⟩
          rw [hib] at y1
          rw [hob] at y2
          have z1 : (0 : Int) ≤ (m1 : Int) := by omega
          have z2 : (0 : Int) ≤ (m2 : Int) := by omega
          have z3 : (m1 : Int) < (l.length : Int) := by omega
          have z4 : (m2 : Int) < (l.length : Int) := by omega
          obtain ⟨T, hT⟩ : ∃ T : Int, T = c.most + c.thr := ⟨_, rfl⟩
          have w1 : IntKind.u64.wrap c.thr = c.thr := by have := HT.out; rw [IntKind.wrap_u64]; omega
          have w2 : IntKind.u64.wrap (c.most + c.thr) = T := by have := HT.out; rw [hT, IntKind.wrap_u64]; omega
          have g1 : ib ≤ T := by have := HT.out; omega
          have g2 : ob ≤ ib := by omega
          have hll : l.length ≤ 715 := by have := HM.out.st.len; have := HN.out; have := HL.out; omega
          clear hib hob hT hf1 hf2 hmo hl1 hl2
          go_wp2_with fail
          go_quiet (fail)
          have HD := Lib.hid (HD.out.next (below_drewN (Below.refl _ _) nq))
          have HR2 := Lib.hid (HR2.out.below (below_drewN (Below.refl _ _) nq))
          clear x0 x1 x2 x3 x4 x5 x6 x7 x8 x9 x10 x11 y1 y2
          generalize World.drewN _ nq = wy at *
          go_wp2_with fail
          go_roundw
          case rel => exact ⟨k + 1, by go_num, by omega, HD.out, HR2.out⟩
          case measure => simp [intOf]; omega
        · obtain rfl : k = c.shp.str := by omega
          have i3 : c.str ≤ (c.shp.str : Int) := by rw [HSC.out.1]; exact Int.le_refl _
          go_wp2_with fail
          go_ret
          exact ⟨rfl, HD.out.below⟩

set_option linter.unusedVariables false in
theorem walk_StripeBound (n0_0 n0_1 n0_2 n0_3 n0_4 n0_5 n0_6 n0_7 n0_8 n0_9 n0_10 n0_11 n1 : Int) (a2 : Option Addr) (l2 c2 : Nat) (w : World) (b0_0 : IntKind.u8.min ≤ n0_0 ∧ n0_0 ≤ IntKind.u8.max) (b0_1 : IntKind.i64.min ≤ n0_1 ∧ n0_1 ≤ IntKind.i64.max) (b0_2 : IntKind.i64.min ≤ n0_2 ∧ n0_2 ≤ IntKind.i64.max) (b0_3 : IntKind.u8.min ≤ n0_3 ∧ n0_3 ≤ IntKind.u8.max) (b0_4 : IntKind.i64.min ≤ n0_4 ∧ n0_4 ≤ IntKind.i64.max) (b0_5 : IntKind.i64.min ≤ n0_5 ∧ n0_5 ≤ IntKind.i64.max) (b0_6 : IntKind.i64.min ≤ n0_6 ∧ n0_6 ≤ IntKind.i64.max) (b0_7 : IntKind.i64.min ≤ n0_7 ∧ n0_7 ≤ IntKind.i64.max) (b0_8 : IntKind.i64.min ≤ n0_8 ∧ n0_8 ≤ IntKind.i64.max) (b0_9 : IntKind.i64.min ≤ n0_9 ∧ n0_9 ≤ IntKind.i64.max) (b0_10 : IntKind.u64.min ≤ n0_10 ∧ n0_10 ≤ IntKind.u64.max) (b0_11 : IntKind.u64.min ≤ n0_11 ∧ n0_11 ≤ IntKind.u64.max) (b1 : IntKind.i64.min ≤ n1 ∧ n1 ≤ IntKind.i64.max) (s2 : Fra.Slc w [.u8] a2 l2 c2) (hp : Pw w) :
    Calls Tryd.prog 13 #[.agg #[.int .u8 n0_0, .int .i64 n0_1, .int .i64 n0_2, .int .u8 n0_3, .int .i64 n0_4, .int .i64 n0_5, .int .i64 n0_6, .int .i64 n0_7, .int .i64 n0_8, .int .i64 n0_9, .int .u64 n0_10, .int .u64 n0_11], .int .i64 n1, .slice a2 l2 c2] w fun e w' => e = .returned (.bool true) ∧ Below w.heap.size w w' := by
  obtain ⟨st, h1, h2⟩ := slc_ints s2
  simp [IntKind.min, IntKind.max, IntKind.signed, IntKind.bits] at h2
  exact bound20_walk ⟨n0_0, n0_1, n0_2, n0_3, n0_4, n0_5, n0_6, n0_7, n0_8, n0_9, n0_10, n0_11⟩ n1 a2 l2 c2 st w hp h1 h2

end Go.Proofs.YtdabhkbmdmlgcaaDoor

