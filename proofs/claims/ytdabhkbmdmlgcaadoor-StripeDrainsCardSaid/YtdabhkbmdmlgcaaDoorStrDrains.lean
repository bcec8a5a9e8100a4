/- The walk of StripeDrains. -/
import Derived.Test.YtdabhkbmdmlgcaaDoorAlive20
import Derived.Test.YtdabhkbmdmlgcaaDoorBoolsM
import Derived.Test.YtdabhkbmdmlgcaaDoorPartN
import Derived.Test.YtdabhkbmdmlgcaaDoorRdI
import Derived.Test.YtdabhkbmdmlgcaaDoorStrAt
import Derived.Test.YtdabhkbmdmlgcaaDoorCellRun
namespace Go.Proofs.YtdabhkbmdmlgcaaDoor
open Go.RowKit

set_option maxRecDepth 100000 in
set_option maxHeartbeats 12800000 in
theorem drains20_walk (c : Cfg) (v th : Int) (a3 : Option Addr) (l3 c3 : Nat) (st : Nat → Int) (w : World) (hp : Pw w) (hI : RdI w .u8 a3 l3 st) (hst : ∀ i, i < l3 → 0 ≤ st i ∧ st i ≤ 255) (hth : 0 ≤ th ∧ th ≤ 65535) :
    Calls Tryd.prog 12 #[.agg #[.int .u8 c.ob, .int .i64 c.inst, .int .i64 c.thr, .int .u8 c.kd, .int .i64 c.str, .int .i64 c.bits, .int .i64 c.cap, .int .i64 c.node, .int .i64 c.bat, .int .i64 c.chk, .int .u64 c.lim, .int .u64 c.most], .int .i64 v, .int .u16 th, .slice a3 l3 c3] w fun e w' => e = .returned (.bool true) ∧ Below w.heap.size w w' := by
  have HP := Lib.hid hp; have HI := Lib.hid hI; have HST := Lib.hid hst; have HTH := Lib.hid hth
  clear hp hI hst hth
  go_enter Tryd.func12, Tryd.ntmps12
  go_wp2_with fail
  have HX := Lib.hid (Box.new w 24 (cfgL c))
  have HB := Lib.hid (newB w (.cells ⟨cfgL c⟩ 24))
  unfold cfgL at *
  generalize w.alloc _ = V at *
  refine (alive20_any V (HP.out.more HB.out)).mono ?_
  rintro e w1 ⟨rfl, hb⟩
  have HB := Lib.hid (keepB hb HB.out); have HX := Lib.hid (HX.out.below hb); clear hb
  have x0 := HX.out.c 0 rfl; have x1 := HX.out.c 1 rfl; have x2 := HX.out.c 2 rfl; have x3 := HX.out.c 3 rfl; have x4 := HX.out.c 4 rfl; have x5 := HX.out.c 5 rfl; have x6 := HX.out.c 6 rfl; have x7 := HX.out.c 7 rfl; have x8 := HX.out.c 8 rfl; have x9 := HX.out.c 9 rfl; have x10 := HX.out.c 10 rfl; have x11 := HX.out.c 11 rfl
  go_wp2_with fail
  refine (sLook_any c v 0 0 0 w1 (HP.out.more HB.out) (by decide)).mono ?_
  rintro e w2 ⟨rfl, hb⟩
  generalize hq1 : lkA c v 0 = p1
  generalize hq2 : lkE c v 0 = E
  have HE := Lib.hid hq2
  clear hq1 hq2
  rw [accV_form]
  clear x0 x1 x2 x3 x4 x5 x6 x7 x8 x9 x10 x11
  have HB := Lib.hid (keepB hb HB.out); have HX := Lib.hid (HX.out.below hb); clear hb
  have x0 := fun o => (HX.out.alloc o).c 0 rfl; have x1 := fun o => (HX.out.alloc o).c 1 rfl; have x2 := fun o => (HX.out.alloc o).c 2 rfl; have x3 := fun o => (HX.out.alloc o).c 3 rfl; have x4 := fun o => (HX.out.alloc o).c 4 rfl; have x5 := fun o => (HX.out.alloc o).c 5 rfl; have x6 := fun o => (HX.out.alloc o).c 6 rfl; have x7 := fun o => (HX.out.alloc o).c 7 rfl; have x8 := fun o => (HX.out.alloc o).c 8 rfl; have x9 := fun o => (HX.out.alloc o).c 9 rfl; have x10 := fun o => (HX.out.alloc o).c 10 rfl; have x11 := fun o => (HX.out.alloc o).c 11 rfl
  go_wp2_with fail
  refine (Fresh_any c _ (HP.out.more (moreB HB.out _))).mono ?_
  rintro e w3 ⟨fa, fc, rfl, hR, hb⟩
  have HR := Lib.hid hR
  clear x0 x1 x2 x3 x4 x5 x6 x7 x8 x9 x10 x11
  have HB := Lib.hid (keepB hb (moreB HB.out _)); have HX := Lib.hid ((HX.out.alloc _).below hb)
  clear hb hR
  by_cases hl : 200 < l3
  · have i1 : (200 : Int) < (l3 : Int) := by omega
    go_wp2_with fail
    go_ret
    exact ⟨rfl, HB.out⟩
  have i1 : (l3 : Int) ≤ (200 : Int) := by omega
  have HLE := Lib.hid hl
  clear hl
  by_cases hE : E = 0
  case neg =>
    have e1 : (E != 0) = true := by simpa using hE
    clear hE
    go_wp2_with fail
    go_ret
    exact ⟨rfl, HB.out⟩
  subst hE
  obtain ⟨hc, g1, g2, g3, g4⟩ := lkE_zero HE.out
  obtain ⟨vn, rfl⟩ := Int.eq_ofNat_of_zero_le g1
  have HC := Lib.hid (show c.Strs from hc)
  have HV := Lib.hid (show vn < 2 by omega)
  have HT := Lib.hid (show c.thr = (c.shp.thr : Nat) ∧ 1 ≤ c.shp.thr ∧ c.shp.thr ≤ 16 by have := hc.1.1; have e : c.shp.thr = c.thr.toNat := rfl; omega)
  have HN := Lib.hid (all_le (May.small hc.1)).1
  have HL := Lib.hid (freshL_len c)
  rw [show checkE c = 0 by simp [checkE, hc.1]]
  have hfr : frL c = freshL c := by simp [frL, hc.1]
  have HR := Lib.hid (show Rd w3 fa fc (freshL c) by rw [← hfr]; exact HR.out)
  rw [hfr]
  clear hc g1 g2 g3 g4 hfr
  have hmk : ∀ W : World, (Instr.makeSlice 60 (.int .i64 c.thr) (.int .i64 c.thr)).run Tryd.prog W = .ok (.slice (some ⟨W.heap.size, 0, none⟩) c.shp.thr c.shp.thr) (W.alloc (boolsB c.shp.thr)) := by
    rw [HT.out.1]; exact make_bools _ (by have := HT.out; omega)
  go_wp2_with fail
  have HSZ := Lib.hid HX.out.lt
  refine (New_any fa fc (freshL c) _ HR.out (by have := HL.out; have := HN.out; omega)).mono ?_
  rintro e w4 ⟨p, mv, rfl, hm, ho, hpp, hwp, hb⟩
  have HX := Lib.hid (HX.out.below hb)
  have HB := Lib.hid (keepB hb HB.out)
  clear hb
  obtain ⟨av, cv, rfl, _, hav⟩ := own_form ho
  have HM := Lib.hid hm; have HO := Lib.hid ho; have HPP := Lib.hid hpp; have HWP := Lib.hid hwp
  clear hm ho hpp hwp hav
  have x2 := HX.out.c 2 rfl
  have x2a := fun o => (HX.out.alloc o).c 2 rfl
  go_wp2_with fail
  have hD := ((show DrW w c p w3.heap.size (freshL c).length av cv [] (freshL c) w4 from ⟨HB.out, HX.out, HM.out, HO.out, by simp, fun e => (by have := (World.ownsRow.lt HO.out _ e).1; have := HSZ.out; omega), HPP.out, by simp, rfl, HSZ.out⟩).new 4 (boolsV (List.replicate c.shp.thr false))).new 4 (boolsV (List.replicate c.shp.thr false))
  have hpH := HM.out.lt
  have hwH := HX.out.lt
  rw [World.size_alloc] at hD
  have HDD := Lib.hid (show DrW w c p w3.heap.size (freshL c).length av cv [(w4.heap.size + 1, boolsV (List.replicate c.shp.thr false)), (w4.heap.size, boolsV (List.replicate c.shp.thr false))] (freshL c) ((w4.alloc (boolsB c.shp.thr)).alloc (boolsB c.shp.thr)) from hD)
  clear hD x2 x2a hmk HM HO HPP HX HB HR HWP
  generalize (w4.alloc _).alloc _ = Z0 at *
  generalize w4.heap.size = H at *
  generalize w3.heap.size = B at *
  generalize hn : (freshL c).length = n at *
  have HM0 := Lib.hid (st_start (v := vn) HC.out HV.out)
  clear hn
  generalize freshL c = l0 at *
  have HPH := Lib.hid hpH; have HWH := Lib.hid hwH
  clear hpH hwH
  go_loopw [18] (fun i wr => ∃ (k : Nat) (l : List Cel) (hs : List Bool), i = .int .i64 (k : Nat) ∧ k ≤ c.shp.thr ∧ DrW w c p B n av cv [(H + 1, boolsV hs), (H, boolsV hs)] l wr ∧ StI c vn l hs hs k ∧ ∀ u, k ≤ u → hs.getD u false = false) (fun i _ => c.shp.thr - (intOf i).toNat)
  case atStart => exact ⟨0, _, _, rfl, Nat.zero_le _, HDD.out, HM0.out, fun u _ => rep_fals _ _⟩
  case round =>
    obtain ⟨k, l, hs, rfl, hk, hD, hM, hz⟩ := hrel
    have HD := Lib.hid hD; have HM := Lib.hid hM; have HZ := Lib.hid hz
    have hx := hD.cfg
    unfold cfgL at hx
    have x0 := hx.c 0 rfl
    have x1 := hx.c 1 rfl
    have x2 := hx.c 2 rfl
    have x3 := hx.c 3 rfl
    have x4 := hx.c 4 rfl
    have x5 := hx.c 5 rfl
    have x6 := hx.c 6 rfl
    have x7 := hx.c 7 rfl
    have x8 := hx.c 8 rfl
    have x9 := hx.c 9 rfl
    have x10 := hx.c 10 rfl
    have x11 := hx.c 11 rfl
    clear hD hM hz hx HDD
    by_cases hlt : k < c.shp.thr
    · have i2 : (k : Int) < c.thr := by rw [HT.out.1]; omega
      have i3 : (k : Int) < (c.shp.thr : Int) := by omega
      have hthr : c.shp.thr ≤ 16 := HT.out.2.2
      --[one
      cases hbit : ((th / 2 ^ k).tmod 2 == 1)
      · go_wp2_with fail
        refine ⟨⟨k + 1, l, hs, congrArg (Value.int .i64) (by omega), by omega, HD.out, HM.out.more (by omega), fun u hu => HZ.out u (by omega)⟩, ?_⟩
        simp [intOf]; omega
      · go_wp2_with fail
        refine (sArrive_any c vn k wr (HP.out.more HD.out.below)).mono ?_
        rintro e u1 ⟨rfl, hb⟩
        obtain ⟨e1, e2⟩ := sarr_at HC.out HV.out i2
        rw [e2, e1]
        have hq := (cnt_lt HC.out HV.out (modK HC.out k).2).2.2.2.2.2
        have hA := (HM.out.both HC.out HV.out hlt (by omega) (HZ.out k (Nat.le_refl _)))
        have HMK := Lib.hid hA
        have HD := Lib.hid (HD.out.next hb)
        clear x0 x1 x2 x3 x4 x5 x6 x7 x8 x9 x10 x11 hb hbit e1 e2 hA
        generalize hn1 : inB c vn + k % c.shp.str = m at *
        have hml : m < l.length := by rw [HD.out.len, HL.out]; exact hq
        obtain ⟨d1, d2, d3⟩ := do_add (l := l) (m := m) hml
        clear d3
        have HD1 := Lib.hid d1; have HD2 := Lib.hid d2; have HHL := Lib.hid (show hs.length = c.shp.thr from HM.out.hl)
        clear d1 d2 hml hq hn1
        go_wp2_with fail
        have HD := Lib.hid (HD.out.alloc (.cells ⟨[.int .u8 4, .int .i64 (m : Int), .int .u64 0, .int .u64 0, .int .u64 0, .int .u64 0, .int .u64 0, .int .u64 1, .int .u64 0, .int .u64 0]⟩ 28))
        generalize u1.alloc _ = u1' at *
        refine (Do_len p cv B n av l ⟨4, (m : Nat), ⟨0, 0, 0, 0⟩, ⟨0, 1, 0, 0⟩⟩ u1' HD.out.len HD.out.mem HD.out.own HD.out.fp).mono ?_
        rintro e u2 ⟨rfl, ho, hg⟩
        have HD := Lib.hid (HD.out.did ho hg)
        rw [HD2.out]
        rw [HD1.out] at HD
        generalize doS l _ = sv at *
        clear ho hg
        have b0 := fun (o : Obj) => ((HD.out.bx (H, boolsV hs) (by simp)).alloc o).c k (boolsV_at (by rw [HHL.out]; exact hlt))
        have b1 := fun (o : Obj) => ((HD.out.bx (H + 1, boolsV hs) (by simp)).alloc o).c k (boolsV_at (by rw [HHL.out]; exact hlt))
        have f0 := fun (o : Obj) => ((HD.out.bx (H, boolsV hs) (by simp)).alloc o).f k
        have f1 := fun (o : Obj) => ((HD.out.bx (H + 1, boolsV hs) (by simp)).alloc o).f k
        go_wp2_with fail
        have hPP : p ≠ H := Nat.ne_of_lt HPH.out
        have hD2 := (HD.out.alloc (.cells #[.int .u64 sv.1.t, .int .u64 sv.1.a, .int .u64 sv.1.b, .int .u64 sv.1.c, .bool sv.2] 62)).putAt (f1 := [(H + 1, boolsV hs)]) (f2 := []) (g := H) (cs := boolsV hs) k (.bool true) HWH.out hPP (by simp) (by simp)
        have hD3 := hD2.putAt (f1 := []) (f2 := [(H, (boolsV hs).set k (.bool true))]) (g := H + 1) (cs := boolsV hs) k (.bool true) (by have := HWH.out; omega) (by have := HPH.out; omega) (by simp) (by simp)
        rw [← boolsV_set] at hD3
        refine ⟨⟨k + 1, _, hs.set k true, congrArg (Value.int .i64) (by omega), by omega, hD3, HMK.out, fun u hu => ?_⟩, ?_⟩
        · rw [getD_set _ _ _ _ _ (by rw [HHL.out]; exact hlt), if_neg (by omega)]
          exact HZ.out u (by omega)
        · simp [intOf]; omega
      --]one
    · obtain rfl : k = c.shp.thr := by omega
      have i2 : c.thr ≤ (c.shp.thr : Int) := by rw [HT.out.1]; exact Int.le_refl _
      go_wp2_with fail
      have hHK := (HD.out.bx (H + 1, boolsV hs) (by simp)).lt
      have hD := HD.out.new 36 [.int .u64 0, .int .i64 0, .int .u64 0]
      generalize wr.alloc _ = Z1 at *
      generalize wr.heap.size = K at *
      have HD := Lib.hid hD; have HHK := Lib.hid hHK; have HMM := Lib.hid HM.out
      clear hD hHK x0 x1 x2 x3 x4 x5 x6 x7 x8 x9 x10 x11 hk hlt i2
      obtain ⟨F, hF⟩ : ∃ F, F = 4 * c.shp.str := ⟨_, rfl⟩
      obtain ⟨S, hS⟩ : ∃ S, S = l3 + F := ⟨_, rfl⟩
      have h4 : IntKind.i64.wrap (4 * c.str) = (F : Int) := by have := str_cast HC.out; rw [IntKind.wrap_i64]; omega
      have HF := Lib.hid hF
      have HS := Lib.hid hS
      have hsum : IntKind.i64.wrap ((l3 : Int) + (F : Int)) = (S : Int) := by
        rw [hS, IntKind.wrap_i64]; have := str_cast HC.out; have := HLE.out; omega
      clear hS hF
      go_loopw [24] (fun i wr => ∃ (q kk sm : Nat) (l : List Cel) (hs os : List Bool), i = .int .i64 (q : Nat) ∧ q ≤ S ∧ DrW w c p B n av cv [(K, [.int .u64 0, .int .i64 (kk : Nat), .int .u64 (sm : Nat)]), (H + 1, boolsV os), (H, boolsV hs)] l wr ∧ StI c vn l hs os (q + 16) ∧ DrI c vn l os kk sm ∧ SdT c vn l hs kk sm q l3) (fun i _ => S - (intOf i).toNat)
      case atStart => exact ⟨0, 0, 0, l, hs, hs, rfl, Nat.zero_le _, HD.out, HMM.out.more (by have := HT.out; omega), DrI.start HC.out _ _ _, .inl (Nat.zero_le _)⟩
      case round =>
        clear HD HMM HM HZ
        obtain ⟨q, kk, sm, l, hs, os, rfl, hq, hD, hM, hI', hT⟩ := hrel
        have HD := Lib.hid hD; have HM := Lib.hid hM; have HTT := Lib.hid hT; have HDI := Lib.hid hI'
        have HQ := Lib.hid (show q + 16 ≤ 1000000 by have := HS.out; have := HF.out; have := str_cast HC.out; have := HLE.out; omega)
        have hx := hD.cfg
        unfold cfgL at hx
        have x0 := hx.c 0 rfl
        have x1 := hx.c 1 rfl
        have x2 := hx.c 2 rfl
        have x3 := hx.c 3 rfl
        have x4 := hx.c 4 rfl
        have x5 := hx.c 5 rfl
        have x6 := hx.c 6 rfl
        have x7 := hx.c 7 rfl
        have x8 := hx.c 8 rfl
        have x9 := hx.c 9 rfl
        have x10 := hx.c 10 rfl
        have x11 := hx.c 11 rfl
        clear hD hM hT hI' hx
        by_cases hlt : q < S
        · have i2 : (q : Int) < (S : Int) := by omega
          by_cases hst8 : q < l3 ∧ st q < 160
          ·
            --[ad
            obtain ⟨hst, h128⟩ := hst8
            have i3 : (q : Int) < (l3 : Int) := by omega
            obtain ⟨b3, o3, rfl⟩ := HI.out.addr (show 0 < l3 by omega)
            have s0 := (HI.out.below HD.out.below).get hst
            have hs3 := HST.out q hst
            · obtain ⟨t, ht, htl⟩ : ∃ t : Nat, (st q).tmod c.thr = (t : Int) ∧ t < c.shp.thr := by
                have h1 := HT.out
                rw [Int.tmod_eq_emod_of_nonneg hs3.1]
                have h2 := Int.emod_nonneg (st q) (show c.thr ≠ 0 by omega)
                have h3 := Int.emod_lt_of_pos (st q) (show 0 < c.thr by omega)
                exact ⟨(st q % c.thr).toNat, by omega, by omega⟩
              have hwr : IntKind.i64.wrap (st q) = st q := by rw [IntKind.wrap_i64]; omega
              have hz : c.thr ≠ 0 := by have := HT.out; omega
              go_wp2_with fail
              go_quiet (fail)
              have HD := Lib.hid (HD.out.next (below_drewN (Below.refl _ _) nq))
              clear s0 hs3 h128 hwr hz ht x0 x1 x2 x3 x4 x5 x6 x7 x8 x9 x10 x11
              generalize wr.drewN nq = wx at *
              have hx := HD.out.cfg
              unfold cfgL at hx
              have x0 := hx.c 0 rfl
              have x1 := hx.c 1 rfl
              have x2 := hx.c 2 rfl
              have x3 := hx.c 3 rfl
              have x4 := hx.c 4 rfl
              have x5 := hx.c 5 rfl
              have x6 := hx.c 6 rfl
              have x7 := hx.c 7 rfl
              have x8 := hx.c 8 rfl
              have x9 := hx.c 9 rfl
              have x10 := hx.c 10 rfl
              have x11 := hx.c 11 rfl
              clear hx
              go_wp2_with fail
              have it : (t : Int) < c.thr := by rw [HT.out.1]; omega
              refine (sArrive_any c vn t wx (HP.out.more HD.out.below)).mono ?_
              rintro e u1 ⟨rfl, hb⟩
              obtain ⟨e1, e2⟩ := sarr_at HC.out HV.out it
              rw [e2, e1]
              have hmq := (cnt_lt HC.out HV.out (modK HC.out t).2).2.2.2.2.2
              have hmo := (cnt_lt HC.out HV.out (modK HC.out t).2).2.2.2.2.1
              have HD := Lib.hid (HD.out.next hb)
              clear x0 x1 x2 x3 x4 x5 x6 x7 x8 x9 x10 x11 hb e1 e2
              cases hh : hs.getD t false
              · have HMK := Lib.hid (HM.out.arrive HC.out HV.out htl HQ.out hh)
                have HDK := Lib.hid (HDI.out.arrive (t := t) HM.out HC.out HV.out HQ.out)
                generalize hn1 : inB c vn + t % c.shp.str = m at *
                have hml : m < l.length := by rw [HD.out.len, HL.out]; exact hmq
                obtain ⟨d1, d2, d3⟩ := do_add (l := l) (m := m) hml
                clear d3
                have HD1 := Lib.hid d1; have HD2 := Lib.hid d2; have HHL := Lib.hid (show hs.length = c.shp.thr from HM.out.hl)
                have hcell : (boolsV hs)[t]? = some (.bool false) := (boolsV_at (by rw [HHL.out]; exact htl)).trans (by rw [hh])
                have b0 := fun (o : Obj) => ((HD.out.bx (H, boolsV hs) (by simp)).alloc o).c t hcell
                have i5 : (t : Int) < (c.shp.thr : Int) := by omega
                clear d1 d2 hml hmq hmo hn1
                go_wp2_with fail
                have HD := Lib.hid (HD.out.alloc (.cells ⟨[.int .u8 4, .int .i64 (m : Int), .int .u64 0, .int .u64 0, .int .u64 0, .int .u64 0, .int .u64 0, .int .u64 1, .int .u64 0, .int .u64 0]⟩ 28))
                clear b0
                generalize u1.alloc _ = u1' at *
                refine (Do_len p cv B n av l ⟨4, (m : Nat), ⟨0, 0, 0, 0⟩, ⟨0, 1, 0, 0⟩⟩ u1' HD.out.len HD.out.mem HD.out.own HD.out.fp).mono ?_
                rintro e u2 ⟨rfl, ho, hg⟩
                have HD := Lib.hid (HD.out.did ho hg)
                rw [HD2.out]
                rw [HD1.out] at HD
                generalize doS l _ = sv at *
                clear ho hg
                have b0 := fun (o : Obj) => ((HD.out.bx (H, boolsV hs) (by simp)).alloc o).c t hcell
                have f0 := fun (o : Obj) => ((HD.out.bx (H, boolsV hs) (by simp)).alloc o).f t
                have hlong : S ≤ 216 := by have := HS.out; have := HF.out; have := str_cast HC.out; have := HLE.out; omega
                go_wp2_with fail
                have hPP : p ≠ H := Nat.ne_of_lt HPH.out
                have hD2 := (HD.out.alloc (.cells #[.int .u64 sv.1.t, .int .u64 sv.1.a, .int .u64 sv.1.b, .int .u64 sv.1.c, .bool sv.2] 62)).putAt (f1 := [(K, [.int .u64 0, .int .i64 (kk : Nat), .int .u64 (sm : Nat)]), (H + 1, boolsV os)]) (f2 := []) (g := H) (cs := boolsV hs) t (.bool true) HWH.out hPP (by have := HHK.out; simp; omega) (by simp)
                rw [← boolsV_set] at hD2
                refine ⟨⟨q + 1, kk, sm, _, hs.set t true, os, congrArg (Value.int .i64) (by omega), by omega, hD2, HMK.out.more (by omega), HDK.out, .inl (by omega)⟩, ?_⟩
                simp [intOf]; omega
              · have HMK := Lib.hid (HM.out.depart HC.out HV.out htl HQ.out hh)
                have HDK := Lib.hid (HDI.out.depart (t := t) HM.out HC.out HV.out HQ.out)
                obtain ⟨e1, e2⟩ := sdep_at HC.out HV.out it
                have E1 := Lib.hid e1; have E2 := Lib.hid e2
                clear e1 e2
                generalize hn1 : inB c vn + t % c.shp.str = m at *
                generalize hn2 : outB c vn + t % c.shp.str = mo at *
                have hml : mo < l.length := by rw [HD.out.len, HL.out]; exact hmo
                obtain ⟨d1, d2, d3⟩ := do_add (l := l) (m := mo) hml
                clear d3
                have HD1 := Lib.hid d1; have HD2 := Lib.hid d2; have HHL := Lib.hid (show hs.length = c.shp.thr from HM.out.hl); have HOL := Lib.hid (show os.length = c.shp.thr from HM.out.ol)
                have hcell : (boolsV hs)[t]? = some (.bool true) := (boolsV_at (by rw [HHL.out]; exact htl)).trans (by rw [hh])
                have b0 := fun (o : Obj) => ((HD.out.bx (H, boolsV hs) (by simp)).alloc o).c t hcell
                have i5 : (t : Int) < (c.shp.thr : Int) := by omega
                have hx := HD.out.cfg
                unfold cfgL at hx
                have x0 := fun (o : Obj) => (hx.alloc o).c 0 rfl
                have x1 := fun (o : Obj) => (hx.alloc o).c 1 rfl
                have x2 := fun (o : Obj) => (hx.alloc o).c 2 rfl
                have x3 := fun (o : Obj) => (hx.alloc o).c 3 rfl
                have x4 := fun (o : Obj) => (hx.alloc o).c 4 rfl
                have x5 := fun (o : Obj) => (hx.alloc o).c 5 rfl
                have x6 := fun (o : Obj) => (hx.alloc o).c 6 rfl
                have x7 := fun (o : Obj) => (hx.alloc o).c 7 rfl
                have x8 := fun (o : Obj) => (hx.alloc o).c 8 rfl
                have x9 := fun (o : Obj) => (hx.alloc o).c 9 rfl
                have x10 := fun (o : Obj) => (hx.alloc o).c 10 rfl
                have x11 := fun (o : Obj) => (hx.alloc o).c 11 rfl
                clear hx d1 d2 hml hmq hmo hn1 hn2
                go_wp2_with fail
                have hA' := Box.new u1 28 [.int .u8 4, .int .i64 (m : Int), .int .u64 0, .int .u64 0, .int .u64 0, .int .u64 0, .int .u64 0, .int .u64 1, .int .u64 0, .int .u64 0]
                have hKA := (HD.out.bx (K, [.int .u64 0, .int .i64 (kk : Nat), .int .u64 (sm : Nat)]) (by simp)).lt
                have HD := Lib.hid (HD.out.new 28 [.int .u8 4, .int .i64 (m : Int), .int .u64 0, .int .u64 0, .int .u64 0, .int .u64 0, .int .u64 0, .int .u64 1, .int .u64 0, .int .u64 0])
                clear hA'
                generalize u1.alloc _ = v1 at *
                generalize u1.heap.size = A at *
                refine (sDepart_any c vn t v1 (HP.out.more HD.out.below)).mono ?_
                rintro e u2 ⟨rfl, hb⟩
                rw [E2.out, E1.out]
                have HD := Lib.hid (HD.out.next hb)
                have HKA := Lib.hid hKA
                clear x0 x1 x2 x3 x4 x5 x6 x7 x8 x9 x10 x11 b0 hb hKA
                have hA := HD.out.bx (A, [.int .u8 4, .int .i64 (m : Int), .int .u64 0, .int .u64 0, .int .u64 0, .int .u64 0, .int .u64 0, .int .u64 1, .int .u64 0, .int .u64 0]) (by simp)
                have r0 := hA.c 0 rfl
                have r1 := hA.c 1 rfl
                have r2 := hA.c 2 rfl
                have r3 := hA.c 3 rfl
                have r4 := hA.c 4 rfl
                have r5 := hA.c 5 rfl
                have r6 := hA.c 6 rfl
                have r7 := hA.c 7 rfl
                have r8 := hA.c 8 rfl
                have r9 := hA.c 9 rfl
                have g0 := hA.f 0
                have g1 := hA.f 1
                have g2 := hA.f 2
                have g3 := hA.f 3
                have g4 := hA.f 4
                have g5 := hA.f 5
                have g6 := hA.f 6
                have g7 := hA.f 7
                have g8 := hA.f 8
                have g9 := hA.f 9
                have b1 := (HD.out.bx (H + 1, boolsV os) (by simp)).c t (boolsV_at (by rw [HOL.out]; exact htl))
                have f1 := (HD.out.bx (H + 1, boolsV os) (by simp)).f t
                have n1 : ¬ (A = H + 1) := by have := HHK.out; have := HKA.out; omega
                have n2 : ¬ (H + 1 = A) := by have := HHK.out; have := HKA.out; omega
                clear hA
                go_wp2_with fail
                clear r0 r1 r2 r3 r4 r5 r6 r7 r8 r9 g0 g1 g2 g3 g4 g5 g6 g7 g8 g9 b1 f1
                have hD2 := (HD.out.acc (.int .u8 4) (.int .i64 (mo : Int)) (.int .u64 0) (.int .u64 0) (.int .u64 0) (.int .u64 0) (.int .u64 0) (.int .u64 1) (.int .u64 0) (.int .u64 0) (by have := HHK.out; have := HKA.out; have := HWH.out; omega) (by have := HHK.out; have := HKA.out; have := HPH.out; omega) (by have := HHK.out; have := HKA.out; simp; omega)).putAt (f1 := [(A, [.int .u8 4, .int .i64 (mo : Int), .int .u64 0, .int .u64 0, .int .u64 0, .int .u64 0, .int .u64 0, .int .u64 1, .int .u64 0, .int .u64 0]), (K, [.int .u64 0, .int .i64 (kk : Nat), .int .u64 (sm : Nat)])]) (f2 := [(H, boolsV hs)]) (g := H + 1) (cs := boolsV os) t (.bool false) (by have := HWH.out; omega) (by have := HPH.out; omega) (by have := HHK.out; have := HKA.out; simp; omega) (by simp)
                rw [← boolsV_set] at hD2
                have HD := Lib.hid hD2
                clear hD2 n1 n2
                generalize World.setCell _ _ _ = Z at *
                refine (Do_len p cv B n av l ⟨4, (mo : Nat), ⟨0, 0, 0, 0⟩, ⟨0, 1, 0, 0⟩⟩ Z HD.out.len HD.out.mem HD.out.own HD.out.fp).mono ?_
                rintro e u3 ⟨rfl, ho, hg⟩
                have HD := Lib.hid (HD.out.did ho hg)
                rw [HD2.out]
                rw [HD1.out] at HD
                generalize doS l _ = sv at *
                clear ho hg
                have b0 := fun (o : Obj) => ((HD.out.bx (H, boolsV hs) (by simp)).alloc o).c t hcell
                have f0 := fun (o : Obj) => ((HD.out.bx (H, boolsV hs) (by simp)).alloc o).f t
                have hlong : S ≤ 216 := by have := HS.out; have := HF.out; have := str_cast HC.out; have := HLE.out; omega
                go_wp2_with fail
                have hPP : p ≠ H := Nat.ne_of_lt HPH.out
                have hD2 := (HD.out.alloc (.cells #[.int .u64 sv.1.t, .int .u64 sv.1.a, .int .u64 sv.1.b, .int .u64 sv.1.c, .bool sv.2] 62)).putAt (f1 := [(A, [.int .u8 4, .int .i64 (mo : Int), .int .u64 0, .int .u64 0, .int .u64 0, .int .u64 0, .int .u64 0, .int .u64 1, .int .u64 0, .int .u64 0]), (K, [.int .u64 0, .int .i64 (kk : Nat), .int .u64 (sm : Nat)]), (H + 1, boolsV (os.set t false))]) (f2 := []) (g := H) (cs := boolsV hs) t (.bool false) HWH.out hPP (by have := HHK.out; have := HKA.out; simp; omega) (by simp)
                rw [← boolsV_set] at hD2
                have hD3 := hD2.with (gs := [(K, [.int .u64 0, .int .i64 (kk : Nat), .int .u64 (sm : Nat)]), (H + 1, boolsV (os.set t false)), (H, boolsV (hs.set t false))]) (fun x hx => hD2.bx x (List.mem_cons_of_mem _ hx)) (fun x hx => hD2.ff x (List.mem_cons_of_mem _ hx))
                refine ⟨⟨q + 1, kk, sm, _, hs.set t false, os.set t false, congrArg (Value.int .i64) (by omega), by omega, hD3, HMK.out.more (by omega), HDK.out, .inl (by omega)⟩, ?_⟩
                simp [intOf]; omega
            --]ad
          · have hl3 : l3 ≤ q ∨ (q < l3 ∧ 160 ≤ st q) := by omega
            have k0 := (HD.out.bx (K, [.int .u64 0, .int .i64 (kk : Nat), .int .u64 (sm : Nat)]) (by simp)).c 0 rfl
            have k1 := (HD.out.bx (K, [.int .u64 0, .int .i64 (kk : Nat), .int .u64 (sm : Nat)]) (by simp)).c 1 rfl
            have k2 := (HD.out.bx (K, [.int .u64 0, .int .i64 (kk : Nat), .int .u64 (sm : Nat)]) (by simp)).c 2 rfl
            clear hst8
            rcases hl3 with i3 | ⟨hst, h128⟩
            case' inl => have i3' : (l3 : Int) ≤ (q : Int) := by omega
            case' inl => go_wp2_with fail
            case' inr => have i3 : (q : Int) < (l3 : Int) := by omega
            case' inr => obtain ⟨b3, o3, rfl⟩ := HI.out.addr (show 0 < l3 by omega)
            case' inr => have s0 := (HI.out.below HD.out.below).get hst
            case' inr => go_wp2_with fail
            case' inr => clear s0
            all_goals
              have hkb := HDI.out.1
              refine (sLook_any c vn 0 kk sm wr (HP.out.more HD.out.below) (by have := str_cast HC.out; omega)).mono ?_
              rintro e u1 ⟨rfl, hb⟩
              obtain ⟨e1, e2⟩ := slook_at HC.out HV.out hkb
              rw [e2, e1]
              have hmq := lkM_lt HC.out HV.out hkb
              have HD := Lib.hid (HD.out.next hb)
              have hsm := look_small HM.out HQ.out hkb
              have hNX := HDI.out.next HM.out HC.out HQ.out
              have hDN := HDI.out.done HM.out HC.out HQ.out
              have hON := HTT.out.on HM.out HC.out HQ.out
              have hBA := HTT.out.back HM.out HC.out HQ.out
              rw [lookN_at] at hsm hNX hDN hON hBA
              have HSM := Lib.hid hsm; have HNX := Lib.hid hNX; have HDN := Lib.hid hDN; have HON := Lib.hid hON; have HBA := Lib.hid hBA
              have HKB := Lib.hid hkb
              clear hsm hNX hDN hON hBA
              clear x0 x1 x2 x3 x4 x5 x6 x7 x8 x9 x10 x11 k0 k1 k2 hb e1 e2 hkb
              generalize hn1 : lkM c vn kk = m at *
              have hml : m < l.length := by rw [HD.out.len, HL.out]; exact hmq
              obtain ⟨d1, d2, d3⟩ := do_lk (l := l) (m := m) hml
              have HD1 := Lib.hid d1; have HD2 := Lib.hid d2; have HD3 := Lib.hid d3
              clear d1 d2 d3 hml hmq hn1
              go_wp2_with fail
              have HD := Lib.hid (HD.out.alloc (.cells ⟨[.int .u8 1, .int .i64 (m : Int), .int .u64 0, .int .u64 0, .int .u64 0, .int .u64 0, .int .u64 0, .int .u64 0, .int .u64 0, .int .u64 0]⟩ 28))
              generalize u1.alloc _ = u1' at *
              refine (Do_len p cv B n av l ⟨1, (m : Nat), ⟨0, 0, 0, 0⟩, ⟨0, 0, 0, 0⟩⟩ u1' HD.out.len HD.out.mem HD.out.own HD.out.fp).mono ?_
              rintro e u2 ⟨rfl, ho, hg⟩
              have HD := Lib.hid (HD.out.did ho hg)
              rw [HD2.out, HD3.out]
              rw [HD1.out] at HD
              clear ho hg
              generalize l.getD m .zero = x at *
              obtain ⟨xt, xa, xb, xc⟩ := x
              have hx := HD.out.cfg
              unfold cfgL at hx
              have x0 := fun (o : Obj) => (hx.alloc o).c 0 rfl
              have x1 := fun (o : Obj) => (hx.alloc o).c 1 rfl
              have x2 := fun (o : Obj) => (hx.alloc o).c 2 rfl
              have x3 := fun (o : Obj) => (hx.alloc o).c 3 rfl
              have x4 := fun (o : Obj) => (hx.alloc o).c 4 rfl
              have x5 := fun (o : Obj) => (hx.alloc o).c 5 rfl
              have x6 := fun (o : Obj) => (hx.alloc o).c 6 rfl
              have x7 := fun (o : Obj) => (hx.alloc o).c 7 rfl
              have x8 := fun (o : Obj) => (hx.alloc o).c 8 rfl
              have x9 := fun (o : Obj) => (hx.alloc o).c 9 rfl
              have x10 := fun (o : Obj) => (hx.alloc o).c 10 rfl
              have x11 := fun (o : Obj) => (hx.alloc o).c 11 rfl
              have k0 := fun (o : Obj) => ((HD.out.bx (K, [.int .u64 0, .int .i64 (kk : Nat), .int .u64 (sm : Nat)]) (by simp)).alloc o).c 0 rfl
              have k1 := fun (o : Obj) => ((HD.out.bx (K, [.int .u64 0, .int .i64 (kk : Nat), .int .u64 (sm : Nat)]) (by simp)).alloc o).c 1 rfl
              have k2 := fun (o : Obj) => ((HD.out.bx (K, [.int .u64 0, .int .i64 (kk : Nat), .int .u64 (sm : Nat)]) (by simp)).alloc o).c 2 rfl
              clear hx
              go_wp2_with fail
              have HD := Lib.hid (HD.out.alloc (.cells ⟨[.int .u64 xt, .int .u64 xa, .int .u64 xb, .int .u64 xc, .bool true]⟩ 62))
              clear x0 x1 x2 x3 x4 x5 x6 x7 x8 x9 x10 x11 k0 k1 k2
              generalize u2.alloc _ = u2' at *
              refine (sSeen_any c 0 kk sm xt xa xb xc u2' (by have := str_cast HC.out; have := HKB.out; omega)).mono ?_
              rintro e u3 ⟨rfl, hb⟩
              have HD := Lib.hid (HD.out.next hb)
              clear hb
              obtain ⟨nk, nS, em, hss, hcs⟩ := sseen_at HC.out (a := kk) (S := sm) HSM.out HKB.out
              rw [hss]
              have HCS := Lib.hid hcs
              clear hss hcs
              have k0 := fun (o : Obj) => ((HD.out.bx (K, [.int .u64 0, .int .i64 (kk : Nat), .int .u64 (sm : Nat)]) (by simp)).alloc o).c 0 rfl
              have k1 := fun (o : Obj) => ((HD.out.bx (K, [.int .u64 0, .int .i64 (kk : Nat), .int .u64 (sm : Nat)]) (by simp)).alloc o).c 1 rfl
              have k2 := fun (o : Obj) => ((HD.out.bx (K, [.int .u64 0, .int .i64 (kk : Nat), .int .u64 (sm : Nat)]) (by simp)).alloc o).c 2 rfl
              have f0 := fun (o : Obj) => ((HD.out.bx (K, [.int .u64 0, .int .i64 (kk : Nat), .int .u64 (sm : Nat)]) (by simp)).alloc o).f 0
              have f1 := fun (o : Obj) => ((HD.out.bx (K, [.int .u64 0, .int .i64 (kk : Nat), .int .u64 (sm : Nat)]) (by simp)).alloc o).f 1
              have f2 := fun (o : Obj) => ((HD.out.bx (K, [.int .u64 0, .int .i64 (kk : Nat), .int .u64 (sm : Nat)]) (by simp)).alloc o).f 2
              have hlong : S ≤ 216 := by have := HS.out; have := HF.out; have := str_cast HC.out; have := HLE.out; omega
              have hK3 : ∀ x ∈ [(H + 1, boolsV os), (H, boolsV hs)], x.1 ≠ K := by have := HHK.out; simp; omega
              have hK1 : w.heap.size < K := by have := HHK.out; have := HWH.out; omega
              have hK2 : p ≠ K := by have := HHK.out; have := HPH.out; omega
              have HDZ := Lib.hid (DrW.putAt (f1 := []) (DrW.putAt (f1 := []) (DrW.putAt (f1 := []) (HD.out.alloc (.cells #[.int .u64 0, .int .i64 (nk : Nat), .int .u64 (nS : Nat)] 36)) 0 (.int .u64 0) hK1 hK2 (by simp) hK3) 1 (.int .i64 (nk : Nat)) hK1 hK2 (by simp) hK3) 2 (.int .u64 (nS : Nat)) hK1 hK2 (by simp) hK3)
              clear hK1 hK2 hK3
              cases em with
              | false =>
                go_wp2_with fail
                have hq1 : q < S := hlt
                have hS := HS.out
                rcases HCS.out with ⟨h1, rfl, rfl, _⟩ | ⟨_, _, h⟩ | ⟨h1, h2, rfl, rfl, _⟩
                · refine ⟨⟨q + 1, kk + 1, _, l, hs, os, congrArg (Value.int .i64) (by omega), by omega, HDZ.out, HM.out.more (by omega), HNX.out h1, HON.out h1⟩, ?_⟩
                  simp [intOf]; omega
                · cases h
                · refine ⟨⟨q + 1, 0, 0, l, hs, os, congrArg (Value.int .i64) (by omega), by omega, HDZ.out, HM.out.more (by omega), DrI.start HC.out _ _ _, HBA.out h1 h2⟩, ?_⟩
                  simp [intOf]; omega
              | true =>
                have hno : ∀ t, os.getD t false = false := by
                  rcases HCS.out with ⟨_, _, _, h⟩ | ⟨h1, h0, _⟩ | ⟨_, _, _, _, h⟩
                  · cases h
                  · exact HDN.out h1 h0
                  · cases h
                have HNO := Lib.hid hno
                clear hno
                go_wp2_with fail
                have HD := HDZ
                clear HDZ k0 k1 k2 f0 f1 f2
                generalize World.setCell _ _ _ = Z2 at *
                have HOL := Lib.hid (show os.length = c.shp.thr from HM.out.ol)
                have hx := HD.out.cfg
                unfold cfgL at hx
                have x2 := hx.c 2 rfl
                clear hx
                go_loop [37] (fun i => ∃ j : Nat, i = .int .i64 (j : Nat) ∧ j ≤ c.shp.thr) (fun i => c.shp.thr - (intOf i).toNat)
                case atStart => exact ⟨0, rfl, Nat.zero_le _⟩
                case round =>
                  obtain ⟨j, rfl, hj⟩ := hrel
                  by_cases hjl : j < c.shp.thr
                  · have i7 : (j : Int) < c.thr := by rw [HT.out.1]; omega
                    have i8 : (j : Int) < (c.shp.thr : Int) := by omega
                    have b1 := (HD.out.bx (H + 1, boolsV os) (by simp)).c j ((boolsV_at (by rw [HOL.out]; exact hjl)).trans (by rw [HNO.out]))
                    have hthr : c.shp.thr ≤ 16 := HT.out.2.2
                    go_wp2_with fail
                    refine ⟨⟨j + 1, congrArg (Value.int .i64) (by omega), by omega⟩, ?_⟩
                    simp [intOf]; omega
                  · obtain rfl : j = c.shp.thr := by omega
                    have i7 : c.thr ≤ (c.shp.thr : Int) := by rw [HT.out.1]; exact Int.le_refl _
                    go_wp2_with fail
                    go_ret
                    exact ⟨rfl, HD.out.below⟩
        · obtain rfl : q = S := by omega
          have i2 : (q : Int) ≤ (q : Int) := Int.le_refl _
          obtain ⟨t0, ht0, hh0⟩ : ∃ t, t < c.shp.thr ∧ hs.getD t false = true := by
            have h := HTT.out
            rw [HS.out, HF.out] at h
            exact h.fin HDI.out.1
          have HH0 := Lib.hid hh0
          have HHL := Lib.hid (show hs.length = c.shp.thr from HM.out.hl)
          clear hh0
          go_wp2_with fail
          go_loop [38] (fun i => ∃ j : Nat, i = .int .i64 (j : Nat) ∧ j ≤ t0) (fun i => c.shp.thr - (intOf i).toNat)
          case atStart => exact ⟨0, rfl, Nat.zero_le _⟩
          case round =>
            obtain ⟨j, rfl, hj⟩ := hrel
            have hjl : j < c.shp.thr := by omega
            have i7 : (j : Int) < c.thr := by rw [HT.out.1]; omega
            have i8 : (j : Int) < (c.shp.thr : Int) := by omega
            have b1 := (HD.out.bx (H, boolsV hs) (by simp)).c j (boolsV_at (by rw [HHL.out]; exact hjl))
            have hthr : c.shp.thr ≤ 16 := HT.out.2.2
            cases hh : hs.getD j false
            · have hne : j ≠ t0 := fun e => by rw [e, HH0.out] at hh; cases hh
              rw [hh] at b1
              clear hh
              go_wp2_with fail
              refine ⟨⟨j + 1, congrArg (Value.int .i64) (by omega), by omega⟩, ?_⟩
              simp [intOf]; omega
            · rw [hh] at b1
              clear hh
              go_wp2_with fail
              go_ret
              exact ⟨rfl, HD.out.below⟩

set_option linter.unusedVariables false in
theorem walk_StripeDrains (n0_0 n0_1 n0_2 n0_3 n0_4 n0_5 n0_6 n0_7 n0_8 n0_9 n0_10 n0_11 n1 n2 : Int) (a3 : Option Addr) (l3 c3 : Nat) (w : World) (b0_0 : IntKind.u8.min ≤ n0_0 ∧ n0_0 ≤ IntKind.u8.max) (b0_1 : IntKind.i64.min ≤ n0_1 ∧ n0_1 ≤ IntKind.i64.max) (b0_2 : IntKind.i64.min ≤ n0_2 ∧ n0_2 ≤ IntKind.i64.max) (b0_3 : IntKind.u8.min ≤ n0_3 ∧ n0_3 ≤ IntKind.u8.max) (b0_4 : IntKind.i64.min ≤ n0_4 ∧ n0_4 ≤ IntKind.i64.max) (b0_5 : IntKind.i64.min ≤ n0_5 ∧ n0_5 ≤ IntKind.i64.max) (b0_6 : IntKind.i64.min ≤ n0_6 ∧ n0_6 ≤ IntKind.i64.max) (b0_7 : IntKind.i64.min ≤ n0_7 ∧ n0_7 ≤ IntKind.i64.max) (b0_8 : IntKind.i64.min ≤ n0_8 ∧ n0_8 ≤ IntKind.i64.max) (b0_9 : IntKind.i64.min ≤ n0_9 ∧ n0_9 ≤ IntKind.i64.max) (b0_10 : IntKind.u64.min ≤ n0_10 ∧ n0_10 ≤ IntKind.u64.max) (b0_11 : IntKind.u64.min ≤ n0_11 ∧ n0_11 ≤ IntKind.u64.max) (b1 : IntKind.i64.min ≤ n1 ∧ n1 ≤ IntKind.i64.max) (b2 : IntKind.u16.min ≤ n2 ∧ n2 ≤ IntKind.u16.max) (s3 : Fra.Slc w [.u8] a3 l3 c3) (hp : Pw w) :
    Calls Tryd.prog 12 #[.agg #[.int .u8 n0_0, .int .i64 n0_1, .int .i64 n0_2, .int .u8 n0_3, .int .i64 n0_4, .int .i64 n0_5, .int .i64 n0_6, .int .i64 n0_7, .int .i64 n0_8, .int .i64 n0_9, .int .u64 n0_10, .int .u64 n0_11], .int .i64 n1, .int .u16 n2, .slice a3 l3 c3] w fun e w' => e = .returned (.bool true) ∧ Below w.heap.size w w' := by
  simp [IntKind.min, IntKind.max, IntKind.signed, IntKind.bits] at b2
  obtain ⟨st, h1, h2⟩ := slc_ints s3
  simp [IntKind.min, IntKind.max, IntKind.signed, IntKind.bits] at h2
  exact drains20_walk ⟨n0_0, n0_1, n0_2, n0_3, n0_4, n0_5, n0_6, n0_7, n0_8, n0_9, n0_10, n0_11⟩ n1 n2 a3 l3 c3 st w hp h1 h2 b2

end Go.Proofs.YtdabhkbmdmlgcaaDoor
