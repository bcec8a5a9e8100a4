/- The walk of MarkApart. -/
import Derived.Test.YtdabhkbmdmlgcaaDoorAlive19
import Derived.Test.YtdabhkbmdmlgcaaDoorPlainDrain
import Derived.Test.YtdabhkbmdmlgcaaDoorPartN
import Derived.Test.YtdabhkbmdmlgcaaDoorCellRun
namespace Go.Proofs.YtdabhkbmdmlgcaaDoor
open Go.RowKit

theorem fresh_at (c : Cfg) {n : Nat} (h : n ≠ 2) : (freshL c).getD n .zero = .zero := by
  unfold freshL
  by_cases h2 : 2 < allN c.shp
  · rw [getD_set _ _ _ _ _ (by rw [zeros_len]; exact h2), if_neg (fun e => h e.symm)]
    exact zeros_at _ _
  · rw [List.set_eq_of_length_le (by rw [zeros_len]; omega)]
    exact zeros_at _ _
theorem apart19_plain {c : Cfg} {v t : Nat} (hc : c.Slots) (hv : v < 2) (ht : t < c.shp.thr) (hth : (t : Int) < c.thr) :
    runL (freshL c) [⟨2, atV c 6 v t, ⟨0, 0, 0, 0⟩, ⟨0, 1, 0, 0⟩⟩, ⟨2, atV c 6 v t, ⟨0, 0, 0, 0⟩, ⟨0, 0, 0, 0⟩⟩] = freshL c
    ∧ runErr (freshL c) [⟨2, atV c 6 v t, ⟨0, 0, 0, 0⟩, ⟨0, 1, 0, 0⟩⟩, ⟨2, atV c 6 v t, ⟨0, 0, 0, 0⟩, ⟨0, 0, 0, 0⟩⟩] = 0 := by
  have hb := (markB_lt hc hv ht).2
  have hlen := freshL_len c
  have hall := (all_le (May.small hc.1)).1
  rw [markB_at hc hv hth]
  generalize hn : markB c v + t = n at *
  have hn2 : n ≠ 2 := by
    rw [← hn]; unfold markB; omega
  have hz := fresh_at c hn2
  constructor
  · obtain ⟨e1, _, _⟩ := doL_yes (l := freshL c) (x := ⟨2, (n : Nat), ⟨0, 0, 0, 0⟩, ⟨0, 1, 0, 0⟩⟩) rfl (by omega) (show (1 : Int) ≤ 2 by decide) (show (2 : Int) ≤ 4 by decide)
    obtain ⟨e2, _, _⟩ := doL_yes (l := (freshL c).set n ⟨0, 1, 0, 0⟩) (x := ⟨2, (n : Nat), ⟨0, 0, 0, 0⟩, ⟨0, 0, 0, 0⟩⟩) (k := n) rfl (by rw [List.length_set]; omega) (show (1 : Int) ≤ 2 by decide) (show (2 : Int) ≤ 4 by decide)
    show doL (doL (freshL c) _) _ = _
    rw [e1]
    show doL ((freshL c).set n ⟨0, 1, 0, 0⟩) _ = _
    rw [e2]
    show ((freshL c).set n ⟨0, 1, 0, 0⟩).set n ⟨0, 0, 0, 0⟩ = _
    rw [List.set_set]
    have := set_self (freshL c) n
    rw [hz] at this
    exact this
  · have hm : mayA (freshL c).length 2 (n : Nat) = true := (mayA_iff _ _ _).2 ⟨by decide, by decide, by omega, by omega⟩
    unfold runErr
    rw [if_neg (by rw [hlen]; simp; omega)]
    simp [runB, hm]

theorem rdx2 {W : World} {g : Nat} {p q : Acc} (h : Box W g [.int .u8 p.k, .int .i64 p.at', .int .u64 p.old.t, .int .u64 p.old.a, .int .u64 p.old.b, .int .u64 p.old.c, .int .u64 p.new.t, .int .u64 p.new.a, .int .u64 p.new.b, .int .u64 p.new.c, .int .u8 q.k, .int .i64 q.at', .int .u64 q.old.t, .int .u64 q.old.a, .int .u64 q.old.b, .int .u64 q.old.c, .int .u64 q.new.t, .int .u64 q.new.a, .int .u64 q.new.b, .int .u64 q.new.c]) : RdX W (some ⟨g, 0, none⟩) [p, q] := by
  refine .inr ⟨g, 0, rfl, h.lt, fun k x hx => ?_⟩
  match k, hx with
  | 0, hx =>
    obtain rfl : p = x := by simpa using hx
    exact ⟨h.c 0 rfl, h.c 1 rfl, h.c 2 rfl, h.c 3 rfl, h.c 4 rfl, h.c 5 rfl, h.c 6 rfl, h.c 7 rfl, h.c 8 rfl, h.c 9 rfl⟩
  | 1, hx =>
    obtain rfl : q = x := by simpa using hx
    exact ⟨h.c 10 rfl, h.c 11 rfl, h.c 12 rfl, h.c 13 rfl, h.c 14 rfl, h.c 15 rfl, h.c 16 rfl, h.c 17 rfl, h.c 18 rfl, h.c 19 rfl⟩
  | k + 2, hx => simp at hx

set_option maxRecDepth 100000 in
set_option maxHeartbeats 6400000 in
theorem apart19_walk (c : Cfg) (v t v2 u : Int) (w : World) (hp : Pw w) :
    Calls Tryd.prog 11 #[.agg #[.int .u8 c.ob, .int .i64 c.inst, .int .i64 c.thr, .int .u8 c.kd, .int .i64 c.str, .int .i64 c.bits, .int .i64 c.cap, .int .i64 c.node, .int .i64 c.bat, .int .i64 c.chk, .int .u64 c.lim, .int .u64 c.most], .int .i64 v, .int .i64 t, .int .i64 v2, .int .i64 u] w fun e w' => e = .returned (.bool true) ∧ Below w.heap.size w w' := by
  have HP := Lib.hid hp
  clear hp
  go_enter Tryd.func11, Tryd.ntmps11
  go_wp2_with fail
  have HX := Lib.hid (Box.new w 24 (cfgL c))
  have HB := Lib.hid (newB w (.cells ⟨cfgL c⟩ 24))
  unfold cfgL at *
  generalize w.alloc _ = V at *
  refine (alive19_any V (HP.out.more HB.out)).mono ?_
  rintro e w1 ⟨rfl, hb⟩
  have HB := Lib.hid (keepB hb HB.out); have HX := Lib.hid (HX.out.below hb); clear hb
  have x0 := HX.out.c 0 rfl; have x1 := HX.out.c 1 rfl; have x2 := HX.out.c 2 rfl; have x3 := HX.out.c 3 rfl; have x4 := HX.out.c 4 rfl; have x5 := HX.out.c 5 rfl; have x6 := HX.out.c 6 rfl; have x7 := HX.out.c 7 rfl; have x8 := HX.out.c 8 rfl; have x9 := HX.out.c 9 rfl; have x10 := HX.out.c 10 rfl; have x11 := HX.out.c 11 rfl
  go_wp2_with fail
  refine (mArrive_any c v t w1 (HP.out.more HB.out)).mono ?_
  rintro e w2 ⟨rfl, hb⟩
  generalize hq1 : mkA c v t accArr = p1
  generalize hq2 : mkE c v t = E
  have HQ1 := Lib.hid hq1; have HE := Lib.hid hq2
  clear hq1 hq2
  rw [accV_form]
  clear x0 x1 x2 x3 x4 x5 x6 x7 x8 x9 x10 x11
  have HB := Lib.hid (keepB hb HB.out); have HX := Lib.hid (HX.out.below hb); clear hb
  have x0 := fun o => (HX.out.alloc o).c 0 rfl; have x1 := fun o => (HX.out.alloc o).c 1 rfl; have x2 := fun o => (HX.out.alloc o).c 2 rfl; have x3 := fun o => (HX.out.alloc o).c 3 rfl; have x4 := fun o => (HX.out.alloc o).c 4 rfl; have x5 := fun o => (HX.out.alloc o).c 5 rfl; have x6 := fun o => (HX.out.alloc o).c 6 rfl; have x7 := fun o => (HX.out.alloc o).c 7 rfl; have x8 := fun o => (HX.out.alloc o).c 8 rfl; have x9 := fun o => (HX.out.alloc o).c 9 rfl; have x10 := fun o => (HX.out.alloc o).c 10 rfl; have x11 := fun o => (HX.out.alloc o).c 11 rfl
  go_wp2_with fail
  refine (mArrive_any c v2 u _ (HP.out.more (moreB HB.out _))).mono ?_
  rintro e w3 ⟨rfl, hb⟩
  generalize hq1 : mkA c v2 u accArr = p2
  generalize hq2 : mkE c v2 u = F
  have HQ2 := Lib.hid hq1; have HF := Lib.hid hq2
  clear hq1 hq2
  rw [accV_form]
  have HA := Lib.hid ((Box.new w2 28 [.int .u8 p1.k, .int .i64 p1.at', .int .u64 p1.old.t, .int .u64 p1.old.a, .int .u64 p1.old.b, .int .u64 p1.old.c, .int .u64 p1.new.t, .int .u64 p1.new.a, .int .u64 p1.new.b, .int .u64 p1.new.c]).below hb)
  clear x0 x1 x2 x3 x4 x5 x6 x7 x8 x9 x10 x11
  have HB := Lib.hid (keepB hb (moreB HB.out _)); have HX := Lib.hid ((HX.out.alloc _).below hb)
  clear hb
  have x0 := fun o => (HX.out.alloc o).c 0 rfl; have x1 := fun o => (HX.out.alloc o).c 1 rfl; have x2 := fun o => (HX.out.alloc o).c 2 rfl; have x3 := fun o => (HX.out.alloc o).c 3 rfl; have x4 := fun o => (HX.out.alloc o).c 4 rfl; have x5 := fun o => (HX.out.alloc o).c 5 rfl; have x6 := fun o => (HX.out.alloc o).c 6 rfl; have x7 := fun o => (HX.out.alloc o).c 7 rfl; have x8 := fun o => (HX.out.alloc o).c 8 rfl; have x9 := fun o => (HX.out.alloc o).c 9 rfl; have x10 := fun o => (HX.out.alloc o).c 10 rfl; have x11 := fun o => (HX.out.alloc o).c 11 rfl
  go_wp2_with fail
  refine (mDepart_any c v t _ (HP.out.more (moreB HB.out _))).mono ?_
  rintro e w4 ⟨rfl, hb⟩
  rw [HE.out]
  generalize hq1 : mkA c v t accDep = p3
  have HQ3 := Lib.hid hq1
  clear hq1
  rw [accV_form]
  have HA := Lib.hid ((HA.out.alloc (.cells ⟨[.int .u8 p2.k, .int .i64 p2.at', .int .u64 p2.old.t, .int .u64 p2.old.a, .int .u64 p2.old.b, .int .u64 p2.old.c, .int .u64 p2.new.t, .int .u64 p2.new.a, .int .u64 p2.new.b, .int .u64 p2.new.c]⟩ 28)).below hb)
  have HC := Lib.hid ((Box.new w3 28 [.int .u8 p2.k, .int .i64 p2.at', .int .u64 p2.old.t, .int .u64 p2.old.a, .int .u64 p2.old.b, .int .u64 p2.old.c, .int .u64 p2.new.t, .int .u64 p2.new.a, .int .u64 p2.new.b, .int .u64 p2.new.c]).below hb)
  clear x0 x1 x2 x3 x4 x5 x6 x7 x8 x9 x10 x11
  have HB := Lib.hid (keepB hb (moreB HB.out _)); have HX := Lib.hid ((HX.out.alloc _).below hb)
  clear hb
  by_cases hE : E = 0
  · by_cases hF : F = 0
    · subst hE hF
      obtain ⟨hc, g1, g2, g3, g4⟩ := mkE_zero HE.out
      obtain ⟨hcc, g5, g6, g7, g8⟩ := mkE_zero HF.out
      obtain ⟨n1, rfl⟩ := Int.eq_ofNat_of_zero_le g1
      obtain ⟨n2, rfl⟩ := Int.eq_ofNat_of_zero_le g3
      obtain ⟨n3, rfl⟩ := Int.eq_ofNat_of_zero_le g5
      obtain ⟨n4, rfl⟩ := Int.eq_ofNat_of_zero_le g7
      have hthr : c.shp.thr = c.thr.toNat := rfl
      obtain ⟨k1, k2⟩ := apart19_plain (c := c) (v := n1) (t := n2) hc (by omega) (by omega) g4
      have a1 : p1 = ⟨2, atV c 6 n1 n2, ⟨0, 0, 0, 0⟩, ⟨0, 1, 0, 0⟩⟩ := by rw [← HQ1.out]; exact if_pos HE.out
      have a2 : p2 = ⟨2, atV c 6 n3 n4, ⟨0, 0, 0, 0⟩, ⟨0, 1, 0, 0⟩⟩ := by rw [← HQ2.out]; exact if_pos HF.out
      have a3 : p3 = ⟨2, atV c 6 n1 n2, ⟨0, 0, 0, 0⟩, ⟨0, 0, 0, 0⟩⟩ := by rw [← HQ3.out]; exact if_pos HE.out
      rw [← a1, ← a3] at k1 k2
      have hat : (p1.at' == p2.at') = (((n1 : Int) == (n3 : Int)) && ((n2 : Int) == (n4 : Int))) := by
        rw [a1, a2]
        simp only
        rw [markB_at hc (by omega) g4, markB_at hc (by omega) g8]
        unfold markB
        have q1 : n1 = 0 ∨ n1 = 1 := by omega
        have q2 : n3 = 0 ∨ n3 = 1 := by omega
        have t1 : n2 < c.shp.thr := by omega
        have t2 : n4 < c.shp.thr := by omega
        rcases q1 with rfl | rfl
        · rcases q2 with rfl | rfl
          · rw [nat_beq, nat_beq, nat_beq]; simp
          · rw [nat_beq, nat_beq, nat_beq]; simp; omega
        · rcases q2 with rfl | rfl
          · rw [nat_beq, nat_beq, nat_beq]; simp; omega
          · rw [nat_beq, nat_beq, nat_beq]; simp
      have K1 := Lib.hid k1; have K2 := Lib.hid k2; have HM := Lib.hid hc.1; have HAT := Lib.hid hat
      clear k1 k2 a1 a2 a3 hthr g1 g2 g3 g4 g5 g6 g7 g8 hc hcc hat
      have x0 := fun o => (HX.out.alloc o).c 0 rfl; have x1 := fun o => (HX.out.alloc o).c 1 rfl; have x2 := fun o => (HX.out.alloc o).c 2 rfl; have x3 := fun o => (HX.out.alloc o).c 3 rfl; have x4 := fun o => (HX.out.alloc o).c 4 rfl; have x5 := fun o => (HX.out.alloc o).c 5 rfl; have x6 := fun o => (HX.out.alloc o).c 6 rfl; have x7 := fun o => (HX.out.alloc o).c 7 rfl; have x8 := fun o => (HX.out.alloc o).c 8 rfl; have x9 := fun o => (HX.out.alloc o).c 9 rfl; have x10 := fun o => (HX.out.alloc o).c 10 rfl; have x11 := fun o => (HX.out.alloc o).c 11 rfl
      go_wp2_with fail
      have HA := Lib.hid (HA.out.alloc (.cells ⟨[.int .u8 p3.k, .int .i64 p3.at', .int .u64 p3.old.t, .int .u64 p3.old.a, .int .u64 p3.old.b, .int .u64 p3.old.c, .int .u64 p3.new.t, .int .u64 p3.new.a, .int .u64 p3.new.b, .int .u64 p3.new.c]⟩ 28))
      have HC := Lib.hid (HC.out.alloc (.cells ⟨[.int .u8 p3.k, .int .i64 p3.at', .int .u64 p3.old.t, .int .u64 p3.old.a, .int .u64 p3.old.b, .int .u64 p3.old.c, .int .u64 p3.new.t, .int .u64 p3.new.a, .int .u64 p3.new.b, .int .u64 p3.new.c]⟩ 28))
      have HD' := Box.new w4 28 [.int .u8 p3.k, .int .i64 p3.at', .int .u64 p3.old.t, .int .u64 p3.old.a, .int .u64 p3.old.b, .int .u64 p3.old.c, .int .u64 p3.new.t, .int .u64 p3.new.a, .int .u64 p3.new.b, .int .u64 p3.new.c]
      have HB := Lib.hid (moreB HB.out (.cells ⟨[.int .u8 p3.k, .int .i64 p3.at', .int .u64 p3.old.t, .int .u64 p3.old.a, .int .u64 p3.old.b, .int .u64 p3.old.c, .int .u64 p3.new.t, .int .u64 p3.new.a, .int .u64 p3.new.b, .int .u64 p3.new.c]⟩ 28))
      clear x0 x1 x2 x3 x4 x5 x6 x7 x8 x9 x10 x11
      generalize w4.alloc _ = Z at *
      have HD := Lib.hid HD'
      clear HD'
      refine (Fresh_any c Z (HP.out.more HB.out)).mono ?_
      rintro e w5 ⟨fa, fc, rfl, hR, hb⟩
      rw [show checkE c = 0 by simp [checkE, HM.out]]
      rw [show frL c = freshL c by simp [frL, HM.out]] at hR ⊢
      have HR := Lib.hid hR
      have HL := Lib.hid (freshL_len c)
      have HN := Lib.hid (all_le (May.small HM.out)).1
      have HA := Lib.hid (HA.out.below hb); have HC := Lib.hid (HC.out.below hb); have HD := Lib.hid (HD.out.below hb)
      have HB := Lib.hid (keepB hb HB.out)
      clear hR hb
      generalize freshL c = l at *
      have a0 := HA.out.c 0 rfl
      have a1 := HA.out.c 1 rfl
      have a2 := HA.out.c 2 rfl
      have a3 := HA.out.c 3 rfl
      have a4 := HA.out.c 4 rfl
      have a5 := HA.out.c 5 rfl
      have a6 := HA.out.c 6 rfl
      have a7 := HA.out.c 7 rfl
      have a8 := HA.out.c 8 rfl
      have a9 := HA.out.c 9 rfl
      have d0 := HD.out.c 0 rfl
      have d1 := HD.out.c 1 rfl
      have d2 := HD.out.c 2 rfl
      have d3 := HD.out.c 3 rfl
      have d4 := HD.out.c 4 rfl
      have d5 := HD.out.c 5 rfl
      have d6 := HD.out.c 6 rfl
      have d7 := HD.out.c 7 rfl
      have d8 := HD.out.c 8 rfl
      have d9 := HD.out.c 9 rfl
      go_wp2_with fail
      clear a0 a1 a2 a3 a4 a5 a6 a7 a8 a9 d0 d1 d2 d3 d4 d5 d6 d7 d8 d9
      refine (Run_go fa (some ⟨w5.heap.size, 0, none⟩) fc 2 l [p1, p3] _ (HR.out.below (newB w5 _)) (rdx2 (Box.new w5 28 [.int .u8 p1.k, .int .i64 p1.at', .int .u64 p1.old.t, .int .u64 p1.old.a, .int .u64 p1.old.b, .int .u64 p1.old.c, .int .u64 p1.new.t, .int .u64 p1.new.a, .int .u64 p1.new.b, .int .u64 p1.new.c, .int .u8 p3.k, .int .i64 p3.at', .int .u64 p3.old.t, .int .u64 p3.old.a, .int .u64 p3.old.b, .int .u64 p3.old.c, .int .u64 p3.new.t, .int .u64 p3.new.a, .int .u64 p3.new.b, .int .u64 p3.new.c])) (by have := HL.out; have := HN.out; omega) (by simp)).mono ?_
      rintro e w6 ⟨hb, h⟩
      rcases h with ⟨_, x, s, rfl, ho, _⟩ | ⟨h0, _⟩
      case inr => exact absurd K2.out h0
      rw [K1.out] at ho
      obtain ⟨xa, xc, rfl, hrx, _⟩ := own_form ho
      have HRX := Lib.hid hrx
      have hb2 : Below w5.heap.size w5 w6 := keepB hb (newB w5 _)
      have HR := Lib.hid (HR.out.below hb2); have HA := Lib.hid (HA.out.below hb2); have HC := Lib.hid (HC.out.below hb2)
      have HB := Lib.hid (keepB hb2 HB.out)
      clear hb hb2 ho hrx
      go_wp2_with fail
      go_loopw [23] (fun i wr => ∃ k : Nat, k ≤ l.length ∧ i = .int .i64 k ∧ Below w6.heap.size w6 wr) (fun i _ => l.length - (intOf i).toNat)
      case atStart => exact ⟨0, Nat.zero_le _, rfl, Below.refl _ _⟩
      case round =>
        obtain ⟨k, hk, rfl, hb⟩ := hrel
        by_cases hlt : k < l.length
        · obtain ⟨y, hy⟩ : ∃ y, l[k]? = some y := ⟨_, List.getElem?_eq_getElem hlt⟩
          obtain ⟨b, off, rfl⟩ := HR.out.addr hlt
          obtain ⟨b', off', rfl⟩ := HRX.out.addr hlt
          obtain ⟨c0, c1, c2, c3⟩ := (HR.out.below hb).get hy
          obtain ⟨d0, d1, d2, d3⟩ := (HRX.out.below hb).get hy
          have HB7 := Lib.hid hb
          have i1 : (0 : Int) ≤ (k : Int) := by omega
          have i2 : (k : Int) < (l.length : Int) := by omega
          have hll : l.length ≤ 715 := by have := HL.out; have := HN.out; omega
          clear hb hy
          go_wp2_with fail
          go_quiet (fail)
          have HB8 := Lib.hid (below_drewN HB7.out nq)
          generalize wr.drewN nq = wx at HB8 ⊢
          go_wp2_with fail
          go_roundw
          case rel => exact ⟨k + 1, by omega, by go_num, HB8.out⟩
          case measure => simp [intOf]; omega
        · have HB7 := Lib.hid hb
          have i2 : (l.length : Int) ≤ (k : Int) := by omega
          have a1 := (HA.out.below hb).c 1 rfl
          have c1 := (HC.out.below hb).c 1 rfl
          clear hb
          by_cases q1 : n1 = n3
          · have e1 : ((n1 : Int) == (n3 : Int)) = true := by simp [q1]
            have e2 : (p1.at' == p2.at') = ((n2 : Int) == (n4 : Int)) := by rw [HAT.out, e1]; rfl
            clear q1
            cases e3 : ((n2 : Int) == (n4 : Int))
            all_goals
              rw [e3] at e2
              go_wp2_with fail
              go_ret
              exact ⟨rfl, keepB HB7.out HB.out⟩
          · have e1 : ((n1 : Int) == (n3 : Int)) = false := by simp; omega
            have e2 : (p1.at' == p2.at') = false := by rw [HAT.out, e1]; rfl
            clear q1
            go_wp2_with fail
            go_ret
            exact ⟨rfl, keepB HB7.out HB.out⟩
    · subst hE
      have e2 : (F != 0) = true := by simpa using hF
      clear hF
      go_wp2_with fail
      go_ret
      exact ⟨rfl, moreB HB.out _⟩
  · have e1 : (E != 0) = true := by simpa using hE
    clear hE
    go_wp2_with fail
    go_ret
    exact ⟨rfl, moreB HB.out _⟩

set_option linter.unusedVariables false in
theorem walk_MarkApart (n0_0 n0_1 n0_2 n0_3 n0_4 n0_5 n0_6 n0_7 n0_8 n0_9 n0_10 n0_11 n1 n2 n3 n4 : Int) (w : World) (b0_0 : IntKind.u8.min ≤ n0_0 ∧ n0_0 ≤ IntKind.u8.max) (b0_1 : IntKind.i64.min ≤ n0_1 ∧ n0_1 ≤ IntKind.i64.max) (b0_2 : IntKind.i64.min ≤ n0_2 ∧ n0_2 ≤ IntKind.i64.max) (b0_3 : IntKind.u8.min ≤ n0_3 ∧ n0_3 ≤ IntKind.u8.max) (b0_4 : IntKind.i64.min ≤ n0_4 ∧ n0_4 ≤ IntKind.i64.max) (b0_5 : IntKind.i64.min ≤ n0_5 ∧ n0_5 ≤ IntKind.i64.max) (b0_6 : IntKind.i64.min ≤ n0_6 ∧ n0_6 ≤ IntKind.i64.max) (b0_7 : IntKind.i64.min ≤ n0_7 ∧ n0_7 ≤ IntKind.i64.max) (b0_8 : IntKind.i64.min ≤ n0_8 ∧ n0_8 ≤ IntKind.i64.max) (b0_9 : IntKind.i64.min ≤ n0_9 ∧ n0_9 ≤ IntKind.i64.max) (b0_10 : IntKind.u64.min ≤ n0_10 ∧ n0_10 ≤ IntKind.u64.max) (b0_11 : IntKind.u64.min ≤ n0_11 ∧ n0_11 ≤ IntKind.u64.max) (b1 : IntKind.i64.min ≤ n1 ∧ n1 ≤ IntKind.i64.max) (b2 : IntKind.i64.min ≤ n2 ∧ n2 ≤ IntKind.i64.max) (b3 : IntKind.i64.min ≤ n3 ∧ n3 ≤ IntKind.i64.max) (b4 : IntKind.i64.min ≤ n4 ∧ n4 ≤ IntKind.i64.max) (hp : Pw w) :
    Calls Tryd.prog 11 #[.agg #[.int .u8 n0_0, .int .i64 n0_1, .int .i64 n0_2, .int .u8 n0_3, .int .i64 n0_4, .int .i64 n0_5, .int .i64 n0_6, .int .i64 n0_7, .int .i64 n0_8, .int .i64 n0_9, .int .u64 n0_10, .int .u64 n0_11], .int .i64 n1, .int .i64 n2, .int .i64 n3, .int .i64 n4] w fun e w' => e = .returned (.bool true) ∧ Below w.heap.size w w' :=
  apart19_walk ⟨n0_0, n0_1, n0_2, n0_3, n0_4, n0_5, n0_6, n0_7, n0_8, n0_9, n0_10, n0_11⟩ n1 n2 n3 n4 w hp

end Go.Proofs.YtdabhkbmdmlgcaaDoor
