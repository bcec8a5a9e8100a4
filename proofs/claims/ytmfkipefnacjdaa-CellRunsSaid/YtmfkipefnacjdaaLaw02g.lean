/- The walk of CellRuns. -/
import Derived.Test.YtmfkipefnacjdaaOuts
namespace Go.Proofs.Ytmfkipefnacjdaa
open Go.RowKit

theorem belowN {B : Nat} {a w : World} (h : Below B a w) (n : Nat) : Below B a (w.drewN n) := ⟨h.os, h.tape, h.output, h.size, h.block⟩
theorem runs_long (a0 a1 : Option Addr) (l0 c0 l1 c1 : Nat) (w : World) (h : 100 < l1) : Calls Try.prog 5 #[.slice a0 l0 c0, .slice a1 l1 c1] w fun e w' => e = .returned (.bool true) ∧ Below w.heap.size w w' := by
  go_enter Try.func5, Try.ntmps5
  go_wp2_with fail
  go_ret
  exact ⟨rfl, Below.refl _ _⟩

set_option maxHeartbeats 6400000 in
theorem runs_go (a0 a1 : Option Addr) (c0 c1 : Nat) (l : List Cel) (xs : List Acc) (w : World) (hR : Rd w a0 c0 l) (hX : RdX w a1 xs) (hz : l.length * 32 ≤ 140737488351232) (hx : xs.length ≤ 100) (hnx : a1 = none → xs.length = 0 ∧ c1 = 0) : Calls Try.prog 5 #[.slice a0 l.length c0, .slice a1 xs.length c1] w fun e w' => e = .returned (.bool true) ∧ Below w.heap.size w w' := by
  obtain ⟨k0, hk0, hq0, hq1, hq2⟩ := info_parts infoAcc
  obtain ⟨k1, hk1, hp0, hp1, hp2⟩ := info_parts infoCell
  have i0 : (xs.length : Int) ≤ 100 := by omega
  have HR := Lib.hid hR; have HX := Lib.hid hX; have HNX := Lib.hid hnx
  clear hR hX hnx
  go_enter Try.func5, Try.ntmps5
  go_wp2_with (first | (at_builtin; refine wpList_append_copy rfl _ _ 22 rfl w.heap.size 30 k1 (.agg #[.int .u64 0, .int .u64 0, .int .u64 0, .int .u64 0]) 4 32 Try.underlying22 hk1 hp0 hp1 hp2 rfl (by decide) _ rfl (World.ownsRow_lit w #[] 0 (Nat.le_refl _) (by decide) rfl) a0 l.length c0 (celsV l) rfl (fun e => by have := HR.out.nil e; rw [this.1, this.2]; exact ⟨rfl, rfl⟩) (celsV_len l) (HR.out.below (newB w _)).news (celsV_one l) (by unfold maxLen; omega) (by omega) (by simp) ?_; intro v1 w1 hown1 hgrow1; obtain ⟨am, cm, rfl, hRm, _⟩ := own_form (show Own w1 w.heap.size v1 l from by unfold Own; simpa using hown1); have HM1 := Lib.hid hRm; have HB1 := Lib.hid (((Below.refl _ w).alloc (Nat.le_refl _) _).grown hgrow1 (by simp) (fun j e => by cases e; exact Nat.le_refl _)); clear hown1 hgrow1 hRm; have HX1 := Lib.hid (HX.out.below HB1.out); have HR1 := Lib.hid (HR.out.below HB1.out); clear HX HR) | (at_builtin; refine wpList_append_copy rfl _ _ 23 rfl w1.heap.size 36 k0 (.agg #[.int .u8 0, .int .i64 0, .int .u64 0, .int .u64 0, .int .u64 0, .int .u64 0, .int .u64 0, .int .u64 0, .int .u64 0, .int .u64 0]) 10 80 Try.underlying23 hk0 hq0 hq1 hq2 rfl (by decide) _ rfl (World.ownsRow_lit w1 #[] 0 (Nat.le_refl _) (by decide) rfl) a1 xs.length c1 (accsV xs) rfl HNX.out (accsV_len xs) (rdxnews (HX1.out.below (newB w1 _))) (accsV_one xs) (by unfold maxLen; omega) (by omega) (by simp) ?_; intro v2 w2 hown2 hgrow2; obtain ⟨an, cn, rfl, hXn⟩ := rdx_of_own (show w2.ownsRow w1.heap.size 36 10 v2 xs.length (accsV xs) from by simpa using hown2) rfl; have HXN2 := Lib.hid hXn; have HC2 := Lib.hid (((Below.refl _ w1).alloc (Nat.le_refl _) _).grown hgrow2 (by simp) (fun j e => by cases e; exact Nat.le_refl _)); clear hown2 hgrow2 hXn))
  have HX2 := Lib.hid (HX1.out.below HC2.out)
  have HR2 := Lib.hid (HR1.out.below HC2.out)
  have HM2 := Lib.hid (HM1.out.below HC2.out)
  have HB2 := Lib.hid (keepB HC2.out HB1.out)
  clear HX1 HR1 HM1 HC2 HB1
  refine (Run_out _ _ _ _ l xs _ HM2.out HXN2.out (by omega)).mono ?_
  rintro e w3 ⟨ao, co, bo, dd, rfl, hO, hS, hb⟩
  have HO3 := Lib.hid hO; have HS3 := Lib.hid hS; have HC3 := Lib.hid hb
  clear hO hS hb
  go_wp2_with fail
  refine (rRun_out _ _ _ _ l xs _ (HR2.out.below HC3.out) (HX2.out.below HC3.out) (by omega)).mono ?_
  rintro e w4 ⟨ar, cr, br, dr, rfl, hO, hS, hb⟩
  have HP4 := Lib.hid hO; have HT4 := Lib.hid hS; have HO4 := Lib.hid (own_below HO3.out hb); have HS4 := Lib.hid (own_below HS3.out hb); have HC4 := Lib.hid (keepB hb HC3.out)
  clear hO hS hb HO3 HS3 HC3
  have lo1 := outL_le l xs
  have so1 := outS_le l xs
  generalize outL l xs = lo at *
  generalize outS l xs = so at *
  generalize outE l xs = er at *
  go_wp2_with fail
  refine (SameCells_len' ao ar co cr lo.length lo _ rfl (own_rd HO4.out).1 (own_rd HP4.out).1 (by omega)).mono ?_
  rintro e w5 ⟨rfl, hb⟩
  have HT5 := Lib.hid (own_below HT4.out hb); have HO5 := Lib.hid (own_below HO4.out hb); have HS5 := Lib.hid (own_below HS4.out hb); have HC5 := Lib.hid (keepB hb HC4.out)
  clear hb HP4 HT4 HO4 HS4 HC4
  go_wp2_with fail
  go_loopw [14] (fun i wr => ∃ (k : Nat) (l' : List Cel), k ≤ lo.length ∧ i = .int .i64 k ∧ l'.length = lo.length ∧ Own wr w2.heap.size (.slice ao lo.length co) l' ∧ w5.grownBy wr (Value.slice ao lo.length co).ownBlock) (fun i _ => lo.length - (intOf i).toNat)
  case atStart => exact ⟨0, lo, Nat.zero_le _, rfl, rfl, HO5.out, ⟨rfl, rfl, rfl, Nat.le_refl _, fun _ _ _ => rfl⟩⟩
  case round =>
    obtain ⟨k, l', hk, rfl, hl', ho, hg⟩ := hrel
    by_cases hlt : k < lo.length
    · obtain ⟨g, rfl⟩ := own_at ho (by rw [hl']; exact hlt)
      rw [← hl'] at ho hlt
      obtain ⟨c0', c1', c2', c3'⟩ := own_cells ho hlt
      obtain ⟨y, hy⟩ : ∃ y, y = l'.getD k .zero := ⟨_, rfl⟩
      rw [← hy] at c0' c1' c2' c3'
      have f0 := ho.frozenAt (k * 4)
      have f1 := ho.frozenAt (k * 4 + 1)
      have f2 := ho.frozenAt (k * 4 + 2)
      have f3 := ho.frozenAt (k * 4 + 3)
      have HS := Lib.hid (own_stored ho hlt ⟨99, 98, 97, 96⟩)
      have HG := Lib.hid hg
      rw [hl'] at hlt
      have HL' := Lib.hid hl'
      have j1 : (0 : Int) ≤ (k : Int) := by omega
      have j2 : (k : Int) < (lo.length : Int) := by omega
      clear ho hg hy hl'
      go_wp2_with fail
      go_roundw
      case rel =>
        refine ⟨k + 1, l'.set k ⟨99, 98, 97, 96⟩, by omega, by go_num, by rw [List.length_set]; exact HL'.out, ?_, HG.out.trans HS.out.2⟩
        have := HS.out.1
        rw [HL'.out] at this
        exact this
      case measure => simp [intOf]; omega
    · have HG := Lib.hid hg
      have HC6 := Lib.hid ((HC5.out).grown hg HC5.out.size (fun j e => (World.ownsRow.lt HO5.out j e).1))
      have HS6 := Lib.hid (World.ownsRow.kept HS5.out hg (own_apart HS5.out HO5.out (by decide)))
      have HT6 := Lib.hid (World.ownsRow.kept HT5.out hg (own_apart HT5.out HO5.out (by decide)))
      have j2 : (lo.length : Int) ≤ (k : Int) := by omega
      clear ho hg hl' HO5 HS5 HT5 HC5
      go_wp2_with fail
      rename World => w6
      go_loopw [15] (fun i wr => ∃ k : Nat, k ≤ xs.length ∧ i = .int .i64 k ∧ Below w6.heap.size w6 wr) (fun i _ => xs.length - (intOf i).toNat)
      case atStart => exact ⟨0, Nat.zero_le _, rfl, Below.refl _ _⟩
      case round =>
        obtain ⟨m, hm, rfl, hbl⟩ := hrel
        by_cases hlt2 : m < xs.length
        · obtain ⟨x, hxx⟩ : ∃ x, xs[m]? = some x := ⟨_, List.getElem?_eq_getElem hlt2⟩
          obtain ⟨b1, o1, rfl⟩ := HX2.out.addr hlt2
          obtain ⟨b2, o2, rfl⟩ := HXN2.out.addr hlt2
          obtain ⟨x0, x1, x2, x3, x4, x5, x6, x7, x8, x9⟩ := ((HX2.out.below HC6.out).below hbl).get hxx
          obtain ⟨z0, z1, z2, z3, z4, z5, z6, z7, z8, z9⟩ := ((HXN2.out.below HC6.out).below hbl).get hxx
          have HBL := Lib.hid hbl
          have j3 : (0 : Int) ≤ (m : Int) := by omega
          have j4 : (m : Int) < (xs.length : Int) := by omega
          clear hbl hxx
          go_wp2_with fail
          go_quiet (fail)
          have HBL2 := Lib.hid (belowN HBL.out nq)
          clear x0 x1 x2 x3 x4 x5 x6 x7 x8 x9 z0 z1 z2 z3 z4 z5 z6 z7 z8 z9
          generalize wr.drewN nq = wx at HBL2 ⊢
          go_wp2_with fail
          go_roundw
          case rel => exact ⟨m + 1, by omega, by go_num, HBL2.out⟩
          case measure => simp [intOf]; omega
        · obtain rfl : m = xs.length := by omega
          have HBL := Lib.hid hbl
          have j5 : (xs.length : Int) ≤ (xs.length : Int) := by omega
          obtain ⟨_, _, e1, hs7⟩ := own_seens (own_below HS6.out hbl) rfl
          obtain ⟨_, _, e2, ht7⟩ := own_seens (own_below HT6.out hbl) rfl
          cases e1; cases e2
          have HS7 := Lib.hid hs7; have HT7 := Lib.hid ht7
          clear hbl hs7 ht7
          go_wp2_with fail
          refine (SameSeen_len _ _ _ _ so.length so _ rfl HS7.out HT7.out (by omega)).mono ?_
          rintro e w7 ⟨rfl, hb⟩
          have HB7 := Lib.hid (keepB hb HBL.out)
          clear hb
          go_wp2_with fail
          refine (SameCells_len' _ _ _ _ l.length l _ rfl ((HM2.out.below HC6.out).below HB7.out) ((HR2.out.below HC6.out).below HB7.out) (by omega)).mono ?_
          rintro e w8 ⟨rfl, hb⟩
          have HB8 := Lib.hid (keepB hb HB7.out)
          clear hb
          go_wp2_with fail
          go_ret
          exact ⟨rfl, keepB HB8.out (keepB HC6.out HB2.out)⟩

theorem walk_CellRuns (a0 : Option Addr) (l0 c0 : Nat) (a1 : Option Addr) (l1 c1 : Nat) (w : World) (s0 : Fra.Slc w [.u64, .u64, .u64, .u64] a0 l0 c0) (s1 : Fra.Slc w [.u8, .i64, .u64, .u64, .u64, .u64, .u64, .u64, .u64, .u64] a1 l1 c1) (hz : l0 * 32 ≤ 140737488351232) :
    Calls Try.prog 5 #[.slice a0 l0 c0, .slice a1 l1 c1] w fun e w' => e = .returned (.bool true) ∧ Below w.heap.size w w' := by
  obtain ⟨l, rfl, hR⟩ := slc_cells s0
  obtain ⟨xs, hxl, hX⟩ := slc_accs s1
  subst hxl
  by_cases h : xs.length ≤ 100
  · refine runs_go a0 a1 c0 c1 l xs w hR hX hz h ?_
    intro e
    rcases s1 with ⟨_, h1, h2⟩ | ⟨b, off, f, h1, _⟩
    · exact ⟨h1, h2⟩
    · rw [e] at h1; cases h1
  · exact runs_long a0 a1 _ c0 _ c1 w (by omega)

end Go.Proofs.Ytmfkipefnacjdaa
