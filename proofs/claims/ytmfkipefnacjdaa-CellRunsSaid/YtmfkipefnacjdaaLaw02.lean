/- The walk of CellDoes. -/
import Derived.Test.YtmfkipefnacjdaaCellRefC
import Derived.Test.YtmfkipefnacjdaaFrame
namespace Go.Proofs.Ytmfkipefnacjdaa
open Go.RowKit

theorem slc_cells {w : World} {a : Option Addr} {n c : Nat} (h : Fra.Slc w [.u64, .u64, .u64, .u64] a n c) : ∃ l : List Cel, l.length = n ∧ Rd w a c l := by
  rcases h with ⟨rfl, rfl, rfl⟩ | ⟨b, off, f, rfl, hb, hl, hm, ht⟩
  · exact ⟨[], rfl, ⟨fun _ => ⟨rfl, rfl⟩, .inl rfl⟩⟩
  · refine ⟨(List.range n).map fun i => ⟨(f i 0).toNat, (f i 1).toNat, (f i 2).toNat, (f i 3).toNat⟩, by simp, ⟨by simp, .inr ⟨b, off, rfl, .inr hb, fun j u hu => ?_⟩⟩⟩
    have hj : j < n * 4 := by
      have := (List.getElem?_eq_some_iff.1 hu).1
      rwa [celsV_len, List.length_map, List.length_range] at this
    have hk : j / 4 < n := by omega
    have hx : ((List.range n).map fun i => (⟨(f i 0).toNat, (f i 1).toNat, (f i 2).toNat, (f i 3).toNat⟩ : Cel))[j / 4]? = some ⟨(f (j / 4) 0).toNat, (f (j / 4) 1).toNat, (f (j / 4) 2).toNat, (f (j / 4) 3).toNat⟩ := by simp [hk]
    obtain ⟨g0, g1, g2, g3⟩ := celsV_at _ _ _ hx
    have cell : ∀ r, r < 4 → w.cell? ⟨b, off + j / 4 * 4 + r, none⟩ = some (.int .u64 ((f (j / 4) r).toNat : Int)) := by
      intro r hr
      have hk' : [IntKind.u64, IntKind.u64, IntKind.u64, IntKind.u64][r]? = some IntKind.u64 := by
        match r, hr with
        | 0, _ => rfl
        | 1, _ => rfl
        | 2, _ => rfl
        | 3, _ => rfl
      have h1 := ht (j / 4) r .u64 hk hk'
      have h2 := h1.2.1
      simp [IntKind.min, IntKind.signed] at h2
      rw [Int.toNat_of_nonneg h2]
      exact h1.1
    have hr : j % 4 = 0 ∨ j % 4 = 1 ∨ j % 4 = 2 ∨ j % 4 = 3 := by omega
    rcases hr with hr | hr | hr | hr
    · have e : j = j / 4 * 4 := by omega
      rw [e, g0] at hu
      cases hu
      have := cell 0 (by omega)
      rwa [show off + j / 4 * 4 + 0 = off + j from by omega] at this
    · have e : j = j / 4 * 4 + 1 := by omega
      rw [e, g1] at hu
      cases hu
      have := cell 1 (by omega)
      rwa [show off + j / 4 * 4 + 1 = off + j from by omega] at this
    · have e : j = j / 4 * 4 + 2 := by omega
      rw [e, g2] at hu
      cases hu
      have := cell 2 (by omega)
      rwa [show off + j / 4 * 4 + 2 = off + j from by omega] at this
    · have e : j = j / 4 * 4 + 3 := by omega
      rw [e, g3] at hu
      cases hu
      have := cell 3 (by omega)
      rwa [show off + j / 4 * 4 + 3 = off + j from by omega] at this

theorem slc_accs {w : World} {a : Option Addr} {n c : Nat} (h : Fra.Slc w [.u8, .i64, .u64, .u64, .u64, .u64, .u64, .u64, .u64, .u64] a n c) : ∃ xs : List Acc, xs.length = n ∧ RdX w a xs := by
  rcases h with ⟨rfl, rfl, rfl⟩ | ⟨b, off, f, rfl, hb, hl, hm, ht⟩
  · exact ⟨[], rfl, .inl rfl⟩
  · refine ⟨(List.range n).map fun i => ⟨f i 0, f i 1, ⟨(f i 2).toNat, (f i 3).toNat, (f i 4).toNat, (f i 5).toNat⟩, ⟨(f i 6).toNat, (f i 7).toNat, (f i 8).toNat, (f i 9).toNat⟩⟩, by simp, .inr ⟨b, off, rfl, hb, fun k x hx => ?_⟩⟩
    have hk : k < n := by
      have := (List.getElem?_eq_some_iff.1 hx).1
      simpa using this
    simp [hk] at hx
    subst hx
    have cell : ∀ r, 2 ≤ r → r < 10 → w.cell? ⟨b, off + k * 10 + r, none⟩ = some (.int .u64 ((f k r).toNat : Int)) := by
      intro r hr0 hr
      have hk' : [IntKind.u8, IntKind.i64, IntKind.u64, IntKind.u64, IntKind.u64, IntKind.u64, IntKind.u64, IntKind.u64, IntKind.u64, IntKind.u64][r]? = some IntKind.u64 := by
        match r, hr0, hr with
        | 2, _, _ => rfl
        | 3, _, _ => rfl
        | 4, _, _ => rfl
        | 5, _, _ => rfl
        | 6, _, _ => rfl
        | 7, _, _ => rfl
        | 8, _, _ => rfl
        | 9, _, _ => rfl
      have h1 := ht k r .u64 hk hk'
      have h2 := h1.2.1
      simp [IntKind.min, IntKind.signed] at h2
      rw [Int.toNat_of_nonneg h2]
      exact h1.1
    exact ⟨(ht k 0 .u8 hk rfl).1, (ht k 1 .i64 hk rfl).1, cell 2 (by omega) (by omega), cell 3 (by omega) (by omega), cell 4 (by omega) (by omega), cell 5 (by omega) (by omega), cell 6 (by omega) (by omega), cell 7 (by omega) (by omega), cell 8 (by omega) (by omega), cell 9 (by omega) (by omega)⟩

theorem rDo_len (a : Option Addr) (c n : Nat) (l : List Cel) (x : Acc) (w : World) (hl : l.length = n) (h : Rd w a c l) (hn : n ≤ 100000000) : Calls Try.prog 11 #[.slice a n c, .agg #[.int .u8 x.k, .int .i64 x.at', .int .u64 x.old.t, .int .u64 x.old.a, .int .u64 x.old.b, .int .u64 x.old.c, .int .u64 x.new.t, .int .u64 x.new.a, .int .u64 x.new.b, .int .u64 x.new.c]] w fun e w' =>
    ∃ a' c', e = .returned (.tuple #[.slice a' n c', .agg #[.int .u64 (doS l x).1.t, .int .u64 (doS l x).1.a, .int .u64 (doS l x).1.b, .int .u64 (doS l x).1.c, .bool (doS l x).2], .int .i64 (doE l x)]) ∧ Rd w' a' c' (doL l x)
    ∧ ((a' = a ∧ c' = c) ∨ a' = none ∨ ∃ g, a' = some ⟨g, 0, none⟩ ∧ w.heap.size ≤ g) ∧ Below w.heap.size w w' := by
  subst hl
  exact rDo_any a c l x w h hn
theorem SameCells_len (a a' : Option Addr) (c c' n : Nat) (l : List Cel) (w : World) (hl : l.length = n) (h : Rd w a c l) (h' : Rd w a' c' l) (hn : n ≤ 4611686018427387904) : Calls Try.prog 13 #[.slice a n c, .slice a' n c'] w fun e w' => e = .returned (.bool true) ∧ Below w.heap.size w w' := by
  subst hl
  exact SameCells_eq a a' c c' l w h h' hn
theorem Cells_len (p B n : Nat) (v : Value) (l : List Cel) (w : World) (hl : l.length = n) (hm : Box w p [v]) (ho : Own w B v l) (hn : n ≤ 1024) : Calls Try.prog 14 #[.pointer (some ⟨p, 0, none⟩)] w fun e w' => ∃ a c, e = .returned (.slice a n c) ∧ Rd w' a c l ∧ Below w.heap.size w w' := by
  subst hl
  refine (Cells_any p B v l w hm ho hn).mono ?_
  rintro e w' ⟨v', rfl, ho', hb⟩
  obtain ⟨a, c, rfl, hR, _⟩ := own_form ho'
  exact ⟨a, c, rfl, hR, hb⟩

theorem walk_CellDoes_long (a0 : Option Addr) (l0 c0 : Nat) (a1 : Option Addr) (l1 c1 : Nat) (w : World) (h : 100 < l1) : Calls Try.prog 3 #[.slice a0 l0 c0, .slice a1 l1 c1] w fun e w' => e = .returned (.bool true) ∧ Below w.heap.size w w' := by
  go_enter Try.func3, Try.ntmps3
  go_wp2_with fail
  go_ret
  exact ⟨rfl, Below.refl _ _⟩
theorem walk_CellDoes_many (a0 : Option Addr) (l0 c0 : Nat) (a1 : Option Addr) (l1 c1 : Nat) (w : World) (h : l1 ≤ 100) (h' : 1024 < l0) : Calls Try.prog 3 #[.slice a0 l0 c0, .slice a1 l1 c1] w fun e w' => e = .returned (.bool true) ∧ Below w.heap.size w w' := by
  go_enter Try.func3, Try.ntmps3
  go_wp2_with fail
  refine (New_many a0 l0 c0 _ h').mono ?_
  rintro e w1 ⟨rfl, rfl⟩
  go_wp2_with fail
  go_ret
  exact ⟨rfl, Below.refl _ _⟩

set_option maxHeartbeats 3200000 in
theorem walk_CellDoes_go (a0 : Option Addr) (l0 c0 : Nat) (a1 : Option Addr) (l1 c1 : Nat) (l : List Cel) (xs : List Acc) (w : World) (hl : l.length = l0) (hxl : xs.length = l1) (hR : Rd w a0 c0 l) (hX : RdX w a1 xs) (h : l1 ≤ 100) (h' : l0 ≤ 1024) : Calls Try.prog 3 #[.slice a0 l0 c0, .slice a1 l1 c1] w fun e w' => e = .returned (.bool true) ∧ Below w.heap.size w w' := by
  obtain ⟨k0, hk0, hq0, hq1, hq2⟩ := info_parts infoCell
  have HNEW := Lib.hid (show ∀ W, Rd W a0 c0 l → Calls Try.prog 9 #[.slice a0 l0 c0] W (NewPost W l) by subst hl; exact fun W hW => New_any a0 c0 l W hW h')
  have HR := Lib.hid hR; have HX := Lib.hid hX; have HL := Lib.hid hl; have HXL := Lib.hid hxl
  clear hR hX hl hxl
  go_enter Try.func3, Try.ntmps3
  go_wp2_with fail
  refine (HNEW.out _ HR.out).mono ?_
  rintro e w1 ⟨p, v, rfl, hm, ho, hp, hwp, hb⟩
  obtain ⟨av, cv, hv, _⟩ := own_form ho
  rw [HL.out] at hv
  subst hv
  have hgv : ∀ g, (Value.slice av l0 cv).ownBlock = some g → g < w1.heap.size := fun g e => (World.ownsRow.lt ho g e).2
  have HM := Lib.hid hm; have HO := Lib.hid ho; have HB := Lib.hid hb; have HP := Lib.hid hp; have HGV := Lib.hid hgv
  clear hm ho hp hb hwp hgv HNEW
  go_wp2_with (at_builtin; refine wpList_append_copy rfl _ _ 22 rfl w1.heap.size 30 k0 (.agg #[.int .u64 0, .int .u64 0, .int .u64 0, .int .u64 0]) 4 32 Try.underlying22 hk0 hq0 hq1 hq2 rfl (by decide) _ rfl (World.ownsRow_lit w1 #[] 0 (Nat.le_refl _) (by decide) rfl) a0 l0 c0 (celsV l) rfl (fun e => by have := HR.out.nil e; have h2 := HL.out; rw [this.1] at h2; exact ⟨h2.symm, this.2⟩) (by rw [celsV_len, HL.out]) ((HR.out.below HB.out).below (newB w1 _)).news (celsV_one l) (by unfold maxLen; omega) (by omega) (by simp) ?_; intro v2 w2 hown2 hgrow2; have hb2 : Below w1.heap.size w1 w2 := ((Below.refl _ w1).alloc (Nat.le_refl _) _).grown hgrow2 (by simp) (fun j e => by cases e; exact Nat.le_refl _); have HO2 := Lib.hid hown2; have HB2 := Lib.hid hb2; clear hown2 hgrow2 hb2)
  obtain ⟨a2, c2, rfl, hr2, hb2⟩ : ∃ a2 c2, v2 = .slice a2 l0 c2 ∧ Rd w2 a2 c2 l ∧ ∀ b off, a2 = some ⟨b, off, none⟩ → (Value.slice av l0 cv).ownBlock ≠ some b := by
    have ho2 : Own w2 w1.heap.size v2 l := by unfold Own; rw [HL.out]; exact HO2.out
    obtain ⟨a2, c2, e, hr, hg⟩ := own_form ho2
    refine ⟨a2, c2, by rw [e, HL.out], hr, fun b off e1 e2 => ?_⟩
    have h3 := HGV.out b e2
    rcases hg with hg | ⟨g, hg, hB, _⟩
    · rw [hg] at e1; cases e1
    · rw [hg] at e1; cases e1; omega
  have HM2 := Lib.hid (HM.out.below HB2.out); have HOO := Lib.hid (own_below HO.out HB2.out); have HB0 := Lib.hid (keepB HB2.out HB.out)
  have HR2 := Lib.hid hr2; have HNE := Lib.hid hb2
  clear hr2 hb2 HM HO HB HB2 HO2 HGV
  go_wp2_with fail
  go_loopw [7, 8, 9, 10, 11, 12, 13] (fun nw i _ _ _ _ _ wr => ∃ k : Nat, k ≤ l1 ∧ i = .int .i64 k ∧ Box wr p [.slice av l0 cv] ∧ Own wr w.heap.size (.slice av l0 cv) (runL l (xs.take k)) ∧ Below w.heap.size w wr ∧ ∃ a' c', nw = .slice a' l0 c' ∧ Rd wr a' c' (runL l (xs.take k)) ∧ ∀ b off, a' = some ⟨b, off, none⟩ → (Value.slice av l0 cv).ownBlock ≠ some b) (fun _ i _ _ _ _ _ _ => l1 - (intOf i).toNat)
  case atStart => exact ⟨0, Nat.zero_le _, rfl, HM2.out, HOO.out, HB0.out, a2, c2, rfl, HR2.out, HNE.out⟩
  case round =>
    obtain ⟨k, hk, rfl, hm, ho, hb, a', c', rfl, hr, hne⟩ := hrel
    have HM3 := Lib.hid hm; have HO3 := Lib.hid ho; have HB3 := Lib.hid hb; have HR3 := Lib.hid hr; have HN3 := Lib.hid hne
    have hlen := (runL_len (xs.take k) l).trans HL.out
    have HLN := Lib.hid hlen
    clear hm ho hb hr hne hlen HM2 HOO HB0 HR2 HNE
    by_cases hlt : k < l1
    · obtain ⟨x, hx⟩ : ∃ x, xs[k]? = some x := ⟨_, List.getElem?_eq_getElem (by rw [HXL.out]; exact hlt)⟩
      obtain ⟨bx, ox, rfl⟩ := HX.out.addr (k := k) (by rw [HXL.out]; exact hlt)
      obtain ⟨x0, x1, x2, x3, x4, x5, x6, x7, x8, x9⟩ := (HX.out.below HB3.out).get hx
      have HXX := Lib.hid hx
      have HT := Lib.hid (take_snoc xs k x hx)
      have i1 : (k : Int) < (l1 : Int) := by omega
      clear hx
      go_wp2_with fail
      refine (Do_len p cv w.heap.size l0 av (runL l (xs.take k)) x _ HLN.out HM3.out HO3.out HP.out).mono ?_
      rintro e w4 ⟨rfl, ho4, hg4⟩
      have hb4 := HB3.out.grown hg4 HB3.out.size (fun j e => (World.ownsRow.lt HO3.out j e).1)
      have HM4 := Lib.hid (HM3.out.grown hg4 HP.out); have HO4 := Lib.hid ho4; have HB4 := Lib.hid hb4
      have HR4 := Lib.hid (HR3.out.grown hg4 HN3.out)
      have y0 := fun o => ((HX.out.below (moreB hb4 o)).get HXX.out).1
      have y1 := fun o => ((HX.out.below (moreB hb4 o)).get HXX.out).2.1
      have y2 := fun o => ((HX.out.below (moreB hb4 o)).get HXX.out).2.2.1
      have y3 := fun o => ((HX.out.below (moreB hb4 o)).get HXX.out).2.2.2.1
      have y4 := fun o => ((HX.out.below (moreB hb4 o)).get HXX.out).2.2.2.2.1
      have y5 := fun o => ((HX.out.below (moreB hb4 o)).get HXX.out).2.2.2.2.2.1
      have y6 := fun o => ((HX.out.below (moreB hb4 o)).get HXX.out).2.2.2.2.2.2.1
      have y7 := fun o => ((HX.out.below (moreB hb4 o)).get HXX.out).2.2.2.2.2.2.2.1
      have y8 := fun o => ((HX.out.below (moreB hb4 o)).get HXX.out).2.2.2.2.2.2.2.2.1
      have y9 := fun o => ((HX.out.below (moreB hb4 o)).get HXX.out).2.2.2.2.2.2.2.2.2
      obtain ⟨⟨⟨s0, s1, s2, s3⟩, s4⟩, hsv⟩ : ∃ sv, sv = doS (runL l (xs.take k)) x := ⟨_, rfl⟩
      obtain ⟨de, hde⟩ : ∃ de, de = doE (runL l (xs.take k)) x := ⟨_, rfl⟩
      rw [← hsv, ← hde]
      have HSV := Lib.hid hsv; have HDE := Lib.hid hde
      clear ho4 hg4 hb4 hsv hde x0 x1 x2 x3 x4 x5 x6 x7 x8 x9 HM3 HO3 HB3 HR3
      go_wp2_with fail
      refine (rDo_len a' c' l0 (runL l (xs.take k)) x _ HLN.out (HR4.out.below (newB _ _)) (by omega)).mono ?_
      rintro e w5 ⟨a5, c5, rfl, hr5, hw5, hb5⟩
      rw [← HSV.out, ← HDE.out]
      have hs5 := (Box.new w4 32 [.int .u64 s0, .int .u64 s1, .int .u64 s2, .int .u64 s3, .bool s4]).below hb5
      have HM5 := Lib.hid ((HM4.out.alloc (.cells #[.int .u64 s0, .int .u64 s1, .int .u64 s2, .int .u64 s3, .bool s4] 32)).below hb5)
      have HO5 := Lib.hid (own_below (World.ownsRow.alloc HO4.out (.cells #[.int .u64 s0, .int .u64 s1, .int .u64 s2, .int .u64 s3, .bool s4] 32)) hb5)
      have HB5 := Lib.hid (keepB hb5 (moreB HB4.out _))
      have HR5 := Lib.hid hr5
      have hne5 : ∀ b off, a5 = some ⟨b, off, none⟩ → (Value.slice av l0 cv).ownBlock ≠ some b := by
        intro b off e1
        rcases hw5 with ⟨h1, _⟩ | h1 | ⟨g, h1, h2⟩
        · exact HN3.out b off (h1 ▸ e1)
        · rw [h1] at e1; cases e1
        · rw [h1] at e1
          cases e1
          intro e2
          have := (World.ownsRow.lt HO4.out _ e2).2
          simp at h2
          omega
      have HN5 := Lib.hid hne5
      have q0 := fun o => (hs5.alloc o).c 0 rfl
      have q1 := fun o => (hs5.alloc o).c 1 rfl
      have q2 := fun o => (hs5.alloc o).c 2 rfl
      have q3 := fun o => (hs5.alloc o).c 3 rfl
      have q4 := fun o => (hs5.alloc o).c 4 rfl
      have HS5 := Lib.hid hs5
      clear hs5 hr5 hw5 hb5 hne5 y0 y1 y2 y3 y4 y5 y6 y7 y8 y9 HM4 HO4 HB4 HR4 HN3
      go_wp2_with fail
      refine (Same_any ⟨s0, s1, s2, s3⟩ ⟨s0, s1, s2, s3⟩ _).mono ?_
      rintro e w6 ⟨rfl, hb6⟩
      rw [sameB_self]
      have hs6 := (HS5.out.alloc (.cells #[.int .u64 s0, .int .u64 s1, .int .u64 s2, .int .u64 s3, .bool s4] 32)).below hb6
      have ht6 := (Box.new w5 32 [.int .u64 s0, .int .u64 s1, .int .u64 s2, .int .u64 s3, .bool s4]).below hb6
      have HM6 := Lib.hid ((HM5.out.alloc (.cells #[.int .u64 s0, .int .u64 s1, .int .u64 s2, .int .u64 s3, .bool s4] 32)).below hb6)
      have HO6 := Lib.hid (own_below (World.ownsRow.alloc HO5.out (.cells #[.int .u64 s0, .int .u64 s1, .int .u64 s2, .int .u64 s3, .bool s4] 32)) hb6)
      have HR6 := Lib.hid ((HR5.out.below (newB w5 (.cells #[.int .u64 s0, .int .u64 s1, .int .u64 s2, .int .u64 s3, .bool s4] 32))).below hb6)
      have HB6 := Lib.hid (keepB hb6 (moreB HB5.out _))
      have p4 := hs6.c 4 rfl
      have t4 := ht6.c 4 rfl
      have hdl := (doL_len (runL l (xs.take k)) x).trans HLN.out
      have HDL := Lib.hid hdl
      clear hs6 ht6 hb6 hdl q0 q1 q2 q3 q4 HS5 HM5 HO5 HR5 HB5
      go_wp2_with fail
      refine (Cells_len p w.heap.size l0 _ (doL (runL l (xs.take k)) x) _ HDL.out HM6.out HO6.out (by omega)).mono ?_
      rintro e w7 ⟨a7, c7, rfl, hr7, hb7⟩
      have HR7 := Lib.hid hr7; have HB7 := Lib.hid hb7
      clear hr7 hb7
      go_wp2_with fail
      refine (SameCells_len a7 a5 c7 c5 l0 (doL (runL l (xs.take k)) x) _ HDL.out HR7.out (HR6.out.below HB7.out) (by omega)).mono ?_
      rintro e w8 ⟨rfl, hb8⟩
      have HB8 := Lib.hid hb8
      clear hb8 p4 t4
      go_wp2_with fail
      go_roundw
      case rel =>
        refine ⟨k + 1, by omega, by go_num, (HM6.out.below HB7.out).below HB8.out, ?_, keepB HB8.out (keepB HB7.out HB6.out), a5, c5, rfl, ?_, HN5.out⟩
        · rw [HT.out, runL_snoc]; exact own_below (own_below HO6.out HB7.out) HB8.out
        · rw [HT.out, runL_snoc]; exact (HR6.out.below HB7.out).below HB8.out
      case measure => simp [intOf]; omega
    · have i2 : (l1 : Int) ≤ (k : Int) := by omega
      go_wp2_with fail
      refine (Cells_len p w.heap.size l0 _ (runL l (xs.take k)) _ HLN.out HM3.out HO3.out (by omega)).mono ?_
      rintro e w7 ⟨a7, c7, rfl, hr7, hb7⟩
      have HR7 := Lib.hid hr7; have HB7 := Lib.hid hb7
      clear hr7 hb7
      go_wp2_with fail
      refine (SameCells_len a7 a' c7 c' l0 (runL l (xs.take k)) _ HLN.out HR7.out (HR3.out.below HB7.out) (by omega)).mono ?_
      rintro e w8 ⟨rfl, hb8⟩
      have HB8 := Lib.hid hb8
      clear hb8
      go_wp2_with fail
      go_ret
      exact ⟨rfl, keepB HB8.out (keepB HB7.out HB3.out)⟩

theorem walk_CellDoes (a0 : Option Addr) (l0 c0 : Nat) (a1 : Option Addr) (l1 c1 : Nat) (w : World) (s0 : Fra.Slc w [.u64, .u64, .u64, .u64] a0 l0 c0) (s1 : Fra.Slc w [.u8, .i64, .u64, .u64, .u64, .u64, .u64, .u64, .u64, .u64] a1 l1 c1) :
    Calls Try.prog 3 #[.slice a0 l0 c0, .slice a1 l1 c1] w fun e w' => e = .returned (.bool true) ∧ Below w.heap.size w w' := by
  obtain ⟨l, hl, hR⟩ := slc_cells s0
  obtain ⟨xs, hxl, hX⟩ := slc_accs s1
  by_cases h : l1 ≤ 100
  · by_cases h' : l0 ≤ 1024
    · exact walk_CellDoes_go a0 l0 c0 a1 l1 c1 l xs w hl hxl hR hX h h'
    · exact walk_CellDoes_many a0 l0 c0 a1 l1 c1 w h (by omega)
  · exact walk_CellDoes_long a0 l0 c0 a1 l1 c1 w (by omega)

end Go.Proofs.Ytmfkipefnacjdaa
