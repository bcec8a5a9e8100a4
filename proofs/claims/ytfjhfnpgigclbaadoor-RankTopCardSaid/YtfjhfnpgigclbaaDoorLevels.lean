/- Contracts of the reference of Last, of the lists of levels, and of their comparison. -/
import Derived.Test.YtfjhfnpgigclbaaDoorLast
import Derived.WalkKit
import Derived.Laws.AppendOwn
import Derived.OwnWalk
import Derived.WalkMore
namespace Go.Proofs.YtfjhfnpgigclbaaDoor
open Go.RowKit


theorem width_split {a c : Int} (h : widthB a 1 c = false) : a < 1 ∨ (1 ≤ a ∧ 32 < a) ∨ (1 ≤ a ∧ a ≤ 32 ∧ (decide ((2 : Int) ≤ c) && decide (c ≤ 4)) = false) := by
  by_cases c1 : 1 ≤ a
  · by_cases c2 : a ≤ 32
    · refine .inr (.inr ⟨c1, c2, ?_⟩)
      simpa [widthB, c1, c2] using h
    · exact .inr (.inl ⟨c1, by omega⟩)
  · exact .inl (by omega)
theorem width_all {a c : Int} (h : widthB a 1 c = true) : 1 ≤ a ∧ a ≤ 32 ∧ (decide ((2 : Int) ≤ c) && decide (c ≤ 4)) = true := by
  simp [widthB] at h
  exact ⟨h.1.1.1, h.1.1.2, by simp [h.1.2, h.2]⟩

set_option maxHeartbeats 800000 in
theorem rLast_any (a c h i : Int) (w : World) : Calls Tryd.prog 13 #[.int .i64 a, .int .i64 c, .int .i64 h, .int .i64 i] w fun e w' => e = .returned (.tuple #[.int .i64 (lastV a c h i), .int .i64 (lastE a c h i)]) ∧ w = w' := by
  cases hB : lastB a c h i with
  | true =>
    rw [show lastV a c h i = min ((i + 1) * c) (itemsN a.toNat c.toNat (h.toNat - 1) : Nat) - 1 from by simp [lastV, hB], show lastE a c h i = 0 from by simp [lastE, hB]]
    obtain ⟨m, k, j, q, rfl, rfl, rfl, rfl, h1, h2, h3, h4, h5, h6⟩ := last_parts hB
    have hwid : (decide ((2 : Int) ≤ (k : Int)) && decide ((k : Int) ≤ 4)) = true := by simp; omega
    clear hB
    rw [Int.toNat_natCast, Int.toNat_natCast, Int.toNat_natCast, Nat.add_sub_cancel]
    have hx := items_lt m h1 k h2 h3 (j + 1) (by omega)
    have u1 := rItems_any m k (j + 1) w h1 h2 h3 (by omega)
    have u2 := rEnd_any m k j q w h1 h2 h3 h4 h6
    have hlow : 1 ≤ min ((q + 1) * k) (itemsN m k j) := by
      have := last_end h1 h2 h3 h4 h6
      have : 1 * 2 ≤ (q + 1) * k := Nat.mul_le_mul (by omega) h3
      omega
    have E2 := Lib.hid (show min (((q : Int) + 1) * (k : Int)) (itemsN m k j : Nat) - 1 = ((min ((q + 1) * k) (itemsN m k j) - 1 : Nat) : Int) by
      rw [show ((q : Int) + 1) * (k : Int) = (((q + 1) * k : Nat) : Int) from by simp]
      omega)
    rw [E2.out]
    clear E2 hlow
    generalize itemsN m k (j + 1) = x at *
    generalize min ((q + 1) * k) (itemsN m k j) - 1 = v at *
    have e3 : (1 : Int) ≤ ((j + 1 : Nat) : Int) := by omega
    have e4 : ((j + 1 : Nat) : Int) ≤ 4 := by omega
    generalize ((j + 1 : Nat) : Int) = hI at *
    go_enter Tryd.func13, Tryd.ntmps13
    go_wp2_with (first | (go_at_call 21; refine (rWide_any _ _).mono ?_; rw [hwid]; rintro e w' ⟨rfl, rfl⟩) | (go_at_call 23; with_reducible refine u1.mono ?_; rintro e w' ⟨rfl, rfl⟩) | (go_at_call 24; with_reducible refine u2.mono ?_; rintro e w' ⟨rfl, rfl⟩))
    go_ret2
    exact ⟨rfl, rfl⟩
  | false =>
    rw [show lastV a c h i = 0 from by simp [lastV, hB], show lastE a c h i = 2 from by simp [lastE, hB]]
    rcases last_no hB with hwid | hr
    · clear hB
      rcases width_split hwid with c1 | ⟨c1, c2⟩ | ⟨c1, c2, c3⟩
      iterate 2
        · clear hwid
          go_enter Tryd.func13, Tryd.ntmps13
          go_wp2_with fail
          go_ret2
          exact ⟨rfl, rfl⟩
      · clear hwid
        go_enter Tryd.func13, Tryd.ntmps13
        go_wp2_with (go_at_call 21; refine (rWide_any _ _).mono ?_; rw [c3]; rintro e w' ⟨rfl, rfl⟩)
        go_ret2
        exact ⟨rfl, rfl⟩
    · have hwid0 : widthB a 1 c = true := by rcases hr with h | h | h | h <;> exact h.1
      obtain ⟨d1, d2, d3⟩ := width_all hwid0
      rcases hr with ⟨_, c1⟩ | ⟨_, c1, c2⟩ | ⟨_, c1, c2, c3⟩ | ⟨_, c1, c2, c3, c4⟩
      iterate 3
        · clear hB hwid0
          go_enter Tryd.func13, Tryd.ntmps13
          go_wp2_with (go_at_call 21; refine (rWide_any _ _).mono ?_; rw [d3]; rintro e w' ⟨rfl, rfl⟩)
          go_ret2
          exact ⟨rfl, rfl⟩
      · clear hB
        obtain ⟨m, k, rfl, rfl, r1, r2, r3, r4⟩ := width_parts hwid0 (by omega)
        obtain ⟨j, rfl⟩ := Int.eq_ofNat_of_zero_le (show 0 ≤ h by omega)
        rw [Int.toNat_natCast, Int.toNat_natCast, Int.toNat_natCast] at c4
        have u1 := rItems_any m k j w r1 r2 r3 (by omega)
        generalize itemsN m k j = x at *
        clear hwid0
        go_enter Tryd.func13, Tryd.ntmps13
        go_wp2_with (first | (go_at_call 21; refine (rWide_any _ _).mono ?_; rw [d3]; rintro e w' ⟨rfl, rfl⟩) | (go_at_call 23; with_reducible refine u1.mono ?_; rintro e w' ⟨rfl, rfl⟩))
        go_ret2
        exact ⟨rfl, rfl⟩

/-! ### Lists -/

theorem infoInt : (Tryd.prog.info? 3).map (fun i => (i.zero, i.size, i.bytes)) = some (some (.int .i64 0), 1, 8) := by kernel_rfl
def i64s (xs : List Int) : List Value := xs.map fun n => Value.int .i64 n
theorem i64s_snoc (xs : List Int) (x : Int) : i64s (xs ++ [x]) = i64s xs ++ [.int .i64 x] := by simp [i64s]
/-- What a list of levels is: its error, its length, its row. -/
def levelsE (a c : Int) : Int := if widthB a 1 c then 0 else 2
def levelsL (a c : Int) : List Int := if widthB a 1 c then levelsN a.toNat c.toNat (topN a.toNat c.toNat + 1) else []
def LevPost (a c : Int) (w : World) (e : Ending) (w' : World) : Prop := ∃ v, e = .returned (.tuple #[v, .int .i64 (levelsE a c)]) ∧ w'.ownsRow w.heap.size 3 1 v (levelsL a c).length (i64s (levelsL a c)) ∧ Below w.heap.size w w'

theorem new_cell (W : World) (u : Value) (t : TypeId) : (W.alloc (.cells #[u] t)).cell? ⟨W.heap.size, 0, none⟩ = some u := by simp [go_sem]

theorem own_succ {W : World} {base : Nat} {e : TypeId} {v : Value} {k : Nat} {xs : List Value} (h : W.ownsRow base e 1 v (k + 1) xs) : ∃ g cap, v = .slice (some ⟨g, 0, none⟩) (k + 1) cap := by
  rcases h.2 with ⟨_, h0⟩ | ⟨g, cap, cur, rfl, _⟩
  · omega
  · exact ⟨g, cap, rfl⟩

theorem i64s_last (m c k : Nat) : (i64s (levelsN m c (k + 1)))[k]? = some (.int .i64 (itemsN m c k)) := by simp [i64s, levelsN]

set_option maxHeartbeats 800000 in
theorem Levels_any (a c : Int) (w : World) (hw : Pw w) : Calls Tryd.prog 8 #[.int .i64 a, .int .i64 c] w (LevPost a c w) := by
  obtain ⟨j0, hj0, hy0, hy1, hy2⟩ := info_parts infoInt
  have hpos := hw.pos
  cases hwid : widthB a 1 c with
  | false =>
    have E1 := Lib.hid (show levelsE a c = 2 by simp [levelsE, hwid])
    have E2 := Lib.hid (show levelsL a c = [] by simp [levelsL, hwid])
    go_enter Tryd.func8, Tryd.ntmps8
    go_wp2_with fail
    go_step3
    go_wp2_with (go_at_call 19; refine (width_any _ _ _ _).mono ?_; rw [hwid]; rintro e w' ⟨rfl, rfl⟩)
    (try rw [Exit.noGoto_ret])
    go_ret2
    exact ⟨_, by rw [E1.out]; rfl, by rw [E2.out]; exact World.ownsRow_nil _ _ _ _, Below.refl _ _⟩
  | true =>
    obtain ⟨m, k, rfl, rfl, r1, r2, r3, r4⟩ := width_parts hwid (by omega)
    have E1 := Lib.hid (show levelsE m k = 0 by simp [levelsE, hwid])
    have E2 := Lib.hid (show levelsL m k = levelsN m k (topN m k + 1) by simp [levelsL, hwid])
    have ht := top_le m r1 k r2
    go_enter Tryd.func8, Tryd.ntmps8
    go_wp2_with fail
    go_step3
    go_wp2_with (go_at_call 19; refine (width_any _ _ _ _).mono ?_; rw [hwid]; rintro e w' ⟨rfl, rfl⟩)
    clear hwid
    go_step3
    go_wp2_with fail
    go_loopw [6, 7, 12] (fun v _ i wr => ∃ j : Nat, j ≤ topN m k ∧ i = .int .i64 j ∧ wr.ownsRow w.heap.size 3 1 v j (i64s (levelsN m k j)) ∧ Below w.heap.size w wr) (fun _ _ i _ => 5 - (intOf i).toNat)
    case atStart => exact ⟨0, by omega, rfl, World.ownsRow_nil _ _ _ _, Below.refl _ _⟩
    case round =>
      obtain ⟨j, hj, rfl, hown, hbel⟩ := hrel
      have hj5 : j < 5 := by omega
      have hx := items_lt m r1 k r2 r3 j hj5
      have hat := top_at r1 r2 r3 hj5 hj
      have u1 := up_any m k j wr (hw.below hbel hpos) r1 r2 r3 hj5
      have HL := Lib.hid (levels_succ m k j)
      have HC := Lib.hid (i64s_last m k j)
      have HW := Lib.hid hown
      clear hown
      generalize hxd : itemsN m k j = x at *
      clear hxd hw
      have hj5' : (j : Int) < 5 := by omega
      by_cases hle : x ≤ k
      · have HT := Lib.hid (hat.1 hle)
        clear hat hj ht
        go_wp2_with (first
          | (go_at_call 20; with_reducible refine u1.mono ?_; rintro e w' ⟨rfl, rfl⟩)
          | (at_builtin; refine wpList_append_own _ rfl _ _ 22 rfl w.heap.size 3 j0 (.int .i64 0) 1 8 Tryd.underlying22 hj0 hy0 hy1 hy2 rfl (by decide) _ _ _ rfl (HW.out.alloc _) ⟨wr.heap.size, 0, none⟩ 1 1 [.int .i64 x] rfl rfl (by intro j u hu; cases j with | zero => (simp at hu; subst hu; exact new_cell _ _ _) | succ j => simp at hu) (by simp [Value.oneCell']) (by unfold maxLen; omega) (by omega) (by have := hbel.size; simp; omega) ?_; intro v' w2 hown1 hgrow1 _; have hb2 : Below w.heap.size w w2 := (hbel.alloc hbel.size _).grown hgrow1 (by have := hbel.size; simp; omega) (fun j e => (HW.out.lt j e).1); obtain ⟨g, cp, rfl⟩ := own_succ hown1; have hcell := hown1.cellAt j (by omega); rw [← i64s_snoc, ← HL.out, HC.out] at hcell; have HW1 := Lib.hid hown1; clear hown1 hgrow1))
        (try rw [Exit.noGoto_ret])
        go_ret2
        exact ⟨_, by rw [E1.out]; rfl, by rw [E2.out, levels_len, ← HT.out, HL.out, i64s_snoc]; exact HW1.out, hb2⟩
      · have hne : j ≠ topN m k := fun h => hle (hat.2 h)
        have HJ := Lib.hid (show j + 1 ≤ topN m k by omega)
        clear hat hj ht hne
        go_wp2_with (first
          | (go_at_call 20; with_reducible refine u1.mono ?_; rintro e w' ⟨rfl, rfl⟩)
          | (at_builtin; refine wpList_append_own _ rfl _ _ 22 rfl w.heap.size 3 j0 (.int .i64 0) 1 8 Tryd.underlying22 hj0 hy0 hy1 hy2 rfl (by decide) _ _ _ rfl (HW.out.alloc _) ⟨wr.heap.size, 0, none⟩ 1 1 [.int .i64 x] rfl rfl (by intro j u hu; cases j with | zero => (simp at hu; subst hu; exact new_cell _ _ _) | succ j => simp at hu) (by simp [Value.oneCell']) (by unfold maxLen; omega) (by omega) (by have := hbel.size; simp; omega) ?_; intro v' w2 hown1 hgrow1 _; have hb2 : Below w.heap.size w w2 := (hbel.alloc hbel.size _).grown hgrow1 (by have := hbel.size; simp; omega) (fun j e => (HW.out.lt j e).1); obtain ⟨g, cp, rfl⟩ := own_succ hown1; have hcell := hown1.cellAt j (by omega); rw [← i64s_snoc, ← HL.out, HC.out] at hcell; have HW1 := Lib.hid hown1; clear hown1 hgrow1))
        go_roundw
        case rel => exact ⟨j + 1, HJ.out, by go_num, by rw [HL.out, i64s_snoc]; exact HW1.out, hb2⟩
        case measure => simp [intOf]; omega

set_option maxHeartbeats 800000 in
theorem rLevels_any (a c : Int) (w : World) : Calls Tryd.prog 9 #[.int .i64 a, .int .i64 c] w (LevPost a c w) := by
  obtain ⟨j0, hj0, hy0, hy1, hy2⟩ := info_parts infoInt
  cases hwid : widthB a 1 c with
  | false =>
    have E1 := Lib.hid (show levelsE a c = 2 by simp [levelsE, hwid])
    have E2 := Lib.hid (show levelsL a c = [] by simp [levelsL, hwid])
    rcases width_split hwid with c1 | ⟨c1, c2⟩ | ⟨c1, c2, c3⟩
    iterate 2
      · clear hwid
        go_enter Tryd.func9, Tryd.ntmps9
        go_wp2_with fail
        go_ret2
        exact ⟨_, by rw [E1.out]; rfl, by rw [E2.out]; exact World.ownsRow_nil _ _ _ _, Below.refl _ _⟩
    · clear hwid
      go_enter Tryd.func9, Tryd.ntmps9
      go_wp2_with (go_at_call 21; refine (rWide_any _ _).mono ?_; rw [c3]; rintro e w' ⟨rfl, rfl⟩)
      go_ret2
      exact ⟨_, by rw [E1.out]; rfl, by rw [E2.out]; exact World.ownsRow_nil _ _ _ _, Below.refl _ _⟩
  | true =>
    obtain ⟨d1, d2, d3⟩ := width_all hwid
    obtain ⟨m, k, rfl, rfl, r1, r2, r3, r4⟩ := width_parts hwid (by omega)
    have E1 := Lib.hid (show levelsE m k = 0 by simp [levelsE, hwid])
    have E2 := Lib.hid (show levelsL m k = levelsN m k (topN m k + 1) by simp [levelsL, hwid])
    have ht := top_le m r1 k r2
    have hT := fun W => rTop_any m k W r1 r2 r3
    clear hwid
    generalize topN m k = T at *
    go_enter Tryd.func9, Tryd.ntmps9
    go_wp2_with (first | (go_at_call 21; refine (rWide_any _ _).mono ?_; rw [d3]; rintro e w' ⟨rfl, rfl⟩) | (go_at_call 22; refine (hT _).mono ?_; rintro e w' ⟨rfl, rfl⟩))
    go_loopw [6, 8] (fun v i wr => ∃ j : Nat, j ≤ T + 1 ∧ i = .int .i64 j ∧ wr.ownsRow w.heap.size 3 1 v j (i64s (levelsN m k j)) ∧ Below w.heap.size w wr) (fun _ i _ => 6 - (intOf i).toNat)
    case atStart => exact ⟨0, by omega, rfl, World.ownsRow_nil _ _ _ _, Below.refl _ _⟩
    case round =>
      obtain ⟨j, hj, rfl, hown, hbel⟩ := hrel
      by_cases hle : j ≤ T
      · have hx := items_lt m r1 k r2 r3 j (by omega)
        have u1 := rItems_any m k j wr r1 r2 r3 (by omega)
        have HL := Lib.hid (levels_succ m k j)
        have HW := Lib.hid hown
        clear hown
        generalize itemsN m k j = x at *
        clear hT
        go_wp2_with (first
          | (go_at_call 23; with_reducible refine u1.mono ?_; rintro e w' ⟨rfl, rfl⟩)
          | (at_builtin; refine wpList_append_own _ rfl _ _ 22 rfl w.heap.size 3 j0 (.int .i64 0) 1 8 Tryd.underlying22 hj0 hy0 hy1 hy2 rfl (by decide) _ _ _ rfl (HW.out.alloc _) ⟨wr.heap.size, 0, none⟩ 1 1 [.int .i64 x] rfl rfl (by intro j u hu; cases j with | zero => (simp at hu; subst hu; exact new_cell _ _ _) | succ j => simp at hu) (by simp [Value.oneCell']) (by unfold maxLen; omega) (by omega) (by have := hbel.size; simp; omega) ?_; intro v' w2 hown1 hgrow1 _; have hb2 : Below w.heap.size w w2 := (hbel.alloc hbel.size _).grown hgrow1 (by have := hbel.size; simp; omega) (fun j e => (HW.out.lt j e).1); have HW1 := Lib.hid hown1; clear hown1 hgrow1))
        go_roundw
        case rel => exact ⟨j + 1, by omega, by go_num, by rw [HL.out, i64s_snoc]; exact HW1.out, hb2⟩
        case measure => simp [intOf]; omega
      · obtain rfl : j = T + 1 := by omega
        have HW := Lib.hid hown
        clear hown hT
        go_wp2
        go_ret2
        exact ⟨_, by rw [E1.out]; rfl, by rw [E2.out, levels_len]; exact HW.out, hbel⟩

/-- A list that lies in memory. -/
def ListAt (w : World) (v : Value) (xs : List Int) : Prop := ∃ a cap, v = .slice a xs.length cap ∧ (xs.length = 0 ∨ ∃ b, a = some ⟨b, 0, none⟩ ∧ ∀ i, i < xs.length → w.cell? ⟨b, i, none⟩ = some (.int .i64 (xs.getD i 0)))
theorem list_own {w : World} {b : Nat} {e : TypeId} {v : Value} {xs : List Int} (h : w.ownsRow b e 1 v xs.length (i64s xs)) : ListAt w v xs := by
  rcases h.2 with ⟨rfl, h0⟩ | ⟨g, cap, cur, rfl, _⟩
  · exact ⟨none, 0, by rw [h0], .inl h0⟩
  · refine ⟨_, cap, rfl, .inr ⟨g, rfl, fun i hi => ?_⟩⟩
    rw [h.cellAt i (by omega)]
    simp [i64s, hi]
theorem ListAt.below {w w' : World} {v : Value} {xs : List Int} (h : ListAt w v xs) (hb : Below w.heap.size w w') : ListAt w' v xs := by
  obtain ⟨a, cap, rfl, h | ⟨b, rfl, h⟩⟩ := h
  · exact ⟨a, cap, rfl, .inl h⟩
  · exact ⟨_, cap, rfl, .inr ⟨b, rfl, fun i hi => (hb.cell (World.block_lt_of_cell? w _ (h i hi))).trans (h i hi)⟩⟩

set_option maxHeartbeats 800000 in
theorem SameInts_eq (v v' : Value) (xs : List Int) (w : World) (hx : ListAt w v xs) (hy : ListAt w v' xs) (hn : xs.length ≤ 1000) :
    Calls Tryd.prog 14 #[v, v'] w fun e w' => e = .returned (.bool true) ∧ ∃ m, w' = w.drewN m := by
  obtain ⟨a, c, rfl, hx⟩ := hx
  obtain ⟨a', c', rfl, hy⟩ := hy
  have hg : ∀ i, ∃ q : Int, xs.getD i 0 = q := fun i => ⟨_, rfl⟩
  generalize hl : xs.length = n at *
  go_enter Tryd.func14, Tryd.ntmps14
  go_wp2
  go_loopw [5] (fun i wr => ∃ k m : Nat, k ≤ n ∧ i = .int .i64 k ∧ wr = w.drewN m) (fun i _ => n - (intOf i).toNat)
  case atStart => exact ⟨0, 0, Nat.zero_le _, rfl, rfl⟩
  case round =>
    obtain ⟨k, m, hk, rfl, hw⟩ := hrel
    have HW := Lib.hid hw
    have hcw : ∀ a, wr.cell? a = w.cell? a := fun a => by rw [hw]; rfl
    clear hw
    by_cases hlt : k < n
    · rcases hx with h0 | ⟨b, rfl, hx⟩
      · omega
      rcases hy with h0 | ⟨b', rfl, hy⟩
      · omega
      have d0 := (hcw _).trans (hx k hlt)
      have d1 := (hcw _).trans (hy k hlt)
      obtain ⟨p, hp⟩ := hg k
      rw [hp] at d0 d1
      clear hcw hx hy hg hp hl
      go_wp2_with fail
      go_quiet (fail)
      go_wp2_with fail
      go_roundw
      case rel => exact ⟨k + 1, m + nq, by omega, by go_num, by rw [HW.out]; simp⟩
      case measure => simp [intOf]; omega
    · obtain rfl : k = n := by omega
      clear hcw
      go_wp2
      go_ret
      exact ⟨rfl, m, HW.out⟩

theorem levels_short (a c : Int) : (levelsL a c).length ≤ 1000 := by
  unfold levelsL
  split
  · rename_i h
    obtain ⟨m, k, rfl, rfl, r1, r2, r3, r4⟩ := width_parts h (by omega)
    have := top_le m r1 k r2
    rw [levels_len, Int.toNat_natCast, Int.toNat_natCast]
    omega
  · simp

end Go.Proofs.YtfjhfnpgigclbaaDoor
