/- rank's levels, at a seat of another chapter (cut out of XUp and XLevels). -/
import Derived.Test.YtecjbgddjejjdaaKeep
import Derived.Test.YtecjbgddjejjdaaPlainUp
import Derived.WalkKit
import Derived.WalkSpells
import Derived.RowKit3
import Derived.Below
import Derived.Lib.Hide
import Derived.WalkSmall
import Derived.Laws.Bits64b
import Derived.Deep.QuietTactic
import Derived.BigQuiet
import Derived.Laws.AppendOwn
import Derived.OwnWalk
import Derived.WalkMore
import Derived.Test.YtecjbgddjejjdaaChecked
namespace Go.Proofs.Ytecjbgddjejjdaa
open Go.RowKit

/-- What the table of powers holds. -/
def Pw (w : World) : Prop := ∀ i, i < 3 → ∀ j, j < 5 → w.cell? ⟨0, i * 5 + j, none⟩ = some (.int .i64 (((i + 2) ^ j : Nat) : Int))
theorem Pw.below {w w' : World} {B : Nat} (h : Pw w) (hb : Below B w w') (hB : 0 < B) : Pw w' := fun i hi j hj => (hb.cell (p := ⟨0, i * 5 + j, none⟩) hB).trans (h i hi j hj)
theorem Pw.pos {w : World} (h : Pw w) : 0 < w.heap.size := World.block_lt_of_cell? w _ (h 0 (by omega) 0 (by omega))

theorem width_any (a b c : Int) (w : World) : Calls Try.prog 89 #[.int .i64 a, .int .i64 b, .int .i64 c] w fun e w' => e = .returned (.bool (widthB a b c)) ∧ w = w' := by
  by_cases h1 : b ≤ a
  · by_cases h2 : a ≤ 32
    · by_cases h3 : 2 ≤ c
      · by_cases h4 : c ≤ 4
        · go_enter Try.func89, Try.ntmps89
          go_wp2
          go_ret
          exact ⟨ret_bool (by simp [widthB]; omega), rfl⟩
        · go_enter Try.func89, Try.ntmps89
          go_wp2
          go_ret
          exact ⟨ret_bool (by simp [widthB]; omega), rfl⟩
      · go_enter Try.func89, Try.ntmps89
        go_wp2
        go_ret
        exact ⟨ret_bool (by simp [widthB]; omega), rfl⟩
    · go_enter Try.func89, Try.ntmps89
      go_wp2
      go_ret
      exact ⟨ret_bool (by simp [widthB]; omega), rfl⟩
  · go_enter Try.func89, Try.ntmps89
    go_wp2
    go_ret
    exact ⟨ret_bool (by simp [widthB]; omega), rfl⟩

theorem rWide_any (c : Int) (w : World) : Calls Try.prog 45 #[.int .i64 c] w fun e w' => e = .returned (.bool (decide (2 ≤ c) && decide (c ≤ 4))) ∧ w = w' := by
  by_cases h3 : 2 ≤ c
  · go_enter Try.func45, Try.ntmps45
    go_wp2
    go_ret
    exact ⟨ret_bool (by simp; omega), rfl⟩
  · go_enter Try.func45, Try.ntmps45
    go_wp2
    go_ret
    exact ⟨ret_bool (by simp; omega), rfl⟩

theorem up_any (m c h : Nat) (w : World) (hw : Pw w) (hm : m < 33) (hc : c < 5) (hc2 : 2 ≤ c) (hh : h < 5) :
    Calls Try.prog 90 #[.int .i64 m, .int .i64 c, .int .i64 h] w fun e w' => e = .returned (.int .i64 (itemsN m c h)) ∧ w = w' := by
  have d0 := hw (c - 2) (by omega) h hh
  rw [show c - 2 + 2 = c from by omega] at d0
  obtain ⟨q1, q2⟩ := pow_tab c hc hc2 h hh
  have HI := Lib.hid (show itemsN m c h = (m + c ^ h - 1) / c ^ h from rfl)
  generalize c ^ h = p at *
  obtain ⟨i, rfl⟩ : ∃ i, c = i + 2 := ⟨c - 2, by omega⟩
  rw [show i + 2 - 2 = i from by omega] at d0
  have e1 : ((i + 2 : Nat) : Int) - 2 = (i : Nat) := by omega
  have e2 : (i : Int).toNat = i := by omega
  clear hw
  go_enter Try.func90, Try.ntmps90
  go_wp2_with fail
  go_ret
  refine ⟨ret_i64 ?_, rfl⟩
  rw [HI.out]
  rw [show ((m : Int) + p - 1) = ((m + p - 1 : Nat) : Int) from by omega]
  exact (Int.natCast_ediv _ _).symm

/-- The reference's count of a level: rounds within rounds. -/
theorem rItems_any (m c h : Nat) (w : World) (hm : m < 33) (hc : c < 5) (hc2 : 2 ≤ c) (hh : h < 5) :
    Calls Try.prog 54 #[.int .i64 m, .int .i64 c, .int .i64 h] w fun e w' => e = .returned (.int .i64 (itemsN m c h)) ∧ w = w' := by
  go_enter Try.func54, Try.ntmps54
  go_wp2
  go_loop [0, 7] (fun v k => ∃ j : Nat, j ≤ h ∧ k = .int .i64 j ∧ v = .int .i64 (itemsN m c j)) (fun _ k => h - (intOf k).toNat)
  case atStart => exact ⟨0, by omega, rfl, by rw [items_zero]⟩
  case round =>
    obtain ⟨j, hj, rfl, rfl⟩ := hrel
    have hx := items_lt m hm c hc hc2 j (by omega)
    by_cases hlt : j < h
    · have hs := fun n => items_step (m := m) (w := c) (h := j) (n := n) hm hc hc2 (by omega)
      have HS := Lib.hid hs
      clear hs
      generalize itemsN m c j = x at *
      go_wp2
      go_loop [8, 9] (fun n i => ∃ q : Nat, q ≤ 32 ∧ n = .int .i64 q ∧ i = .int .i64 (q * c : Nat) ∧ (q = 0 ∨ (q - 1) * c < x)) (fun _ i => x + c - (intOf i).toNat)
      case atStart => exact ⟨0, by omega, rfl, by simp, .inl rfl⟩
      case round =>
        obtain ⟨q, hq, rfl, rfl, hlow⟩ := hrel
        have hqc : q * c ≤ 128 := Nat.mul_le_mul (show q ≤ 32 from hq) (show c ≤ 4 by omega)
        have hqq : (q + 1) * c = q * c + c := by rw [Nat.add_mul]; omega
        by_cases hin : q * c < x
        · have hq1 : q + 1 ≤ 32 := by
            have : q * 2 ≤ q * c := Nat.mul_le_mul_left _ hc2
            omega
          have HQ := Lib.hid hqq
          have hlow' : q + 1 = 0 ∨ (q + 1 - 1) * c < x := .inr (by simpa using hin)
          have HL := Lib.hid hlow'
          clear hqq hlow hlow'
          generalize hz : q * c = z at *
          go_wp2
          go_round
          case rel => exact ⟨q + 1, hq1, by go_num, by rw [HQ.out]; go_num, HL.out⟩
          case measure => simp [intOf]; omega
        · have HN := Lib.hid (HS.out q (by omega) hlow)
          clear hqq
          generalize hz : q * c = z at *
          go_wp2
          go_round
          case rel => exact ⟨j + 1, by omega, by go_num, by rw [HN.out]⟩
          case measure => simp [intOf]; omega
    · obtain rfl : j = h := by omega
      generalize hI : itemsN m c j = x at *
      have HI := Lib.hid hI; clear hI
      go_wp2
      go_ret
      exact ⟨ret_i64 (by rw [HI.out]), rfl⟩

theorem width_parts {a l c : Int} (h : widthB a l c = true) (hl : 0 ≤ l) : ∃ m k : Nat, a = m ∧ c = k ∧ m < 33 ∧ k < 5 ∧ 2 ≤ k ∧ l ≤ m := by
  simp [widthB] at h
  obtain ⟨⟨⟨h1, h2⟩, h3⟩, h4⟩ := h
  exact ⟨a.toNat, c.toNat, by omega, by omega, by omega, by omega, by omega, by omega⟩

theorem rTop_any (m c : Nat) (w : World) (hm : m < 33) (hc : c < 5) (hc2 : 2 ≤ c) :
    Calls Try.prog 53 #[.int .i64 m, .int .i64 c] w fun e w' => e = .returned (.int .i64 (topN m c)) ∧ w = w' := by
  have ht := top_le m hm c hc
  go_enter Try.func53, Try.ntmps53
  go_wp2
  go_loop [5] (fun h => ∃ j : Nat, j ≤ topN m c ∧ h = .int .i64 j) (fun h => 5 - (intOf h).toNat)
  case atStart => exact ⟨0, by omega, rfl⟩
  case round =>
    obtain ⟨j, hj, rfl⟩ := hrel
    have hx := items_lt m hm c hc hc2 j (by omega)
    have hat := top_at (m := m) (w := c) (h := j) hm hc hc2 (by omega) hj
    have hit := fun W => rItems_any m c j W hm hc hc2 (by omega)
    generalize itemsN m c j = x at *
    by_cases he : j = topN m c
    · have hle := hat.2 he
      have HE := Lib.hid he
      clear hat he hj ht
      go_wp2_with (go_at_call 54; refine (hit _).mono ?_; rintro e w' ⟨rfl, rfl⟩)
      go_ret
      exact ⟨ret_i64 (by rw [HE.out]), rfl⟩
    · have hgt : ¬ x ≤ c := fun h => he (hat.1 h)
      have HJ := Lib.hid (show j + 1 ≤ topN m c by omega)
      have hj4 : j < 4 := by omega
      clear hat he hj ht
      go_wp2_with (go_at_call 54; refine (hit _).mono ?_; rintro e w' ⟨rfl, rfl⟩)
      go_round
      case rel => exact ⟨j + 1, HJ.out, by go_num⟩
      case measure => simp [intOf]; omega

theorem width_split {a c : Int} (h : widthB a 1 c = false) : a < 1 ∨ (1 ≤ a ∧ 32 < a) ∨ (1 ≤ a ∧ a ≤ 32 ∧ (decide ((2 : Int) ≤ c) && decide (c ≤ 4)) = false) := by
  by_cases c1 : 1 ≤ a
  · by_cases c2 : a ≤ 32
    · refine .inr (.inr ⟨c1, c2, ?_⟩)
      simpa [widthB, c1, c2] using h
    · exact .inr (.inl ⟨c1, by omega⟩)
  · exact .inl (by omega)
theorem width_all {a c : Int} (h : widthB a 1 c = true) : 1 ≤ a ∧ a ≤ 32 ∧ (decide ((2 : Int) ≤ c) && decide (c ≤ 4)) = true := by
  simp [widthB] at h
  exact ⟨h.1.1.1, h.1.1.2, by simp [h.1.2, h.2]⟩

theorem infoInt : (Try.prog.info? 3).map (fun i => (i.zero, i.size, i.bytes)) = some (some (.int .i64 0), 1, 8) := by kernel_rfl
def i64s (xs : List Int) : List Value := xs.map fun n => Value.int .i64 n
theorem i64s_snoc (xs : List Int) (x : Int) : i64s (xs ++ [x]) = i64s xs ++ [.int .i64 x] := by simp [i64s]
/-- What a list of levels is: its error, its length, its row. -/
def levelsE (a c : Int) : Int := if widthB a 1 c then 0 else 2
def levelsL (a c : Int) : List Int := if widthB a 1 c then levelsN a.toNat c.toNat (topN a.toNat c.toNat + 1) else []
def LevPost (a c : Int) (w : World) (e : Ending) (w' : World) : Prop := ∃ v, e = .returned (.tuple #[v, .int .i64 (levelsE a c)]) ∧ w'.ownsRow w.heap.size 3 1 v (levelsL a c).length (i64s (levelsL a c)) ∧ Below w.heap.size w w'

theorem new_cell (W : World) (u : Value) (t : TypeId) : (W.alloc (.cells #[u] t)).cell? ⟨W.heap.size, 0, none⟩ = some u := by simp [go_sem]

theorem own_succ {W : World} {base : Nat} {e : TypeId} {v : Value} {k : Nat} {xs : List Value} (h : W.ownsRow base e 1 v (k + 1) xs) : ∃ g cap, v = .slice (some ⟨g, 0, none⟩) (k + 1) cap := by
  rcases h.2 with ⟨_, h0⟩ | ⟨g, cap, cur, rfl, _⟩
  · omega
  · exact ⟨g, cap, rfl⟩

theorem i64s_last (m c k : Nat) : (i64s (levelsN m c (k + 1)))[k]? = some (.int .i64 (itemsN m c k)) := by simp [i64s, levelsN]

set_option maxHeartbeats 800000 in
theorem Levels_any (a c : Int) (w : World) (hw : Pw w) : Calls Try.prog 88 #[.int .i64 a, .int .i64 c] w (LevPost a c w) := by
  obtain ⟨j0, hj0, hy0, hy1, hy2⟩ := info_parts infoInt
  have hpos := hw.pos
  cases hwid : widthB a 1 c with
  | false =>
    have E1 := Lib.hid (show levelsE a c = 2 by simp [levelsE, hwid])
    have E2 := Lib.hid (show levelsL a c = [] by simp [levelsL, hwid])
    go_enter Try.func88, Try.ntmps88
    go_wp2_with fail
    go_step3
    go_wp2_with (go_at_call 89; refine (width_any _ _ _ _).mono ?_; rw [hwid]; rintro e w' ⟨rfl, rfl⟩)
    (try rw [Exit.noGoto_ret])
    go_ret2
    exact ⟨_, by rw [E1.out]; rfl, by rw [E2.out]; exact World.ownsRow_nil _ _ _ _, Below.refl _ _⟩
  | true =>
    obtain ⟨m, k, rfl, rfl, r1, r2, r3, r4⟩ := width_parts hwid (by omega)
    have E1 := Lib.hid (show levelsE m k = 0 by simp [levelsE, hwid])
    have E2 := Lib.hid (show levelsL m k = levelsN m k (topN m k + 1) by simp [levelsL, hwid])
    have ht := top_le m r1 k r2
    go_enter Try.func88, Try.ntmps88
    go_wp2_with fail
    go_step3
    go_wp2_with (go_at_call 89; refine (width_any _ _ _ _).mono ?_; rw [hwid]; rintro e w' ⟨rfl, rfl⟩)
    clear hwid
    go_step3
    go_wp2_with fail
    go_loopw [6, 7, 12] (fun v _ i wr => ∃ j : Nat, j ≤ topN m k ∧ i = .int .i64 j ∧ wr.ownsRow w.heap.size 3 1 v j (i64s (levelsN m k j)) ∧ Below w.heap.size w wr) (fun _ _ i _ => 5 - (intOf i).toNat)
    case atStart => exact ⟨0, by omega, rfl, World.ownsRow_nil _ _ _ _, Below.refl _ _⟩
    case round =>
      obtain ⟨j, hj, rfl, hown, hbel⟩ := hrel
      have hj5 : j < 5 := by omega
      have hx := items_lt m r1 k r2 r3 j hj5
      have hat := top_at r1 r2 r3 hj5 hj
      have u1 := up_any m k j wr (hw.below hbel hpos) r1 r2 r3 hj5
      have HL := Lib.hid (levels_succ m k j)
      have HC := Lib.hid (i64s_last m k j)
      have HW := Lib.hid hown
      clear hown
      generalize hxd : itemsN m k j = x at *
      clear hxd hw
      have hj5' : (j : Int) < 5 := by omega
      by_cases hle : x ≤ k
      · have HT := Lib.hid (hat.1 hle)
        clear hat hj ht
        go_wp2_with (first
          | (go_at_call 90; with_reducible refine u1.mono ?_; rintro e w' ⟨rfl, rfl⟩)
          | (at_builtin; refine wpList_append_own _ rfl _ _ 109 rfl w.heap.size 3 j0 (.int .i64 0) 1 8 Try.underlying109 hj0 hy0 hy1 hy2 rfl (by decide) _ _ _ rfl (HW.out.alloc _) ⟨wr.heap.size, 0, none⟩ 1 1 [.int .i64 x] rfl rfl (by intro j u hu; cases j with | zero => (simp at hu; subst hu; exact new_cell _ _ _) | succ j => simp at hu) (by simp [Value.oneCell']) (by unfold maxLen; omega) (by omega) (by have := hbel.size; simp; omega) ?_; intro v' w2 hown1 hgrow1 _; have hb2 : Below w.heap.size w w2 := (hbel.alloc hbel.size _).grown hgrow1 (by have := hbel.size; simp; omega) (fun j e => (HW.out.lt j e).1); obtain ⟨g, cp, rfl⟩ := own_succ hown1; have hcell := hown1.cellAt j (by omega); rw [← i64s_snoc, ← HL.out, HC.out] at hcell; have HW1 := Lib.hid hown1; clear hown1 hgrow1))
        (try rw [Exit.noGoto_ret])
        go_ret2
        exact ⟨_, by rw [E1.out]; rfl, by rw [E2.out, levels_len, ← HT.out, HL.out, i64s_snoc]; exact HW1.out, hb2⟩
      · have hne : j ≠ topN m k := fun h => hle (hat.2 h)
        have HJ := Lib.hid (show j + 1 ≤ topN m k by omega)
        clear hat hj ht hne
        go_wp2_with (first
          | (go_at_call 90; with_reducible refine u1.mono ?_; rintro e w' ⟨rfl, rfl⟩)
          | (at_builtin; refine wpList_append_own _ rfl _ _ 109 rfl w.heap.size 3 j0 (.int .i64 0) 1 8 Try.underlying109 hj0 hy0 hy1 hy2 rfl (by decide) _ _ _ rfl (HW.out.alloc _) ⟨wr.heap.size, 0, none⟩ 1 1 [.int .i64 x] rfl rfl (by intro j u hu; cases j with | zero => (simp at hu; subst hu; exact new_cell _ _ _) | succ j => simp at hu) (by simp [Value.oneCell']) (by unfold maxLen; omega) (by omega) (by have := hbel.size; simp; omega) ?_; intro v' w2 hown1 hgrow1 _; have hb2 : Below w.heap.size w w2 := (hbel.alloc hbel.size _).grown hgrow1 (by have := hbel.size; simp; omega) (fun j e => (HW.out.lt j e).1); obtain ⟨g, cp, rfl⟩ := own_succ hown1; have hcell := hown1.cellAt j (by omega); rw [← i64s_snoc, ← HL.out, HC.out] at hcell; have HW1 := Lib.hid hown1; clear hown1 hgrow1))
        go_roundw
        case rel => exact ⟨j + 1, HJ.out, by go_num, by rw [HL.out, i64s_snoc]; exact HW1.out, hb2⟩
        case measure => simp [intOf]; omega


end Go.Proofs.Ytecjbgddjejjdaa
