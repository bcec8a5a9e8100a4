/- The walk of PackBack. -/
import Derived.Test.YtmjgmfoaagomgaaRow
import Derived.Test.YtmjgmfoaagomgaaPlainThere
namespace Go.Proofs.Ytmjgmfoaagomgaa
open Go.RowKit

set_option maxHeartbeats 1600000 in
theorem walk_PackBack (a0 : Option Addr) (l0 c0 : Nat) (w : World) (s0 : Fra.Slc w [.i64, .u64] a0 l0 c0) :
    Calls Try.prog 7 #[.slice a0 l0 c0] w fun e w' => e = .returned (.bool true) ∧ Below w.heap.size w w' := by
  obtain ⟨bs, vs, hF0, hmax, hbd⟩ := fields_slc s0
  obtain ⟨i0, hi0, hz0, hz1, hz2⟩ := info_parts info64
  obtain ⟨j0, hj0, hy0, hy1, hy2⟩ := info_parts infoInt
  clear s0
  go_enter Try.func7, Try.ntmps7
  go_wp2_with fail
  refine (alive_any _).mono ?_
  rintro e w1 ⟨rfl, hb1⟩
  by_cases hle : l0 ≤ 100
  · have hF := hF0.below hb1
    clear hF0
    go_wp2_with fail
    go_loopw [4, 5, 6] (fun v u i wr => ∃ k : Nat, k ≤ l0 ∧ i = .int .i64 k ∧ wr.ownsRow w1.heap.size 3 1 v k (i64s (bitsN bs k)) ∧ wr.ownsRow w1.heap.size 22 1 u k (u64s (wordsN vs k)) ∧ Below w1.heap.size w1 wr) (fun _ _ i _ => l0 - (intOf i).toNat)
    case atStart => exact ⟨0, Nat.zero_le _, rfl, World.ownsRow_nil _ _ _ _, World.ownsRow_nil _ _ _ _, Below.refl _ _⟩
    case round =>
      obtain ⟨k, hk, rfl, hown, hown', hbel⟩ := hrel
      by_cases hlt : k < l0
      · obtain ⟨b, off, rfl, hb, hc⟩ : ∃ b off, a0 = some ⟨b, off, none⟩ ∧ b < w1.heap.size ∧ ∀ i, i < l0 → w1.cell? ⟨b, off + i * 2, none⟩ = some (.int .i64 (bs i)) ∧ w1.cell? ⟨b, off + i * 2 + 1, none⟩ = some (.int .u64 (vs i)) := by
          rcases hF with rfl | h
          · omega
          · exact h
        have d0 := (hbel.cell (p := ⟨b, off + k * 2, none⟩) hb).trans (hc k hlt).1
        have HK := Lib.hid (hc k hlt).2
        have HW := Lib.hid hown; have HU := Lib.hid hown'
        clear hF hc hown hown' hbd
        go_wp2_with (first
          | (at_builtin; refine wpList_append_own _ rfl _ _ 32 rfl w1.heap.size 3 j0 (.int .i64 0) 1 8 Try.underlying32 hj0 hy0 hy1 hy2 rfl (by decide) _ _ _ rfl (HW.out.alloc _) ⟨wr.heap.size, 0, none⟩ 1 1 [.int .i64 (bs k)] rfl rfl (by intro j u hu; cases j with | zero => (simp at hu; subst hu; exact twin_new (W := wr) ⟨rfl, rfl, rfl, rfl⟩) | succ j => simp at hu) (by simp [Value.oneCell']) (by unfold maxLen; omega) (by omega) (by have := hbel.size; simp; omega) ?_; intro v' w2 hown1 hgrow1 _; have hb2 : Below w1.heap.size w1 w2 := (hbel.alloc hbel.size _).grown hgrow1 (by have := hbel.size; simp; omega) (fun j e => (HW.out.lt j e).1); have d1 := (hb2.cell (p := ⟨b, off + k * 2 + 1, none⟩) hb).trans HK.out; have HU1 := Lib.hid ((HU.out.alloc _).kept hgrow1 (own_apart HU.out HW.out (by decide))); have HW1 := Lib.hid hown1; clear hown1 hgrow1 d0)
          | (at_builtin; refine wpList_append_own _ rfl _ _ 35 rfl w1.heap.size 22 i0 (.int .u64 0) 1 8 Try.underlying35 hi0 hz0 hz1 hz2 rfl (by decide) _ _ _ rfl (HU1.out.alloc _) ⟨w2.heap.size, 0, none⟩ 1 1 [.int .u64 (vs k)] rfl rfl (by intro j u hu; cases j with | zero => (simp at hu; subst hu; exact twin_new (W := w2) ⟨rfl, rfl, rfl, rfl⟩) | succ j => simp at hu) (by simp [Value.oneCell']) (by unfold maxLen; omega) (by omega) (by have := hb2.size; simp; omega) ?_; intro v3 w3 hown3 hgrow3 _; have hb3 : Below w1.heap.size w1 w3 := (hb2.alloc hb2.size _).grown hgrow3 (by have := hb2.size; simp; omega) (fun j e => (HU1.out.lt j e).1); have HW2 := Lib.hid ((HW1.out.alloc _).kept hgrow3 (own_apart HW1.out HU1.out (by decide))); have HU2 := Lib.hid hown3; clear hown3 hgrow3 d1))
        go_roundw
        case rel => exact ⟨k + 1, by omega, by go_num, by rw [bitsN_succ, i64s_snoc]; exact HW2.out, by rw [wordsN_succ, u64s_snoc]; exact HU2.out, hb3⟩
        case measure => simp [intOf]; omega
      · obtain rfl : k = l0 := by omega
        obtain ⟨av, cv, rfl, hI⟩ := ints_own hown
        have HI := Lib.hid hI
        have HU := Lib.hid hown'
        have HB := Lib.hid (hb1.trans (hbel.mono hb1.size))
        have HF := Lib.hid (hF.below hbel)
        clear hF hI hown hown' hbel hb1
        go_wp2_with fail
        refine (Join_any a0 k c0 bs vs _ hmax (fun i hi => (hbd i hi).1) (fun i hi => (hbd i hi).2.1) (fun i hi => (hbd i hi).2.2) HF.out).mono ?_
        rintro e w4 ⟨rfl, hb4⟩
        have HB4 := Lib.hid (HB.out.trans (hb4.mono HB.out.size))
        have HI4 := Lib.hid (HI.out.below hb4)
        have HU4 := Lib.hid (own_below HU.out hb4)
        clear HB HI HU HF hb4
        cases hr : roomN bs k with
        | false =>
          rw [show joinV bs vs k = 0 from by simp [joinV, hr], show joinE bs vs k = 2 from by simp [joinE, hr]]
          clear hr hbd
          go_wp2_with fail
          go_ret
          exact ⟨rfl, HB4.out⟩
        | true =>
          cases hf : accF bs vs k with
          | false =>
            rw [show joinV bs vs k = 0 from by simp [joinV, hr, hf], show joinE bs vs k = 10 from by simp [joinE, hr, hf]]
            clear hr hf hbd
            go_wp2_with fail
            go_ret
            exact ⟨rfl, HB4.out⟩
          | true =>
            rw [show joinV bs vs k = accX bs vs k from by simp [joinV, hr, hf], show joinE bs vs k = 0 from by simp [joinE, hr, hf]]
            have hS : sameN (fun i => (outN (accX bs vs k) bs k).getD i 0) vs k = true := sameN_of fun j hj => outN_accX hr hf j hj
            have HS := Lib.hid hS; clear hS
            have hx := accX_lt (vs := vs) hr
            have HL := Lib.hid (show splitL (accX bs vs k) bs k = outN (accX bs vs k) bs k by simp [splitL, hr])
            have HE := Lib.hid (show splitE bs k = 0 by simp [splitE, hr])
            clear hr hf
            generalize accX bs vs k = X at hx HS HL ⊢
            go_wp2_with fail
            refine (Split_any av X k cv bs _ hmax (by omega) hx (fun i hi => (hbd i hi).1) (fun i hi => (hbd i hi).2.1) HI4.out).mono ?_
            rintro e w5 ⟨v5, rfl, hown5, hb5⟩
            rw [HE.out]
            rw [HL.out] at hown5
            obtain ⟨a5, c5, rfl, hW5⟩ := words_own hown5
            rw [outN_len] at hW5
            rw [outN_len]
            obtain ⟨au, cu, rfl, hW6⟩ := words_row (own_below HU4.out hb5)
            have HB5 := Lib.hid (HB4.out.trans (hb5.mono HB4.out.size))
            have H5 := Lib.hid hW5; have H6 := Lib.hid hW6
            clear hown5 hW5 hW6 hb5 HB4 HU4 HI4 hbd
            go_wp2_with fail
            refine (rSameWords_any a5 au k k c5 cu _ _ _ H5.out H6.out hmax).mono ?_
            rintro e w' ⟨rfl, m, rfl⟩
            rw [HS.out, show (decide (k = k) && true) = true from by simp]
            go_wp2_with fail
            go_ret
            exact ⟨rfl, below_drewN HB5.out m⟩
  · go_wp2_with fail
    go_ret
    exact ⟨rfl, hb1⟩

end Go.Proofs.Ytmjgmfoaagomgaa
