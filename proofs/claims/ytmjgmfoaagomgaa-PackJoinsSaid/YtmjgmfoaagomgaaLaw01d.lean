/- The walk of PackJoins. -/
import Derived.Test.YtmjgmfoaagomgaaAppend
namespace Go.Proofs.Ytmjgmfoaagomgaa
open Go.RowKit

set_option maxHeartbeats 3000000 in
theorem walk_PackJoins (a0 : Option Addr) (l0 c0 : Nat) (n1 : Int) (a2 : Option Addr) (l2 c2 : Nat) (w : World) (s0 : Fra.Slc w [.i64, .u64] a0 l0 c0) (b1 : IntKind.u64.min ≤ n1 ∧ n1 ≤ IntKind.u64.max) (s2 : Fra.Slc w [.i64] a2 l2 c2) :
    Calls Try.prog 4 #[.slice a0 l0 c0, .int .u64 n1, .slice a2 l2 c2] w fun e w' => e = .returned (.bool true) ∧ Below w.heap.size w w' := by
  obtain ⟨bs, vs, hF0, hmax, hbd⟩ := fields_slc s0
  obtain ⟨is, hI0, hmax2, hbd2⟩ := ints_slc s2
  have hn0 := slc_none s0
  have hn2 := slc_none s2
  obtain ⟨j0, hj0, hy0, hy1, hy2⟩ := info_parts infoInt
  obtain ⟨k0, hk0, hq0, hq1, hq2⟩ := info_parts infoField
  obtain ⟨h1, h1'⟩ := b1
  simp [IntKind.min, IntKind.max, IntKind.signed, IntKind.bits] at h1 h1'
  obtain ⟨x, rfl⟩ := Int.eq_ofNat_of_zero_le h1
  have hx : x < 18446744073709551616 := by omega
  clear s0 s2 h1 h1'
  by_cases hle : l0 ≤ 100
  · by_cases hle2 : l2 ≤ 100
    · have HF0 := Lib.hid hF0; have HI0 := Lib.hid hI0; have HN0 := Lib.hid hn0; have HN2 := Lib.hid hn2; have HBD := Lib.hid hbd; have HBD2 := Lib.hid hbd2
      clear hF0 hI0 hn0 hn2 hbd hbd2
      go_enter Try.func4, Try.ntmps4
      go_wp2_with (first
        | (at_builtin; refine wpList_append_copy rfl _ _ 31 rfl w.heap.size 41 k0 (.agg #[.int .i64 0, .int .u64 0]) 2 16 Try.underlying31 hk0 hq0 hq1 hq2 rfl (by decide) _ rfl (World.ownsRow_lit w #[] 0 (Nat.le_refl _) (by decide) rfl) a0 l0 c0 (fieldsL bs vs l0) rfl HN0.out (fieldsL_len _ _ _) (fieldsL_news (HF0.out.below ((Below.refl _ w).alloc (Nat.le_refl _) _))) (fieldsL_one _ _ _) (by unfold maxLen; omega) (by omega) (by simp) ?_; intro v1 w1 hown1 hgrow1; have hb1 : Below w.heap.size w w1 := ((Below.refl _ w).alloc (Nat.le_refl _) _).grown hgrow1 (by simp) (fun j e => by cases e; exact Nat.le_refl _); have HO1 := Lib.hid hown1; clear hown1 hgrow1)
        | (at_builtin; refine wpList_append_copy rfl _ _ 32 rfl w1.heap.size 3 j0 (.int .i64 0) 1 8 Try.underlying32 hj0 hy0 hy1 hy2 rfl (by decide) _ rfl (World.ownsRow_lit w1 #[] 0 (Nat.le_refl _) (by decide) rfl) a2 l2 c2 (i64s (bitsN is l2)) rfl HN2.out (by simp [i64s, bitsN]) (ints_news (HI0.out.below (hb1.alloc hb1.size _))) (i64s_one _) (by unfold maxLen; omega) (by omega) (by simp) ?_; intro v2 w2 hown2 hgrow2; have hb2 : Below w1.heap.size w1 w2 := ((Below.refl _ w1).alloc (Nat.le_refl _) _).grown hgrow2 (by simp) (fun j e => by cases e; exact Nat.le_refl _); have HO2 := Lib.hid hown2; clear hown2 hgrow2))
      obtain ⟨p1, q1, rfl, hF1⟩ := fields_own (own_below HO1.out hb2)
      obtain ⟨p2, q2, rfl, hI2⟩ := ints_own HO2.out
      have hF2 := HF0.out.below (hb1.trans (hb2.mono hb1.size))
      have hI3 := HI0.out.below (hb1.trans (hb2.mono hb1.size))
      have HB2 := Lib.hid (hb1.trans (hb2.mono hb1.size))
      clear HO1 HO2 hb1 hb2 HF0 HI0
      have HF1 := Lib.hid hF1; have HI2 := Lib.hid hI2; have HF2 := Lib.hid hF2; have HI3 := Lib.hid hI3
      clear hF1 hI2 hF2 hI3
      go_wp2_with fail
      refine (Join_any p1 l0 q1 bs vs _ hmax (fun i hi => (HBD.out i hi).1) (fun i hi => (HBD.out i hi).2.1) (fun i hi => (HBD.out i hi).2.2) HF1.out).mono ?_
      rintro e w3 ⟨rfl, hb3⟩
      have HF1' := Lib.hid (HF1.out.below hb3); have HI2' := Lib.hid (HI2.out.below hb3); have HF2' := Lib.hid (HF2.out.below hb3); have HI3' := Lib.hid (HI3.out.below hb3)
      have HB3 := Lib.hid (HB2.out.trans (hb3.mono HB2.out.size))
      clear HF1 HI2 HF2 HI3 HB2 hb3
      go_wp2_with fail
      refine (rJoin_any a0 l0 c0 bs vs _ hmax (fun i hi => (HBD.out i hi).1) (fun i hi => (HBD.out i hi).2.1) (fun i hi => (HBD.out i hi).2.2) HF2'.out).mono ?_
      rintro e w4 ⟨rfl, m4, hw4⟩
      have HF1 := Lib.hid (show FieldsAt w4 p1 l0 bs vs by rw [hw4]; exact HF1'.out)
      have HI2 := Lib.hid (show IntsAt w4 p2 l2 is by rw [hw4]; exact HI2'.out)
      have HF2 := Lib.hid (show FieldsAt w4 a0 l0 bs vs by rw [hw4]; exact HF2'.out)
      have HI3 := Lib.hid (show IntsAt w4 a2 l2 is by rw [hw4]; exact HI3'.out)
      have HB4 := Lib.hid (show Below w.heap.size w w4 by rw [hw4]; exact below_drewN HB3.out m4)
      clear HF1' HI2' HF2' HI3' HB3 hw4
      go_wp2_with fail
      refine (Split_any p2 x l2 q2 is _ hmax2 (by omega) hx (fun i hi => (HBD2.out i hi).1) (fun i hi => (HBD2.out i hi).2) HI2.out).mono ?_
      rintro e w5 ⟨v5, rfl, hown5, hb5⟩
      have HF1' := Lib.hid (HF1.out.below hb5); have HI2' := Lib.hid (HI2.out.below hb5); have HF2' := Lib.hid (HF2.out.below hb5); have HI3' := Lib.hid (HI3.out.below hb5)
      have HB5 := Lib.hid (HB4.out.trans (hb5.mono HB4.out.size))
      obtain ⟨a5, c5, rfl, hW5⟩ := words_own hown5
      have HW5 := Lib.hid hW5
      clear HF1 HI2 HF2 HI3 HB4 hb5 hown5 hW5
      go_wp2_with fail
      refine (rSplit_any a2 x l2 c2 is _ hmax2 (by omega) (fun i hi => (HBD2.out i hi).1) (fun i hi => (HBD2.out i hi).2) HI3'.out).mono ?_
      rintro e w6 ⟨v6, rfl, hown6, hb6⟩
      obtain ⟨a6, c6, rfl, hW6⟩ := words_own hown6
      have HW6 := Lib.hid hW6
      have HW5' := Lib.hid (show WordsAt w6 a5 _ _ from HW5.out.below hb6)
      have HF1 := Lib.hid (HF1'.out.below hb6); have HI2 := Lib.hid (HI2'.out.below hb6); have HF2 := Lib.hid (HF2'.out.below hb6); have HI3 := Lib.hid (HI3'.out.below hb6)
      have HB6 := Lib.hid (HB5.out.trans (hb6.mono HB5.out.size))
      clear HF1' HI2' HF2' HI3' HB5 HW5 hb6 hown6 hW6 HBD HBD2
      go_wp2_with fail
      go_loopw [17] (fun i wr => ∃ k m : Nat, k ≤ l0 ∧ i = .int .i64 k ∧ wr = w6.drewN m) (fun i _ => l0 - (intOf i).toNat)
      case atStart => exact ⟨0, 0, Nat.zero_le _, rfl, rfl⟩
      case round =>
        obtain ⟨k, m, hk, rfl, hw⟩ := hrel
        have hcw : ∀ a, wr.cell? a = w6.cell? a := fun a => by rw [hw]; rfl
        by_cases hlt : k < l0
        · obtain ⟨b, off, rfl, hb, hc⟩ : ∃ b off, a0 = some ⟨b, off, none⟩ ∧ b < w6.heap.size ∧ ∀ i, i < l0 → w6.cell? ⟨b, off + i * 2, none⟩ = some (.int .i64 (bs i)) ∧ w6.cell? ⟨b, off + i * 2 + 1, none⟩ = some (.int .u64 (vs i)) := by
            rcases HF2.out with rfl | h
            · omega
            · exact h
          obtain ⟨b', off', rfl, hb', hc'⟩ : ∃ b off, p1 = some ⟨b, off, none⟩ ∧ b < w6.heap.size ∧ ∀ i, i < l0 → w6.cell? ⟨b, off + i * 2, none⟩ = some (.int .i64 (bs i)) ∧ w6.cell? ⟨b, off + i * 2 + 1, none⟩ = some (.int .u64 (vs i)) := by
            rcases HF1.out with rfl | h
            · omega
            · exact h
          have d0 := (hcw _).trans (hc k hlt).1
          have d1 := (hcw _).trans (hc k hlt).2
          have e0 := (hcw _).trans (hc' k hlt).1
          have e1 := (hcw _).trans (hc' k hlt).2
          have HW := Lib.hid hw
          clear hc hc' hcw hw HF1 HF2
          go_wp2_with fail
          go_quiet (fail)
          go_wp2_with fail
          go_roundw
          case rel => exact ⟨k + 1, m + nq, by omega, by go_num, by rw [HW.out]; simp⟩
          case measure => simp [intOf]; omega
        · obtain rfl : k = l0 := by omega
          have HI2' := Lib.hid (show IntsAt wr p2 l2 is by rw [hw]; exact HI2.out)
          have HI3' := Lib.hid (show IntsAt wr a2 l2 is by rw [hw]; exact HI3.out)
          have HB7 := Lib.hid (show Below w.heap.size w wr by rw [hw]; exact below_drewN HB6.out m)
          have HW5 := Lib.hid (show WordsAt wr a5 _ _ by rw [hw]; exact HW5'.out)
          have HW7 := Lib.hid (show WordsAt wr a6 _ _ by rw [hw]; exact HW6.out)
          clear HI2 HI3 HB6 HF1 HF2 HW5' HW6 hcw hw
          go_wp2_with fail
          rename World => w7
          go_loopw [18] (fun i wr => ∃ k m : Nat, k ≤ l2 ∧ i = .int .i64 k ∧ wr = w7.drewN m) (fun i _ => l2 - (intOf i).toNat)
          case atStart => exact ⟨0, 0, Nat.zero_le _, rfl, rfl⟩
          case round =>
            obtain ⟨k2, m2, hk2, rfl, hw2⟩ := hrel
            have hcw : ∀ a, wr.cell? a = w7.cell? a := fun a => by rw [hw2]; rfl
            by_cases hlt : k2 < l2
            · obtain ⟨b, off, rfl, hb, hc⟩ : ∃ b off, a2 = some ⟨b, off, none⟩ ∧ b < w7.heap.size ∧ ∀ i, i < l2 → w7.cell? ⟨b, off + i, none⟩ = some (.int .i64 (is i)) := by
                rcases HI3'.out with rfl | h
                · omega
                · exact h
              obtain ⟨b', off', rfl, hb', hc'⟩ : ∃ b off, p2 = some ⟨b, off, none⟩ ∧ b < w7.heap.size ∧ ∀ i, i < l2 → w7.cell? ⟨b, off + i, none⟩ = some (.int .i64 (is i)) := by
                rcases HI2'.out with rfl | h
                · omega
                · exact h
              have d0 := (hcw _).trans (hc k2 hlt)
              have e0 := (hcw _).trans (hc' k2 hlt)
              have HW := Lib.hid hw2
              clear hc hc' hcw hw2 HI2' HI3'
              go_wp2_with fail
              go_quiet (fail)
              go_wp2_with fail
              go_roundw
              case rel => exact ⟨k2 + 1, m2 + nq, by omega, by go_num, by rw [HW.out]; simp⟩
              case measure => simp [intOf]; omega
            · obtain rfl : k2 = l2 := by omega
              have HW := Lib.hid hw2
              clear hw2 hcw
              have HS := Lib.hid (show sameN (fun i => (splitL x is k2).getD i 0) (fun i => (splitL x is k2).getD i 0) (splitL x is k2).length = true from sameN_of fun j _ => rfl)
              have hln : (splitL x is k2).length ≤ 9223372036854775807 := by unfold splitL; split <;> simp [outN_len]; omega
              have HW5'' := Lib.hid (show WordsAt wr a5 _ _ by rw [HW.out]; exact HW5.out)
              have HW7'' := Lib.hid (show WordsAt wr a6 _ _ by rw [HW.out]; exact HW7.out)
              have HB8 := Lib.hid (show Below w.heap.size w wr by rw [HW.out]; exact below_drewN HB7.out m2)
              clear HW HW5 HW7 HB7
              go_wp2_with fail
              refine (rSameWords_any a5 a6 _ _ c5 c6 _ _ _ HW5''.out HW7''.out hln).mono ?_
              rintro e w' ⟨rfl, m, rfl⟩
              rw [HS.out, show (decide ((splitL x is k2).length = (splitL x is k2).length) && true) = true from by simp]
              go_wp2_with fail
              go_ret
              exact ⟨rfl, below_drewN HB8.out m⟩
    · go_enter Try.func4, Try.ntmps4
      go_wp2
      go_ret
      exact ⟨rfl, Below.refl _ _⟩
  · go_enter Try.func4, Try.ntmps4
    go_wp2
    go_ret
    exact ⟨rfl, Below.refl _ _⟩

end Go.Proofs.Ytmjgmfoaagomgaa
