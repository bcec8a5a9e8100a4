/- Contracts of the reference of layer 1 that go through lists. -/
import Derived.Test.YtmjgmfoaagomgaaPackRef
import Derived.Test.YtmjgmfoaagomgaaSplit
namespace Go.Proofs.Ytmjgmfoaagomgaa
open Go.RowKit

theorem accF_lo {bs : Nat → Int} {vs : Nat → Nat} {i j : Nat} (h : accF bs vs i = true) (hj : j < i) : fitB (vs j) (bs j) = true := by
  induction i with
  | zero => omega
  | succ i ih =>
    simp only [accF, Bool.and_eq_true] at h
    by_cases e : j = i
    · rw [e]; exact h.2
    · exact ih h.1 (by omega)
theorem roomN_at {bs : Nat → Int} {i j : Nat} (h : roomN bs i = true) (hj : j < i) : mayB (accP bs j) (bs j) = true := by
  have := roomN_lo h (show j + 1 ≤ i by omega)
  simp only [roomN, Bool.and_eq_true] at this
  exact this.2
theorem accF_mono {bs : Nat → Int} {vs : Nat → Nat} {i j : Nat} (h : accF bs vs i = true) (hj : j ≤ i) : accF bs vs j = true := by
  induction i with
  | zero => obtain rfl : j = 0 := by omega
            exact h
  | succ i ih =>
    by_cases e : j = i + 1
    · rw [e]; exact h
    · simp only [accF, Bool.and_eq_true] at h
      exact ih h.1 (by omega)

set_option maxHeartbeats 1000000 in
theorem rJoined_any (a : Option Addr) (n cap : Nat) (bs : Nat → Int) (vs : Nat → Nat) (w : World) (hn : n ≤ 9223372036854775807) (hF : FieldsAt w a n bs vs) (hr : roomN bs n = true) (hf : accF bs vs n = true) :
    Calls Try.prog 28 #[.slice a n cap] w fun e w' => e = .returned (.int .u64 (accX bs vs n)) ∧ ∃ m, w' = w.drewN m := by
  go_enter Try.func28, Try.ntmps28
  go_wp2
  go_loopw [3, 4, 5] (fun x p i wr => ∃ k m : Nat, k ≤ n ∧ i = .int .i64 k ∧ x = .int .u64 (accX bs vs k) ∧ p = .int .i64 (accP bs k) ∧ wr = w.drewN m) (fun _ _ i _ => n - (intOf i).toNat)
  case atStart => exact ⟨0, 0, Nat.zero_le _, rfl, rfl, rfl, rfl⟩
  case round =>
    obtain ⟨k, m, hk, rfl, rfl, rfl, hw⟩ := hrel
    have HW := Lib.hid hw
    have hcw : ∀ a, wr.cell? a = w.cell? a := fun a => by rw [hw]; rfl
    clear hw
    by_cases hlt : k < n
    · obtain ⟨b, off, rfl, hb, hc⟩ : ∃ b off, a = some ⟨b, off, none⟩ ∧ b < w.heap.size ∧ ∀ i, i < n → w.cell? ⟨b, off + i * 2, none⟩ = some (.int .i64 (bs i)) ∧ w.cell? ⟨b, off + i * 2 + 1, none⟩ = some (.int .u64 (vs i)) := by
        rcases hF with rfl | h
        · omega
        · exact h
      obtain ⟨m1, m2, m3, m4⟩ := (mayB_iff _ _).1 (roomN_at hr hlt)
      have hx := accX_lt (vs := vs) (roomN_lo hr hk)
      have hfit := accF_lo hf hlt
      have HX : accX bs vs (k + 1) = withN (accX bs vs k) (accP bs k).toNat (bs k).toNat (vs k) := by simp [accX, hfit]
      have HP : accP bs (k + 1) = accP bs k + bs k := rfl
      have d0 := (hcw _).trans (hc k hlt).1
      have d1 := (hcw _).trans (hc k hlt).2
      clear hcw
      obtain ⟨p, hp⟩ := Int.eq_ofNat_of_zero_le m3
      obtain ⟨q, hq⟩ := Int.eq_ofNat_of_zero_le (show 0 ≤ bs k by omega)
      have hpq : p + q ≤ 64 := by omega
      have hq1 : 1 ≤ q := by omega
      clear hF hc hr hf hfit m1 m2 m3 m4
      rw [hp, hq] at HX HP
      rw [hq] at d0
      rw [hp]
      generalize accX bs vs k = x at *
      generalize vs k = v at *
      have HX' := Lib.hid HX; clear HX
      have HP' := Lib.hid HP; clear HP
      clear hp hq
      go_wp2_with fail
      go_quiet ((go_at_call 25; exact Calls.quiet_of_same ((rWith_any x p q v _ hx hq1 hpq).mono fun _ _ h => ⟨h.1, h.2.symm⟩)))
      go_wp2_with fail
      go_roundw
      case rel => exact ⟨k + 1, m + nq, by omega, by go_num, by rw [HX'.out]; rfl, by rw [HP'.out], by rw [HW.out]; simp⟩
      case measure => simp [intOf]; omega
    · obtain rfl : k = n := by omega
      clear hcw
      go_wp2
      go_ret
      exact ⟨rfl, m, HW.out⟩

set_option maxHeartbeats 1000000 in
theorem rJoin_any (a : Option Addr) (n cap : Nat) (bs : Nat → Int) (vs : Nat → Nat) (w : World) (hn : n ≤ 9223372036854775807) (hlo : ∀ i, i < n → -9223372036854775808 ≤ bs i) (hhi : ∀ i, i < n → bs i ≤ 9223372036854775807)
    (hv : ∀ i, i < n → vs i < 18446744073709551616) (hF : FieldsAt w a n bs vs) :
    Calls Try.prog 13 #[.slice a n cap] w fun e w' => e = .returned (.tuple #[.int .u64 (joinV bs vs n), .int .i64 (joinE bs vs n)]) ∧ ∃ m, w' = w.drewN m := by
  go_enter Try.func13, Try.ntmps13
  go_wp2
  go_loop [4, 5] (fun p i => ∃ k : Nat, k ≤ n ∧ i = .int .i64 k ∧ p = .int .i64 (accP bs k) ∧ roomN bs k = true) (fun _ i => n - (intOf i).toNat)
  case atStart => exact ⟨0, Nat.zero_le _, rfl, rfl, rfl⟩
  case round =>
    obtain ⟨k, hk, rfl, rfl, hr⟩ := hrel
    by_cases hlt : k < n
    · obtain ⟨b, off, rfl, hb, hc⟩ : ∃ b off, a = some ⟨b, off, none⟩ ∧ b < w.heap.size ∧ ∀ i, i < n → w.cell? ⟨b, off + i * 2, none⟩ = some (.int .i64 (bs i)) ∧ w.cell? ⟨b, off + i * 2 + 1, none⟩ = some (.int .u64 (vs i)) := by
        rcases hF with rfl | h
        · omega
        · exact h
      have d0 := (hc k hlt).1
      have l1 := hlo k hlt
      have l2 := hhi k hlt
      obtain ⟨p1, p2⟩ := accP_bd hr
      cases hm : mayB (accP bs k) (bs k) with
      | true =>
        obtain ⟨m1, m2, m3, m4⟩ := (mayB_iff _ _).1 hm
        have hr1 : roomN bs (k + 1) = true := by simp [roomN, hr, hm]
        clear hF hc hlo hhi hv
        go_wp2_with (go_at_call 20; refine (rIs_any _ _ _ l1 l2).mono ?_; rintro e w' ⟨rfl, rfl⟩)
        go_round
        case rel => exact ⟨k + 1, by omega, by go_num, rfl, hr1⟩
        case measure => simp [intOf]; omega
      | false =>
        have hrn : roomN bs n = false := by
          cases hh : roomN bs n with
          | false => rfl
          | true => rw [roomN_at hh hlt] at hm; cases hm
        have E1 := Lib.hid (show joinV bs vs n = 0 by simp [joinV, hrn])
        have E2 := Lib.hid (show joinE bs vs n = 2 by simp [joinE, hrn])
        clear hF hc hlo hhi hv
        go_wp2_with (go_at_call 20; refine (rIs_any _ _ _ l1 l2).mono ?_; rintro e w' ⟨rfl, rfl⟩)
        go_ret2
        exact ⟨by rw [E1.out, E2.out]; rfl, 0, rfl⟩
    · obtain rfl : k = n := by omega
      have HR := Lib.hid hr; clear hr hlo hhi
      go_wp2
      go_loopw [6] (fun i wr => ∃ j m : Nat, j ≤ k ∧ i = .int .i64 j ∧ accF bs vs j = true ∧ wr = w.drewN m) (fun i _ => k - (intOf i).toNat)
      case atStart => exact ⟨0, 0, Nat.zero_le _, rfl, rfl, rfl⟩
      case round =>
        obtain ⟨j, m, hj, rfl, hf, hw⟩ := hrel
        have HW := Lib.hid hw
        have hcw : ∀ a, wr.cell? a = w.cell? a := fun a => by rw [hw]; rfl
        clear hw
        by_cases hlt2 : j < k
        · obtain ⟨b, off, rfl, hb, hc⟩ : ∃ b off, a = some ⟨b, off, none⟩ ∧ b < w.heap.size ∧ ∀ i, i < k → w.cell? ⟨b, off + i * 2, none⟩ = some (.int .i64 (bs i)) ∧ w.cell? ⟨b, off + i * 2 + 1, none⟩ = some (.int .u64 (vs i)) := by
            rcases hF with rfl | h
            · omega
            · exact h
          have d0 := (hcw _).trans (hc j hlt2).1
          have d1 := (hcw _).trans (hc j hlt2).2
          clear hcw
          obtain ⟨m1, m2, m3, m4⟩ := (mayB_iff _ _).1 (roomN_at HR.out hlt2)
          obtain ⟨q, hq⟩ := Int.eq_ofNat_of_zero_le (show 0 ≤ bs j by omega)
          have hvj := hv j hlt2
          have hq64 : q ≤ 64 := by omega
          have hF1 : accF bs vs (j + 1) = (accF bs vs j && fitB (vs j) (bs j)) := rfl
          rw [hf, hq, Bool.true_and] at hF1
          rw [hq] at d0
          cases hfit : fitB (vs j) q with
          | true =>
            rw [hfit] at hF1
            have HF1 := Lib.hid hF1
            generalize vs j = v at *
            clear hF hc hv m1 m2 m3 m4 hq hF1 hf
            go_wp2_with fail
            go_quiet ((go_at_call 24; exact Calls.quiet_of_same ((rFits_any v q _ hvj hq64).mono fun _ _ h => ⟨h.1, h.2.symm⟩)))
            go_wp2_with fail
            go_roundw
            case rel => exact ⟨j + 1, m + nq, by omega, by go_num, HF1.out, by rw [HW.out]; simp⟩
            case measure => simp [intOf]; omega
          | false =>
            rw [hfit] at hF1
            have hfk : accF bs vs k = false := by
              cases hh : accF bs vs k with
              | false => rfl
              | true => rw [accF_mono hh (show j + 1 ≤ k by omega)] at hF1; cases hF1
            have E1 := Lib.hid (show joinV bs vs k = 0 by simp [joinV, hfk])
            have E2 := Lib.hid (show joinE bs vs k = 10 by simp [joinE, HR.out, hfk])
            generalize vs j = v at *
            clear hF hc hv m1 m2 m3 m4 hq hF1 hf hfk
            go_wp2_with fail
            go_quiet ((go_at_call 24; exact Calls.quiet_of_same ((rFits_any v q _ hvj hq64).mono fun _ _ h => ⟨h.1, h.2.symm⟩)))
            go_wp2_with fail
            go_ret2
            exact ⟨by rw [E1.out, E2.out]; rfl, m + nq, by rw [HW.out]; simp⟩
        · obtain rfl : j = k := by omega
          have E1 := Lib.hid (show joinV bs vs j = accX bs vs j by simp [joinV, HR.out, hf])
          have E2 := Lib.hid (show joinE bs vs j = 0 by simp [joinE, HR.out, hf])
          have HF := Lib.hid hf; clear hf
          have HFd : FieldsAt wr a j bs vs := by rw [HW.out]; exact hF
          clear hcw
          have HN := Lib.hid HFd
          clear hF hv HFd
          go_wp2_with (go_at_call 28; refine (rJoined_any a j cap bs vs _ hn HN.out HR.out HF.out).mono ?_; rintro e w' ⟨rfl, nq, rfl⟩)
          go_ret2
          exact ⟨by rw [E1.out, E2.out]; rfl, m + nq, by rw [HW.out]; simp⟩

set_option maxHeartbeats 1000000 in
theorem rSplit_any (a : Option Addr) (x n cap : Nat) (bs : Nat → Int) (w : World) (hn : n ≤ 9223372036854775807) (hsz : n * 8 ≤ 140737488355328)
    (hlo : ∀ i, i < n → -9223372036854775808 ≤ bs i) (hhi : ∀ i, i < n → bs i ≤ 9223372036854775807) (hF : IntsAt w a n bs) :
    Calls Try.prog 15 #[.int .u64 x, .slice a n cap] w (ListPost (splitE bs n) (splitL x bs n) w) := by
  obtain ⟨i0, hi0, hz0, hz1, hz2⟩ := info_parts info64
  go_enter Try.func15, Try.ntmps15
  go_wp2
  go_loopw [6, 7, 8] (fun v p i wr => ∃ k : Nat, k ≤ n ∧ i = .int .i64 k ∧ p = .int .i64 (accP bs k) ∧ roomN bs k = true ∧ wr.ownsRow w.heap.size 22 1 v k (u64s (outN x bs k)) ∧ Below w.heap.size w wr) (fun _ _ i _ => n - (intOf i).toNat)
  case atStart => exact ⟨0, Nat.zero_le _, rfl, rfl, rfl, World.ownsRow_nil _ _ _ _, Below.refl _ _⟩
  case round =>
    obtain ⟨k, hk, rfl, rfl, hr, hown, hbel⟩ := hrel
    by_cases hlt : k < n
    · obtain ⟨b, off, rfl, hb, hc⟩ : ∃ b off, a = some ⟨b, off, none⟩ ∧ b < w.heap.size ∧ ∀ i, i < n → w.cell? ⟨b, off + i, none⟩ = some (.int .i64 (bs i)) := by
        rcases hF with rfl | h
        · omega
        · exact h
      have d0 := (hbel.cell (p := ⟨b, off + k, none⟩) hb).trans (hc k hlt)
      have l1 := hlo k hlt
      have l2 := hhi k hlt
      obtain ⟨p1, p2⟩ := accP_bd hr
      cases hm : mayB (accP bs k) (bs k) with
      | true =>
        obtain ⟨m1, m2, m3, m4⟩ := (mayB_iff _ _).1 hm
        have hr1 : roomN bs (k + 1) = true := by simp [roomN, hr, hm]
        have HO := outN_succ x bs k
        have HP : accP bs (k + 1) = accP bs k + bs k := rfl
        obtain ⟨p, hp⟩ := Int.eq_ofNat_of_zero_le m3
        obtain ⟨q, hq⟩ := Int.eq_ofNat_of_zero_le (show 0 ≤ bs k by omega)
        have hpq : p + q ≤ 64 := by omega
        have hq1 : 1 ≤ q := by omega
        rw [hp, hq] at HO HP hm
        have hck := hc k hlt
        rw [hq] at d0 hck
        rw [hp]
        have HK := Lib.hid hck; clear hck
        have HO' := Lib.hid HO; clear HO
        have HP' := Lib.hid HP; clear HP
        have HR1 := Lib.hid hr1; clear hr1
        have HW := Lib.hid hown; clear hown
        clear hF hc hlo hhi m1 m2 m3 m4 hp hq hr l1 l2
        have d0' : (wr.alloc (.cells #[.int .u64 (fieldN x p q : Int)] 22)).cell? ⟨b, off + k, none⟩ = some (.int .i64 q) := by
          rw [← d0]; exact World.cell?_of_block (a := ⟨b, off + k, none⟩) (Below.heap_alloc wr _ b (by have := hbel.size; omega))
        go_wp2_with (first
          | (go_at_call 20; refine (rIs_any _ _ _ (by omega) (by omega)).mono ?_; rintro e w' ⟨rfl, rfl⟩)
          | (go_at_call 21; refine (rField_any x p q _ hq1 hpq).mono ?_; rintro e w' ⟨rfl, rfl⟩)
          | (at_builtin; refine wpList_append_own _ rfl _ _ 35 rfl w.heap.size 22 i0 (.int .u64 0) 1 8 Try.underlying35 hi0 hz0 hz1 hz2 rfl (by decide) _ _ _ rfl (HW.out.alloc _) ⟨wr.heap.size, 0, none⟩ 1 1 [.int .u64 (fieldN x p q : Int)] rfl rfl (by intro j u hu; cases j with | zero => (simp at hu; subst hu; exact twin_new (W := wr) ⟨rfl, rfl, rfl, rfl⟩) | succ j => simp at hu) (by simp [Value.oneCell']) (by unfold maxLen; omega) (by omega) (by have := hbel.size; simp; omega) ?_; intro v' w1 hown1 hgrow1 _; have hb1 : Below w.heap.size w w1 := (hbel.alloc hbel.size _).grown hgrow1 (by have := hbel.size; simp; omega) (fun j e => (HW.out.lt j e).1); have d1 := (hb1.cell (p := ⟨b, off + k, none⟩) hb).trans HK.out; have HW1 := Lib.hid hown1; clear hown1 hgrow1 d0 d0'))
        go_roundw
        case rel => exact ⟨k + 1, by omega, by go_num, by rw [HP'.out], HR1.out, by rw [HO'.out, u64s_snoc]; exact HW1.out, hb1⟩
        case measure => simp [intOf]; omega
      | false =>
        have hrn : roomN bs n = false := by
          cases hh : roomN bs n with
          | false => rfl
          | true => rw [roomN_at hh hlt] at hm; cases hm
        have E1 := Lib.hid (show splitL x bs n = [] by simp [splitL, hrn])
        have E2 := Lib.hid (show splitE bs n = 2 by simp [splitE, hrn])
        clear hF hc hlo hhi hr hrn hown
        go_wp2_with (go_at_call 20; refine (rIs_any _ _ _ l1 l2).mono ?_; rintro e w' ⟨rfl, rfl⟩)
        go_ret2
        exact ⟨_, by rw [E2.out]; rfl, by rw [E1.out]; exact World.ownsRow_nil _ _ _ _, hbel⟩
    · obtain rfl : k = n := by omega
      have E1 := Lib.hid (show splitL x bs k = outN x bs k by simp [splitL, hr])
      have E2 := Lib.hid (show splitE bs k = 0 by simp [splitE, hr])
      have HW := Lib.hid hown
      clear hr hlo hhi hF hown
      go_wp2
      go_ret2
      exact ⟨_, by rw [E2.out]; rfl, by rw [E1.out, outN_len]; exact HW.out, hbel⟩

/-- Where a list of words lies. -/
def WordsAt (w : World) (a : Option Addr) (n : Nat) (g : Nat → Nat) : Prop :=
  n = 0 ∨ ∃ b off, a = some ⟨b, off, none⟩ ∧ ∀ i, i < n → w.cell? ⟨b, off + i, none⟩ = some (.int .u64 (g i))

theorem words_own {w : World} {b : Nat} {v : Value} {xs : List Nat} (h : w.ownsRow b 22 1 v xs.length (u64s xs)) : ∃ a cap, v = .slice a xs.length cap ∧ WordsAt w a xs.length (fun i => xs.getD i 0) := by
  rcases h.2 with ⟨rfl, h0⟩ | ⟨g, cap, cur, rfl, _⟩
  · exact ⟨none, 0, by rw [h0], .inl h0⟩
  · refine ⟨_, cap, rfl, .inr ⟨g, 0, rfl, fun i hi => ?_⟩⟩
    have := h.cellAt i (by omega)
    rw [Nat.zero_add, this]
    simp [u64s, hi]

def sameN (g g' : Nat → Nat) : Nat → Bool
  | 0 => true
  | k + 1 => sameN g g' k && decide (g k = g' k)

theorem sameN_lo {g g' : Nat → Nat} {i j : Nat} (h : sameN g g' i = true) (hj : j < i) : g j = g' j := by
  induction i with
  | zero => omega
  | succ i ih =>
    simp only [sameN, Bool.and_eq_true, decide_eq_true_eq] at h
    by_cases e : j = i
    · rw [e]; exact h.2
    · exact ih h.1 (by omega)
theorem sameN_of {g g' : Nat → Nat} {i : Nat} (h : ∀ j, j < i → g j = g' j) : sameN g g' i = true := by
  induction i with
  | zero => rfl
  | succ i ih =>
    simp only [sameN, Bool.and_eq_true, decide_eq_true_eq]
    exact ⟨ih fun j hj => h j (by omega), h i (by omega)⟩

set_option maxHeartbeats 1000000 in
/-- Two lists of words, each where it lies. -/
theorem rSameWords_any (a a' : Option Addr) (n n' c c' : Nat) (g g' : Nat → Nat) (w : World) (hx : WordsAt w a n g) (hy : WordsAt w a' n' g') (hn : n ≤ 9223372036854775807) :
    Calls Try.prog 16 #[.slice a n c, .slice a' n' c'] w fun e w' => e = .returned (.bool (decide (n = n') && sameN g g' n)) ∧ ∃ m, w' = w.drewN m := by
  by_cases hl : n = n'
  · subst hl
    rw [decide_eq_true rfl, Bool.true_and]
    go_enter Try.func16, Try.ntmps16
    go_wp2
    go_loopw [5] (fun i wr => ∃ k m : Nat, k ≤ n ∧ i = .int .i64 k ∧ sameN g g' k = true ∧ wr = w.drewN m) (fun i _ => n - (intOf i).toNat)
    case atStart => exact ⟨0, 0, Nat.zero_le _, rfl, rfl, rfl⟩
    case round =>
      obtain ⟨k, m, hk, rfl, hs, hw⟩ := hrel
      have HW := Lib.hid hw
      have hcw : ∀ a, wr.cell? a = w.cell? a := fun a => by rw [hw]; rfl
      clear hw
      by_cases hlt : k < n
      · rcases hx with rfl | ⟨b, off, rfl, hx⟩
        · omega
        rcases hy with rfl | ⟨b', off', rfl, hy⟩
        · omega
        have d0 := (hcw _).trans (hx k hlt)
        have d1 := (hcw _).trans (hy k hlt)
        have hS : sameN g g' (k + 1) = (sameN g g' k && decide (g k = g' k)) := rfl
        rw [hs, Bool.true_and] at hS
        have hne : g k ≠ g' k → sameN g g' n = false := fun hne => by
          cases hh : sameN g g' n with
          | false => rfl
          | true => exact absurd (sameN_lo hh hlt) hne
        clear hcw hx hy hs
        generalize g k = p at *
        generalize g' k = q at *
        by_cases hpq : p = q
        · subst hpq
          rw [decide_eq_true rfl] at hS
          have HS := Lib.hid hS
          clear hS hne
          go_wp2_with fail
          go_quiet (fail)
          go_wp2_with fail
          go_roundw
          case rel => exact ⟨k + 1, m + nq, by omega, by go_num, HS.out, by rw [HW.out]; simp⟩
          case measure => simp [intOf]; omega
        · have HN := Lib.hid (hne hpq)
          have hb : ((p : Int) == (q : Int)) = false := by simp; omega
          have hb' : ((p : Int) != (q : Int)) = true := by simp; omega
          clear hS hne
          go_wp2_with fail
          go_quiet (fail)
          go_wp2_with fail
          go_ret
          exact ⟨ret_bool HN.out.symm, m + nq, by rw [HW.out]; simp⟩
      · obtain rfl : k = n := by omega
        have HS := Lib.hid hs
        clear hcw hs
        go_wp2
        go_ret
        exact ⟨ret_bool HS.out.symm, m, HW.out⟩
  · rw [decide_eq_false hl, Bool.false_and]
    have hb' : ((n : Int) != (n' : Int)) = true := by simp; omega
    go_enter Try.func16, Try.ntmps16
    go_wp2
    go_ret
    exact ⟨rfl, 0, rfl⟩

end Go.Proofs.Ytmjgmfoaagomgaa
