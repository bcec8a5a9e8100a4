/- The reference's Run. -/
import Derived.Test.YtmfkipefnacjdaaLaw02b
namespace Go.Proofs.Ytmfkipefnacjdaa
open Go.RowKit

theorem rd_grown {W W' : World} {a : Option Addr} {c : Nat} {l : List Cel} {row : Option Nat} (h : Rd W a c l) (hg : W.grownBy W' row) (hne : ∀ b off, a = some ⟨b, off, none⟩ → row ≠ some b) : Rd W' a c l := by
  refine ⟨h.nil, ?_⟩
  rcases h.at' with h1 | ⟨b, off, e, hlt, hc⟩
  · exact .inl h1
  · refine .inr ⟨b, off, e, hlt.elim .inl (fun h => .inr (by have := hg.size; omega)), fun j u hu => ?_⟩
    rcases hlt with h0 | hlt
    · subst h0; simp [celsV] at hu
    · rw [hg.cell_far _ hlt (Ne.symm (hne b off e))]; exact hc j u hu
theorem rd_lt {W : World} {b off c : Nat} {l : List Cel} (h : Rd W (some ⟨b, off, none⟩) c l) (h0 : 0 < l.length) : b < W.heap.size := by
  rcases h.at' with h1 | ⟨b', off', e, hlt, _⟩
  · cases h1
  · cases e
    rcases hlt with hl | hl
    · subst hl; simp at h0
    · exact hl

theorem rRun_many (a a' : Option Addr) (n n' c c' : Nat) (w : World) (h : 1024 < n ∨ (n ≤ 1024 ∧ 65536 < n')) : Calls Try.prog 17 #[.slice a n c, .slice a' n' c'] w fun e w' => e = .returned (.tuple #[.slice none 0 0, .slice none 0 0, .int .i64 4]) ∧ w = w' := by
  rcases h with h | ⟨h, h'⟩
  all_goals go_enter Try.func17, Try.ntmps17
  all_goals go_wp2_with fail
  all_goals go_ret3
  all_goals exact ⟨rfl, rfl⟩

set_option maxHeartbeats 3200000 in
theorem rRun_go (a a' : Option Addr) (c c' n m : Nat) (l : List Cel) (xs : List Acc) (w : World) (hn : l.length = n) (hm : xs.length = m) (hR : Rd w a c l) (hX : RdX w a' xs) (h : n ≤ 1024) (h' : m ≤ 65536) : Calls Try.prog 17 #[.slice a n c, .slice a' m c'] w (RunPost w l xs) := by
  obtain ⟨k0, hk0, hq0, hq1, hq2⟩ := info_parts infoSeen
  obtain ⟨k1, hk1, hp0, hp1, hp2⟩ := info_parts infoCell
  have i0 : (n : Int) ≤ 1024 := by omega
  have h1 : (m : Int) ≤ (65536 : Int) := by omega
  have HE := Lib.hid (show runErr l xs = if runB l xs then 0 else 2 by unfold runErr; rw [if_neg (by omega)])
  have HR := Lib.hid hR; have HX := Lib.hid hX; have HN := Lib.hid hn; have HMM := Lib.hid hm
  clear hR hX hn hm
  go_enter Try.func17, Try.ntmps17
  go_wp2_with fail
  go_loopw [0, 7, 8] (fun v s i wr => ∃ (k : Nat) (ak : Option Addr) (ck : Nat), k ≤ m ∧ i = .int .i64 k ∧ v = .slice ak n ck ∧ runB l (xs.take k) = true ∧ Rd wr ak ck (runL l (xs.take k)) ∧ wr.ownsRow w.heap.size 32 5 s k (seensV (runS l (xs.take k))) ∧ (∀ b off, ak = some ⟨b, off, none⟩ → s.ownBlock ≠ some b) ∧ Below w.heap.size w wr) (fun _ _ i _ => m - (intOf i).toNat)
  case atStart => exact ⟨0, a, c, Nat.zero_le _, rfl, rfl, rfl, HR.out, World.ownsRow_nil _ _ _ _, (fun _ _ _ e => by cases e), Below.refl _ _⟩
  case round =>
    obtain ⟨k, ak, ck, hk, rfl, rfl, hrb, hr, hs, hap, hbl⟩ := hrel
    have HR2 := Lib.hid hr; have HS2 := Lib.hid hs; have HB2 := Lib.hid hbl; have HRB := Lib.hid hrb; have HA := Lib.hid hap
    clear hr hs hbl hrb hap
    by_cases hlt : k < m
    · obtain ⟨x, hx⟩ : ∃ x, xs[k]? = some x := ⟨_, List.getElem?_eq_getElem (by rw [HMM.out]; exact hlt)⟩
      obtain ⟨bx, ox, rfl⟩ := HX.out.addr (k := k) (by rw [HMM.out]; exact hlt)
      obtain ⟨x0, x1, x2, x3, x4, x5, x6, x7, x8, x9⟩ := (HX.out.below HB2.out).get hx
      have HXX := Lib.hid hx
      have HLN := Lib.hid ((runL_len (xs.take k) l).trans HN.out)
      have i1 : (k : Int) < (m : Int) := by omega
      have i2 : (0 : Int) ≤ (k : Int) := by omega
      clear hx
      go_wp2_with fail
      refine (rDo_len ak ck n (runL l (xs.take k)) x _ HLN.out HR2.out (by omega)).mono ?_
      rintro e w2 ⟨a2, c2, rfl, hr2, ha2, hb2⟩
      have HS3 := Lib.hid (own_below HS2.out hb2)
      have HB3 := Lib.hid (keepB hb2 HB2.out)
      have HR3 := Lib.hid hr2
      have HA3 := Lib.hid (show ∀ b off, a2 = some ⟨b, off, none⟩ → u7.ownBlock ≠ some b from by
        intro b off e
        rcases ha2 with ⟨rfl, _⟩ | rfl | ⟨g, rfl, hg⟩
        · exact HA.out b off e
        · cases e
        · cases e
          intro e2
          have := (World.ownsRow.lt HS2.out b e2).2
          omega)
      clear hr2 ha2 hb2 x0 x1 x2 x3 x4 x5 x6 x7 x8 x9
      cases hmay : mayA n x.k x.at' with
      | false =>
        have hmay' : mayA l.length x.k x.at' = false := by rw [HN.out]; exact hmay
        have HNO := Lib.hid (runB_no HXX.out hmay')
        rw [show doE (runL l (xs.take k)) x = 2 from by rw [doE_of, HLN.out, hmay]; rfl]
        clear hmay hmay'
        go_wp2_with fail
        go_ret3
        refine ⟨moreB HB3.out _, .inr ⟨?_, ?_⟩⟩
        · rw [HE.out, HNO.out]; decide
        · rw [HE.out, HNO.out]; rfl
      | true =>
        have hmay' : mayA l.length x.k x.at' = true := by rw [HN.out]; exact hmay
        have HY := Lib.hid (show runB l (xs.take (k + 1)) = true by rw [runB_take HXX.out HRB.out]; exact hmay')
        have HT := Lib.hid (take_snoc xs k x HXX.out)
        have HPOS := Lib.hid (show 0 < n from by
          obtain ⟨_, _, p0, p1⟩ := (mayA_iff _ _ _).1 hmay
          omega)
        rw [show doE (runL l (xs.take k)) x = 0 from by rw [doE_of, HLN.out, hmay]; rfl]
        have hq : doS (runL l (xs.take k)) x = doS (runL l (xs.take k)) x := rfl
        clear hmay hq hmay'
        generalize hsv : doS (runL l (xs.take k)) x = sv
        obtain ⟨⟨s0, s1, s2, s3⟩, s4⟩ := sv
        have HSV := Lib.hid hsv
        clear hsv
        have sz := HB3.out.size
        go_wp2_with (at_builtin; refine wpList_append_lies _ rfl _ _ 43 rfl w.heap.size 32 k0 (.agg #[.int .u64 0, .int .u64 0, .int .u64 0, .int .u64 0, .bool false]) 5 40 Try.underlying43 hk0 hq0 hq1 hq2 rfl (by decide) _ _ _ rfl (World.ownsRow.alloc (World.ownsRow.alloc HS3.out _) _) ⟨w2.heap.size + 1, 0, none⟩ 1 1 [.int .u64 s0, .int .u64 s1, .int .u64 s2, .int .u64 s3, .bool s4] rfl rfl (by have h5 := new5 (w2.alloc (.cells #[.int .u64 s0, .int .u64 s1, .int .u64 s2, .int .u64 s3, .bool s4] 32)) (.int .u64 s0) (.int .u64 s1) (.int .u64 s2) (.int .u64 s3) (.bool s4) 32; rw [World.size_alloc] at h5; exact h5) (by simp [Value.oneCell']) (by omega) (by unfold maxLen; omega) (by omega) (by simp; omega) (w2.heap.size + 2) (by simp) ?_; intro gg cap w3 hown1 hgrow1 hat _; have hr3 := rd_grown ((HR3.out.below (newB w2 (.cells #[.int .u64 s0, .int .u64 s1, .int .u64 s2, .int .u64 s3, .bool s4] 32))).below (newB _ (.cells #[.int .u64 s0, .int .u64 s1, .int .u64 s2, .int .u64 s3, .bool s4] 32))) hgrow1 HA3.out; have hb3 := (moreB (moreB HB3.out _) _).grown hgrow1 (by simp; omega) (fun j e => (World.ownsRow.lt HS3.out j e).1); have HA4 := Lib.hid (show ∀ b off, a2 = some ⟨b, off, none⟩ → (Value.slice (some ⟨gg, 0, none⟩) (k + 1) cap).ownBlock ≠ some b from by { intro b off e; have hlt := rd_lt (e ▸ HR3.out) (by rw [doL_len, HLN.out]; exact HPOS.out); have h2 := HA3.out b off e; intro e2; simp [Value.ownBlock] at e2; rcases hat with h3 | h3; { exact h2 (by rw [← e2]; exact h3) }; { omega } }); have HB4 := Lib.hid hb3; have HS4 := Lib.hid hown1; have HR4 := Lib.hid hr3; clear hown1 hgrow1 hat hr3 hb3)
        go_roundw
        case rel =>
          refine ⟨k + 1, a2, c2, by omega, by go_num, rfl, HY.out, ?_, ?_, HA4.out, HB4.out⟩
          · rw [HT.out, runL_snoc]; exact HR4.out
          · rw [HT.out, runS_snoc, seensV_snoc, HSV.out]; exact HS4.out
        case measure => simp [intOf]; omega
    · obtain rfl : k = m := by omega
      have ht : xs.take k = xs := by rw [← HMM.out, List.take_length]
      have HRB2 := Lib.hid (show runB l xs = true by have := HRB.out; rwa [ht] at this)
      have HR3 := Lib.hid (show Rd wr ak ck (runL l xs) by have := HR2.out; rwa [ht] at this)
      have HS3 := Lib.hid (show wr.ownsRow w.heap.size 32 5 u7 k (seensV (runS l xs)) by have := HS2.out; rwa [ht] at this)
      have HLN := Lib.hid ((runL_len xs l).trans HN.out)
      have sz := HB2.out.size
      clear ht HRB HR2 HS2 HA
      go_wp2_with (at_builtin; refine wpList_append_copy rfl _ _ 22 rfl w.heap.size 30 k1 (.agg #[.int .u64 0, .int .u64 0, .int .u64 0, .int .u64 0]) 4 32 Try.underlying22 hk1 hp0 hp1 hp2 rfl (by decide) _ rfl (World.ownsRow_lit wr #[] 0 sz (by decide) rfl) ak n ck (celsV (runL l xs)) rfl (fun e => by have := HR3.out.nil e; have h2 := HLN.out; rw [this.1] at h2; exact ⟨h2.symm, this.2⟩) (by rw [celsV_len, HLN.out]) (HR3.out.below (newB wr _)).news (celsV_one _) (by unfold maxLen; omega) (by omega) (by simp; omega) ?_; intro v2 w2 hown2 hgrow2; have hb2 : Below wr.heap.size wr w2 := ((Below.refl _ wr).alloc (Nat.le_refl _) _).grown hgrow2 (by simp) (fun j e => by cases e; exact Nat.le_refl _); have HO2 := Lib.hid hown2; have HB3 := Lib.hid hb2; clear hown2 hgrow2 hb2)
      go_ret3
      refine ⟨keepB HB3.out HB2.out, .inl ⟨?_, v2, _, rfl, ?_, ?_⟩⟩
      · rw [HE.out, HRB2.out]; rfl
      · have := HO2.out
        unfold Own
        rw [HLN.out]
        simpa using this
      · rw [HMM.out]; exact own_below HS3.out HB3.out

end Go.Proofs.Ytmfkipefnacjdaa
