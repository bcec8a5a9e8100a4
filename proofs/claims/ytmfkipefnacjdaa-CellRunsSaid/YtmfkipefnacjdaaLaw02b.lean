/- The walk of CellSums. -/
import Derived.Test.YtmfkipefnacjdaaAlive02
import Derived.Test.YtmfkipefnacjdaaLaw02
import Derived.Test.YtmfkipefnacjdaaPlainSums
namespace Go.Proofs.Ytmfkipefnacjdaa
open Go.RowKit

/-- Numbers that are read. -/
def RdI (W : World) (k : IntKind) (a : Option Addr) (n : Nat) (f : Nat → Int) : Prop := n = 0 ∨ ∃ b off, a = some ⟨b, off, none⟩ ∧ b < W.heap.size ∧ ∀ i, i < n → W.cell? ⟨b, off + i, none⟩ = some (.int k (f i))
theorem RdI.below {W W' : World} {k : IntKind} {a : Option Addr} {n : Nat} {f : Nat → Int} (h : RdI W k a n f) (hb : Below W.heap.size W W') : RdI W' k a n f := by
  rcases h with h | ⟨b, off, e, hlt, hc⟩
  · exact .inl h
  · exact .inr ⟨b, off, e, by have := hb.size; omega, fun i hi => keepC hb (hc i hi)⟩
theorem RdI.addr {W : World} {k : IntKind} {a : Option Addr} {n : Nat} {f : Nat → Int} (h : RdI W k a n f) (hn : 0 < n) : ∃ b off, a = some ⟨b, off, none⟩ := by
  rcases h with h | ⟨b, off, e, _⟩
  · omega
  · exact ⟨b, off, e⟩
theorem RdI.get {W : World} {k : IntKind} {b off n : Nat} {f : Nat → Int} (h : RdI W k (some ⟨b, off, none⟩) n f) {i : Nat} (hi : i < n) : W.cell? ⟨b, off + i, none⟩ = some (.int k (f i)) := by
  rcases h with h | ⟨b', off', e, _, hc⟩
  · omega
  · cases e; exact hc i hi
theorem slc_ints {w : World} {k : IntKind} {a : Option Addr} {n c : Nat} (h : Fra.Slc w [k] a n c) : ∃ f, RdI w k a n f ∧ ∀ i, i < n → k.min ≤ f i ∧ f i ≤ k.max := by
  rcases h with ⟨rfl, rfl, rfl⟩ | ⟨b, off, f, rfl, hb, hl, hm, ht⟩
  · exact ⟨fun _ => 0, .inl rfl, fun i hi => by omega⟩
  · refine ⟨fun i => f i 0, .inr ⟨b, off, rfl, hb, fun i hi => ?_⟩, fun i hi => (ht i 0 k hi rfl).2⟩
    have := (ht i 0 k hi rfl).1
    simpa using this

theorem infoAcc : (Try.prog.info? 36).map (fun i => (i.zero, i.size, i.bytes)) = some (some (.agg #[.int .u8 0, .int .i64 0, .int .u64 0, .int .u64 0, .int .u64 0, .int .u64 0, .int .u64 0, .int .u64 0, .int .u64 0, .int .u64 0]), 10, 80) := by kernel_rfl
theorem new10 (W : World) (a b c d e f g h i j : Value) (t : TypeId) : ∀ n u, ([a, b, c, d, e, f, g, h, i, j] : List Value)[n]? = some u → (W.alloc (.cells #[a, b, c, d, e, f, g, h, i, j] t)).cell? ((⟨W.heap.size, 0, none⟩ : Addr).add n) = some u := by
  intro n u hu
  have := (Box.new W t [a, b, c, d, e, f, g, h, i, j]).c n hu
  unfold Addr.add
  by_cases hj : n = 0
  · subst hj; simpa using this
  · simpa [hj] using this

/-- Two rows apart. -/
def Apart (u v : Value) : Prop := u.ownBlock = none ∨ u.ownBlock ≠ v.ownBlock
theorem Apart.symm {u v : Value} (h : Apart u v) : v.ownBlock = none ∨ v.ownBlock ≠ u.ownBlock := by
  rcases h with h | h
  · by_cases e : v.ownBlock = none
    · exact .inl e
    · exact .inr (by rw [h]; exact e)
  · exact .inr (fun e => h e.symm)
theorem Apart.new {u u' v : Value} {N : Nat} (h : Apart u v) (hn : u'.ownBlock = u.ownBlock ∨ u'.ownBlock = some N) (hv : ∀ g, v.ownBlock = some g → g < N) : Apart u' v := by
  rcases hn with e | e
  · unfold Apart; rw [e]; exact h
  · refine .inr fun e2 => ?_
    rw [e] at e2
    have := hv N e2.symm
    omega
theorem Apart.new' {u u' v : Value} {N : Nat} (h : Apart u v) (hn : u'.ownBlock = v.ownBlock ∨ u'.ownBlock = some N) (hv : ∀ g, u.ownBlock = some g → g < N) : Apart u u' := by
  rcases hn with e | e
  · unfold Apart; rw [e]; exact h
  · by_cases h0 : u.ownBlock = none
    · exact .inl h0
    · refine .inr fun e2 => ?_
      rw [e] at e2
      have := hv N e2
      omega

theorem sums_short (a0 a1 a2 : Option Addr) (l0 c0 l1 c1 l2 c2 : Nat) (w : World) (h : 1024 < l0 ∨ (l0 ≤ 1024 ∧ 100 < l1) ∨ (l0 ≤ 1024 ∧ l1 ≤ 100 ∧ l1 ≠ l2)) : Calls Try.prog 8 #[.slice a0 l0 c0, .slice a1 l1 c1, .slice a2 l2 c2] w fun e w' => e = .returned (.bool true) ∧ Below w.heap.size w w' := by
  rcases h with h | ⟨h, h'⟩ | ⟨h, h', h''⟩
  · go_enter Try.func8, Try.ntmps8
    go_wp2_with fail
    refine (alive_any _).mono ?_
    rintro e w1 ⟨rfl, hb⟩
    have HB := Lib.hid hb
    clear hb
    go_wp2_with fail
    go_ret
    exact ⟨rfl, HB.out⟩
  · go_enter Try.func8, Try.ntmps8
    go_wp2_with fail
    refine (alive_any _).mono ?_
    rintro e w1 ⟨rfl, hb⟩
    have HB := Lib.hid hb
    clear hb
    go_wp2_with fail
    go_ret
    exact ⟨rfl, HB.out⟩
  · have e1 : ((l1 : Int) != (l2 : Int)) = true := by rw [bne_iff_ne]; omega
    clear h''
    go_enter Try.func8, Try.ntmps8
    go_wp2_with fail
    refine (alive_any _).mono ?_
    rintro e w1 ⟨rfl, hb⟩
    have HB := Lib.hid hb
    clear hb
    go_wp2_with fail
    go_ret
    exact ⟨rfl, HB.out⟩

set_option maxHeartbeats 3200000 in
theorem sums_go (a0 a1 a2 : Option Addr) (l0 c0 n c1 c2 : Nat) (l : List Cel) (is : Nat → Int) (ms : Nat → Nat) (w : World) (hl : l.length = l0) (hR : Rd w a0 c0 l) (hI : RdI w .i64 a1 n is) (hM : RdI w .u64 a2 n (fun i => (ms i : Int))) (h0 : l0 ≤ 1024) (hn : n ≤ 100) : Calls Try.prog 8 #[.slice a0 l0 c0, .slice a1 n c1, .slice a2 n c2] w fun e w' => e = .returned (.bool true) ∧ Below w.heap.size w w' := by
  obtain ⟨k0, hk0, hq0, hq1, hq2⟩ := info_parts infoAcc
  have HR := Lib.hid hR; have HI := Lib.hid hI; have HM := Lib.hid hM; have HL := Lib.hid hl
  clear hR hI hM hl
  go_enter Try.func8, Try.ntmps8
  go_wp2_with fail
  refine (alive_any _).mono ?_
  rintro e w1 ⟨rfl, hb⟩
  have HB := Lib.hid hb
  clear hb
  go_wp2_with fail
  go_loopw [8, 9, 10, 11] (fun th bk i _ wr => ∃ k : Nat, k ≤ n ∧ i = .int .i64 k ∧ wr.ownsRow w.heap.size 36 10 th k (accsV (addsL is ms k)) ∧ wr.ownsRow w.heap.size 36 10 bk k (accsV (backL is ms n k)) ∧ Apart th bk ∧ Below w.heap.size w wr) (fun _ _ i _ _ => n - (intOf i).toNat)
  case atStart => exact ⟨0, Nat.zero_le _, rfl, World.ownsRow_nil _ _ _ _, World.ownsRow_nil _ _ _ _, .inl rfl, HB.out⟩
  case round =>
    obtain ⟨k, hk, rfl, hth, hbk, hap, hb⟩ := hrel
    have HT := Lib.hid hth; have HK := Lib.hid hbk; have HA := Lib.hid hap; have HB2 := Lib.hid hb
    clear hth hbk hap hb HB
    by_cases hlt : k < n
    · obtain ⟨b1, o1, rfl⟩ := HI.out.addr (by omega)
      obtain ⟨b2, o2, rfl⟩ := HM.out.addr (by omega)
      obtain ⟨q, hq⟩ : ∃ q, q = n - 1 - k := ⟨_, rfl⟩
      have hqn : q < n := by omega
      have hsub : (n : Int) - 1 - (k : Int) = (q : Int) := by omega
      have i1 : (k : Int) < (n : Int) := by omega
      have i2 : (q : Int) < (n : Int) := by omega
      have i3 : (n : Int) ≤ 100 := by omega
      have i4 : (0 : Int) ≤ (k : Int) := by omega
      have i5 : (0 : Int) ≤ (q : Int) := by omega
      have HQ := Lib.hid hq
      have d1 := (HI.out.below HB2.out).get hlt
      have d2 := (HM.out.below HB2.out).get hlt
      clear hq
      go_wp2_with fail
      have lb1 : b1 < w.heap.size := by
        rcases HI.out with h | ⟨b, off, e, hb, _⟩
        · omega
        · cases e; exact hb
      have lb2 : b2 < w.heap.size := by
        rcases HM.out with h | ⟨b, off, e, hb, _⟩
        · omega
        · cases e; exact hb
      have sz := HB2.out.size
      have ne1 : u8.ownBlock ≠ some b1 := fun e => by have := (World.ownsRow.lt HT.out b1 e).1; omega
      have ne2 : u8.ownBlock ≠ some b2 := fun e => by have := (World.ownsRow.lt HT.out b2 e).1; omega
      go_region_held3 (fun U => U.cell? ⟨b1, o1 + k, none⟩ = some (.int .i64 (is k)) ∧ U.cell? ⟨b2, o2 + k, none⟩ = some (.int .u64 (ms k)))
        (first
          | go_keep
          | (go_split_ands
             refine ⟨?_, ?_⟩
             · (rw [hgrow.cell_far _ (by simp; omega) (Ne.symm ne1)]; assumption)
             · (rw [hgrow.cell_far _ (by simp; omega) (Ne.symm ne2)]; assumption)))
        ((refine step_append_lies _ (by rfl) _ _ _ (by rfl) w.heap.size 36 k0 (.agg #[.int .u8 0, .int .i64 0, .int .u64 0, .int .u64 0, .int .u64 0, .int .u64 0, .int .u64 0, .int .u64 0, .int .u64 0, .int .u64 0]) 10 80 Try.underlying23 hk0 hq0 hq1 hq2 rfl (by omega) u8 k (accsV (addsL is ms k)) (by rfl) ((World.ownsRow.alloc HT.out _).drew) ⟨wr.heap.size, 0, none⟩ 1 1 [.int .u8 4, .int .i64 (is k), .int .u64 0, .int .u64 0, .int .u64 0, .int .u64 0, .int .u64 0, .int .u64 (ms k), .int .u64 0, .int .u64 0] (by rfl) (by rfl) (World.news_of_block (cs := #[.int .u8 4, .int .i64 (is k), .int .u64 0, .int .u64 0, .int .u64 0, .int .u64 0, .int .u64 0, .int .u64 (ms k), .int .u64 0, .int .u64 0]) (t := 36) (fr := (0, 0)) (heap_alloc_new wr _)) (by simp [Value.oneCell']) (by omega) (by unfold maxLen; omega) (by omega) (by simp; omega) (wr.heap.size + 1) (by simp) ?_; intro gg cap w1 hown1 hgrow hat hlt1))
      all_goals go_split_ands
      have HW1 := Lib.hid hown1
      have HGR := Lib.hid hgrow
      have hbk1 := World.ownsRow.kept ((World.ownsRow.alloc HK.out (.cells #[.int .u8 4, .int .i64 (is k), .int .u64 0, .int .u64 0, .int .u64 0, .int .u64 0, .int .u64 0, .int .u64 (ms k), .int .u64 0, .int .u64 0] 36)).drew) hgrow (Apart.symm HA.out)
      have hb1 := ((HB2.out.alloc HB2.out.size (.cells #[.int .u8 4, .int .i64 (is k), .int .u64 0, .int .u64 0, .int .u64 0, .int .u64 0, .int .u64 0, .int .u64 (ms k), .int .u64 0, .int .u64 0] 36)).drew).grown hgrow (by simp; omega) (fun j e => (World.ownsRow.lt HT.out j e).1)
      have hap1 : Apart (.slice (some ⟨gg, 0, none⟩) (k + 1) cap) u9 := Apart.new (N := wr.heap.size + 1) HA.out (hat.elim (fun e => .inl e.symm) (fun e => .inr (by simp [Value.ownBlock, e]))) (fun g e => by have := (World.ownsRow.lt HK.out g e).2; omega)
      have HK1 := Lib.hid hbk1; have HB3 := Lib.hid hb1; have HA1 := Lib.hid hap1
      clear hown1 hgrow hbk1 hb1 hap1 ne1 ne2 hat d1 d2
      rename w1.cell? ⟨b1, o1 + k, none⟩ = _ => z1
      rename w1.cell? ⟨b2, o2 + k, none⟩ = _ => z2
      clear z1 z2
      have d1 := (HI.out.below HB3.out).get hqn
      have d2 := (HM.out.below HB3.out).get hqn
      have ne1 : u9.ownBlock ≠ some b1 := fun e => by have := (World.ownsRow.lt HK1.out b1 e).1; omega
      have ne2 : u9.ownBlock ≠ some b2 := fun e => by have := (World.ownsRow.lt HK1.out b2 e).1; omega
      have sz1 := HB3.out.size
      go_wp2_with fail
      go_region_held3 (fun U => U.cell? ⟨b1, o1 + q, none⟩ = some (.int .i64 (is q)) ∧ U.cell? ⟨b2, o2 + q, none⟩ = some (.int .u64 (ms q)))
        (first
          | go_keep
          | (go_split_ands
             refine ⟨?_, ?_⟩
             · (rw [hgrow.cell_far _ (by simp; omega) (Ne.symm ne1)]; assumption)
             · (rw [hgrow.cell_far _ (by simp; omega) (Ne.symm ne2)]; assumption)))
        ((refine step_append_lies _ (by rfl) _ _ _ (by rfl) w.heap.size 36 k0 (.agg #[.int .u8 0, .int .i64 0, .int .u64 0, .int .u64 0, .int .u64 0, .int .u64 0, .int .u64 0, .int .u64 0, .int .u64 0, .int .u64 0]) 10 80 Try.underlying23 hk0 hq0 hq1 hq2 rfl (by omega) u9 k (accsV (backL is ms n k)) (by rfl) ((World.ownsRow.alloc HK1.out _).drew) ⟨w1.heap.size, 0, none⟩ 1 1 [.int .u8 4, .int .i64 (is q), .int .u64 0, .int .u64 0, .int .u64 0, .int .u64 0, .int .u64 0, .int .u64 (ms q), .int .u64 0, .int .u64 0] (by rfl) (by rfl) (World.news_of_block (cs := #[.int .u8 4, .int .i64 (is q), .int .u64 0, .int .u64 0, .int .u64 0, .int .u64 0, .int .u64 0, .int .u64 (ms q), .int .u64 0, .int .u64 0]) (t := 36) (fr := (0, 0)) (heap_alloc_new w1 _)) (by simp [Value.oneCell']) (by omega) (by unfold maxLen; omega) (by omega) (by simp; omega) (w1.heap.size + 1) (by simp) ?_; intro gg2 cap2 w2 hown2 hgrow hat2 hlt2))
      have hth2 := World.ownsRow.kept ((World.ownsRow.alloc HW1.out (.cells #[.int .u8 4, .int .i64 (is q), .int .u64 0, .int .u64 0, .int .u64 0, .int .u64 0, .int .u64 0, .int .u64 (ms q), .int .u64 0, .int .u64 0] 36)).drew) hgrow HA1.out
      have hb2 := ((HB3.out.alloc HB3.out.size (.cells #[.int .u8 4, .int .i64 (is q), .int .u64 0, .int .u64 0, .int .u64 0, .int .u64 0, .int .u64 0, .int .u64 (ms q), .int .u64 0, .int .u64 0] 36)).drew).grown hgrow (by simp; omega) (fun j e => (World.ownsRow.lt HK1.out j e).1)
      have hap2 : Apart (.slice (some ⟨gg, 0, none⟩) (k + 1) cap) (.slice (some ⟨gg2, 0, none⟩) (k + 1) cap2) := Apart.new' (N := w1.heap.size + 1) HA1.out (hat2.elim (fun e => .inl e.symm) (fun e => .inr (by simp [Value.ownBlock, e]))) (fun g e => by simp [Value.ownBlock] at e; omega)
      have HW2 := Lib.hid hown2; have HT2 := Lib.hid hth2; have HB4 := Lib.hid hb2; have HA2 := Lib.hid hap2
      clear hown2 hgrow hth2 hb2 hap2 ne1 ne2 hat2 d1 d2 hsub
      go_wp2_with fail
      go_roundw
      case rel =>
        refine ⟨k + 1, by omega, by go_num, ?_, ?_, HA2.out, HB4.out⟩
        · rw [adds_succ, accsV_snoc]; exact HT2.out
        · rw [back_succ, accsV_snoc, ← HQ.out]; exact HW2.out
      case measure => simp [intOf]; omega
    · obtain rfl : k = n := by omega
      have hxs := rdx_of_own HT.out (adds_len is ms k)
      have hys := rdx_of_own HK.out (back_len is ms k k)
      obtain ⟨ax, cx, rfl, hX⟩ := hxs
      obtain ⟨ay, cy, rfl, hY⟩ := hys
      have HX := Lib.hid hX; have HY := Lib.hid hY
      have i2 : (k : Int) ≤ (k : Int) := by omega
      clear hX hY HT HK HA
      have HE := Lib.hid (back_eq is ms k)
      cases hrb : runB l (addsL is ms k) with
      | true =>
        have HRB := Lib.hid hrb
        have HRB' := Lib.hid (show runB l (backL is ms k k) = true by rw [HE.out, runB_reverse]; exact hrb)
        have HRL := Lib.hid (show runL l (backL is ms k k) = runL l (addsL is ms k) by rw [HE.out]; exact run_reverse _ _ (adds_all is ms k))
        clear hrb
        go_wp2_with fail
        refine (Run_ok _ _ _ _ l0 k l (addsL is ms k) _ HL.out (adds_len is ms k) (HR.out.below HB2.out) HX.out h0 (by omega) HRB.out).mono ?_
        rintro e w2 ⟨ar, cr, br, dr, rfl, hR2, _, _, hb2⟩
        have HR2 := Lib.hid hR2; have HB3 := Lib.hid hb2
        clear hR2 hb2
        go_wp2_with fail
        refine (Run_ok _ _ _ _ l0 k l (backL is ms k k) _ HL.out (back_len is ms k k) ((HR.out.below HB2.out).below HB3.out) (HY.out.below HB3.out) h0 (by omega) HRB'.out).mono ?_
        rintro e w3 ⟨ar', cr', br', dr', rfl, hR3, _, _, hb3⟩
        rw [HRL.out] at hR3
        have HR3 := Lib.hid hR3; have HB4 := Lib.hid hb3
        clear hR3 hb3
        go_wp2_with fail
        refine (SameCells_len' ar ar' cr cr' l0 (runL l (addsL is ms k)) _ ((runL_len _ _).trans HL.out) (HR2.out.below HB4.out) HR3.out (by omega)).mono ?_
        rintro e w4 ⟨rfl, hb4⟩
        have HB5 := Lib.hid hb4
        clear hb4
        go_wp2_with fail
        go_ret
        exact ⟨rfl, keepB HB5.out (keepB HB4.out (keepB HB3.out HB2.out))⟩
      | false =>
        have HRB := Lib.hid hrb
        have HRB' := Lib.hid (show runB l (backL is ms k k) = false by rw [HE.out, runB_reverse]; exact hrb)
        clear hrb
        go_wp2_with fail
        refine (Run_err _ _ _ _ l0 k l (addsL is ms k) _ HL.out (adds_len is ms k) (HR.out.below HB2.out) HX.out h0 (by omega) HRB.out).mono ?_
        rintro e w2 ⟨rfl, hb2⟩
        have HB3 := Lib.hid hb2
        clear hb2
        go_wp2_with fail
        refine (Run_err _ _ _ _ l0 k l (backL is ms k k) _ HL.out (back_len is ms k k) ((HR.out.below HB2.out).below HB3.out) (HY.out.below HB3.out) h0 (by omega) HRB'.out).mono ?_
        rintro e w3 ⟨rfl, hb3⟩
        have HB4 := Lib.hid hb3
        clear hb3
        go_wp2_with fail
        refine (SameCells_len' none none 0 0 0 [] _ rfl ⟨fun _ => ⟨rfl, rfl⟩, .inl rfl⟩ ⟨fun _ => ⟨rfl, rfl⟩, .inl rfl⟩ (by omega)).mono ?_
        rintro e w4 ⟨rfl, hb4⟩
        have HB5 := Lib.hid hb4
        clear hb4
        go_wp2_with fail
        go_ret
        exact ⟨rfl, keepB HB5.out (keepB HB4.out (keepB HB3.out HB2.out))⟩

theorem walk_CellSums (a0 : Option Addr) (l0 c0 : Nat) (a1 : Option Addr) (l1 c1 : Nat) (a2 : Option Addr) (l2 c2 : Nat) (w : World) (s0 : Fra.Slc w [.u64, .u64, .u64, .u64] a0 l0 c0) (s1 : Fra.Slc w [.i64] a1 l1 c1) (s2 : Fra.Slc w [.u64] a2 l2 c2) :
    Calls Try.prog 8 #[.slice a0 l0 c0, .slice a1 l1 c1, .slice a2 l2 c2] w fun e w' => e = .returned (.bool true) ∧ Below w.heap.size w w' := by
  obtain ⟨l, hl, hR⟩ := slc_cells s0
  obtain ⟨is, hI, _⟩ := slc_ints s1
  obtain ⟨ms, hM, hb⟩ := slc_ints s2
  by_cases h : l0 ≤ 1024
  · by_cases h' : l1 ≤ 100
    · by_cases h'' : l1 = l2
      · subst h''
        refine sums_go a0 a1 a2 l0 c0 l1 c1 c2 l is (fun i => (ms i).toNat) w hl hR hI ?_ h h'
        rcases hM with hM | ⟨b, off, e, hlt, hc⟩
        · exact .inl hM
        · refine .inr ⟨b, off, e, hlt, fun i hi => ?_⟩
          rw [hc i hi]
          have := (hb i hi).1
          simp [IntKind.min, IntKind.signed] at this
          simp only
          rw [Int.toNat_of_nonneg this]
      · exact sums_short a0 a1 a2 l0 c0 l1 c1 l2 c2 w (.inr (.inr ⟨h, h', h''⟩))
    · exact sums_short a0 a1 a2 l0 c0 l1 c1 l2 c2 w (.inr (.inl ⟨h, by omega⟩))
  · exact sums_short a0 a1 a2 l0 c0 l1 c1 l2 c2 w (.inl (by omega))

end Go.Proofs.Ytmfkipefnacjdaa
