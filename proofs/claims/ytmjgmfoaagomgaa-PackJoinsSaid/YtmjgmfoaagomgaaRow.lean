/- Rows that are owned: two apart, one kept; lists that came in. -/
import Derived.Test.YtmjgmfoaagomgaaAlive01
import Derived.Test.YtmjgmfoaagomgaaFrame
namespace Go.Proofs.Ytmjgmfoaagomgaa
open Go.RowKit

theorem own_apart {A : World} {b b' : Nat} {e e' : TypeId} {s s' : Nat} {v v' : Value} {n n' : Nat} {xs xs' : List Value} (h : A.ownsRow b e s v n xs) (h' : A.ownsRow b' e' s' v' n' xs') (hne : e ≠ e') : v.ownBlock = none ∨ v.ownBlock ≠ v'.ownBlock := by
  rcases h.2 with ⟨rfl, _⟩ | ⟨g, cap, cur, rfl, _, hg, _⟩
  · exact .inl rfl
  · rcases h'.2 with ⟨rfl, _⟩ | ⟨g', cap', cur', rfl, _, hg', _⟩
    · exact .inr (by simp [Value.ownBlock])
    · refine .inr fun e1 => ?_
      simp only [Value.ownBlock, Option.some.injEq] at e1
      rw [e1, hg'] at hg
      cases hg
      exact hne rfl

theorem own_below {A B : World} {b : Nat} {e : TypeId} {s : Nat} {v : Value} {n : Nat} {xs : List Value} (h : A.ownsRow b e s v n xs) (hb : Below A.heap.size A B) : B.ownsRow b e s v n xs := by
  refine ⟨h.1, ?_⟩
  rcases h.2 with h2 | ⟨g, cap, cur, hv, hg, hh, r⟩
  · exact .inl h2
  · exact .inr ⟨g, cap, cur, hv, hg, by rw [hb.block g (Array.getElem?_eq_some_iff.1 hh).1]; exact hh, r⟩

/-- The cells of a list of ints. -/
def i64s (xs : List Int) : List Value := xs.map fun n => Value.int .i64 n
theorem i64s_snoc (xs : List Int) (x : Int) : i64s (xs ++ [x]) = i64s xs ++ [.int .i64 x] := by simp [i64s]
def bitsN (bs : Nat → Int) (k : Nat) : List Int := (List.range k).map bs
theorem bitsN_succ (bs : Nat → Int) (k : Nat) : bitsN bs (k + 1) = bitsN bs k ++ [bs k] := by simp [bitsN, List.range_succ]
theorem bitsN_len (bs : Nat → Int) (k : Nat) : (bitsN bs k).length = k := by simp [bitsN]
def wordsN (vs : Nat → Nat) (k : Nat) : List Nat := (List.range k).map vs
theorem wordsN_succ (vs : Nat → Nat) (k : Nat) : wordsN vs (k + 1) = wordsN vs k ++ [vs k] := by simp [wordsN, List.range_succ]
theorem wordsN_len (vs : Nat → Nat) (k : Nat) : (wordsN vs k).length = k := by simp [wordsN]
theorem wordsN_at (vs : Nat → Nat) (k i : Nat) (hi : i < k) : (wordsN vs k).getD i 0 = vs i := by simp [wordsN, List.getD_eq_getElem?_getD, hi]

theorem ints_own {w : World} {b : Nat} {e : TypeId} {v : Value} {bs : Nat → Int} {n : Nat} (h : w.ownsRow b e 1 v n (i64s (bitsN bs n))) : ∃ a cap, v = .slice a n cap ∧ IntsAt w a n bs := by
  rcases h.2 with ⟨rfl, h0⟩ | ⟨g, cap, cur, rfl, _, hh, _⟩
  · exact ⟨none, 0, by rw [h0], .inl h0⟩
  · refine ⟨_, cap, rfl, .inr ⟨g, 0, rfl, (Array.getElem?_eq_some_iff.1 hh).1, fun i hi => ?_⟩⟩
    have := h.cellAt i (by omega)
    rw [Nat.zero_add, this]
    simp [i64s, bitsN, hi]

theorem words_row {w : World} {b : Nat} {v : Value} {vs : Nat → Nat} {n : Nat} (h : w.ownsRow b 22 1 v n (u64s (wordsN vs n))) : ∃ a cap, v = .slice a n cap ∧ WordsAt w a n vs := by
  rcases h.2 with ⟨rfl, h0⟩ | ⟨g, cap, cur, rfl, _, hh, _⟩
  · exact ⟨none, 0, by rw [h0], .inl h0⟩
  · refine ⟨_, cap, rfl, .inr ⟨g, 0, rfl, fun i hi => ?_⟩⟩
    have := h.cellAt i (by omega)
    rw [Nat.zero_add, this]
    simp [u64s, wordsN, hi]

/-- Fields that came in. -/
theorem fields_slc {w : World} {a : Option Addr} {n c : Nat} (h : Fra.Slc w [.i64, .u64] a n c) : ∃ (bs : Nat → Int) (vs : Nat → Nat), FieldsAt w a n bs vs ∧ n ≤ 9223372036854775807 ∧ ∀ i, i < n → -9223372036854775808 ≤ bs i ∧ bs i ≤ 9223372036854775807 ∧ vs i < 18446744073709551616 := by
  rcases h with ⟨rfl, rfl, rfl⟩ | ⟨b, off, f, rfl, hb, hl, hm, ht⟩
  · exact ⟨fun _ => 0, fun _ => 0, .inl rfl, by omega, fun i hi => by omega⟩
  · refine ⟨fun i => f i 0, fun i => (f i 1).toNat, .inr ⟨b, off, rfl, hb, fun i hi => ?_⟩, by unfold maxLen at hm; omega, fun i hi => ?_⟩
    · have h0 := (ht i 0 .i64 hi rfl).1
      have h1 := ht i 1 .u64 hi rfl
      refine ⟨h0, ?_⟩
      rw [show off + i * 2 + 1 = off + i * [IntKind.i64, IntKind.u64].length + 1 from rfl, h1.1]
      have := h1.2.1
      simp [IntKind.min, IntKind.signed] at this
      rw [Int.toNat_of_nonneg this]
    · have h0 := (ht i 0 .i64 hi rfl).2
      have h1 := (ht i 1 .u64 hi rfl).2
      simp [IntKind.min, IntKind.max, IntKind.signed, IntKind.bits] at h0 h1
      show _ ≤ f i 0 ∧ f i 0 ≤ _ ∧ (f i 1).toNat < _
      omega

theorem ints_slc {w : World} {a : Option Addr} {n c : Nat} (h : Fra.Slc w [.i64] a n c) : ∃ (bs : Nat → Int), IntsAt w a n bs ∧ n ≤ 9223372036854775807 ∧ ∀ i, i < n → -9223372036854775808 ≤ bs i ∧ bs i ≤ 9223372036854775807 := by
  rcases h with ⟨rfl, rfl, rfl⟩ | ⟨b, off, f, rfl, hb, hl, hm, ht⟩
  · exact ⟨fun _ => 0, .inl rfl, by omega, fun i hi => by omega⟩
  · refine ⟨fun i => f i 0, .inr ⟨b, off, rfl, hb, fun i hi => ?_⟩, by unfold maxLen at hm; omega, fun i hi => ?_⟩
    · have h0 := (ht i 0 .i64 hi rfl).1
      simpa using h0
    · have h0 := (ht i 0 .i64 hi rfl).2
      simp [IntKind.min, IntKind.max, IntKind.signed, IntKind.bits] at h0
      show _ ≤ f i 0 ∧ f i 0 ≤ _
      omega

theorem FieldsAt.below {w w' : World} {a : Option Addr} {n : Nat} {bs : Nat → Int} {vs : Nat → Nat} (h : FieldsAt w a n bs vs) (hb : Below w.heap.size w w') : FieldsAt w' a n bs vs := by
  rcases h with h | ⟨b, off, rfl, hlt, hc⟩
  · exact .inl h
  · exact .inr ⟨b, off, rfl, by have := hb.size; omega, fun i hi => ⟨(hb.cell (p := ⟨b, off + i * 2, none⟩) hlt).trans (hc i hi).1, (hb.cell (p := ⟨b, off + i * 2 + 1, none⟩) hlt).trans (hc i hi).2⟩⟩

theorem IntsAt.below {w w' : World} {a : Option Addr} {n : Nat} {bs : Nat → Int} (h : IntsAt w a n bs) (hb : Below w.heap.size w w') : IntsAt w' a n bs := by
  rcases h with h | ⟨b, off, rfl, hlt, hc⟩
  · exact .inl h
  · exact .inr ⟨b, off, rfl, by have := hb.size; omega, fun i hi => (hb.cell (p := ⟨b, off + i, none⟩) hlt).trans (hc i hi)⟩

theorem infoInt : (Try.prog.info? 3).map (fun i => (i.zero, i.size, i.bytes)) = some (some (.int .i64 0), 1, 8) := by kernel_rfl

end Go.Proofs.Ytmjgmfoaagomgaa
