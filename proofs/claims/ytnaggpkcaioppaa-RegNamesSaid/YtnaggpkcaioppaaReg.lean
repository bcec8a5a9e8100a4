/- Contracts of package reg's small functions: small, two, joined. -/
import Derived.Test.YtnaggpkcaioppaaWords
import Derived.Test.YtnaggpkcaioppaaPlainReg
import Derived.Laws.BitsLemmas
import Derived.Laws.AppendOwn
namespace Go.Proofs.Ytnaggpkcaioppaa
open Go.RowKit

theorem IntsAt.below {w w' : World} {a : Option Addr} {n : Nat} {bs : Nat → Int} (h : IntsAt w a n bs) (hb : Below w.heap.size w w') : IntsAt w' a n bs := by
  rcases h with h | ⟨b, off, rfl, hlt, hc⟩
  · exact .inl h
  · exact .inr ⟨b, off, rfl, by have := hb.size; omega, fun i hi => (hb.cell (p := ⟨b, off + i, none⟩) hlt).trans (hc i hi)⟩
theorem WordsAt.below {w w' : World} {a : Option Addr} {n : Nat} {g : Nat → Nat} (h : WordsAt w a n g) (hb : Below w.heap.size w w') : WordsAt w' a n g := by
  rcases h with h | ⟨b, off, rfl, hc⟩
  · exact .inl h
  · exact .inr ⟨b, off, rfl, fun i hi => keepC hb (hc i hi)⟩

/-- The widths of the other words' fields. -/
def twoB (i : Nat) : Int := [32, 32].getD i 0

theorem small_any (w : World) : Calls Try.prog 16 #[] w fun e w' => e = .returned (.slice (some ⟨w.heap.size, 0, none⟩) 9 9) ∧ IntsAt w' (some ⟨w.heap.size, 0, none⟩) 9 smallB ∧ Below w.heap.size w w' := by
  go_enter Try.func16, Try.ntmps16
  go_wp2_with fail
  go_ret
  refine ⟨rfl, .inr ⟨w.heap.size, 0, rfl, by simp, fun i hi => ?_⟩, by (repeat (first | exact Below.refl _ _ | assumption | apply Below.drew | apply below_drewN | (refine Below.alloc ?_ (by simp <;> omega) _) | (refine Below.setCell ?_ (by simp <;> omega) _)))⟩
  match i, hi with
  | 0, _ => simp [go_sem, smallB]
  | 1, _ => simp [go_sem, smallB]
  | 2, _ => simp [go_sem, smallB]
  | 3, _ => simp [go_sem, smallB]
  | 4, _ => simp [go_sem, smallB]
  | 5, _ => simp [go_sem, smallB]
  | 6, _ => simp [go_sem, smallB]
  | 7, _ => simp [go_sem, smallB]
  | 8, _ => simp [go_sem, smallB]

theorem regtwo_any (w : World) : Calls Try.prog 17 #[] w fun e w' => e = .returned (.slice (some ⟨w.heap.size, 0, none⟩) 2 2) ∧ IntsAt w' (some ⟨w.heap.size, 0, none⟩) 2 twoB ∧ Below w.heap.size w w' := by
  go_enter Try.func17, Try.ntmps17
  go_wp2_with fail
  go_ret
  refine ⟨rfl, .inr ⟨w.heap.size, 0, rfl, by simp, fun i hi => ?_⟩, by (repeat (first | exact Below.refl _ _ | assumption | apply Below.drew | apply below_drewN | (refine Below.alloc ?_ (by simp <;> omega) _) | (refine Below.setCell ?_ (by simp <;> omega) _)))⟩
  match i, hi with
  | 0, _ => simp [go_sem, twoB]
  | 1, _ => simp [go_sem, twoB]

def fieldsL (bs : Nat → Int) (vs : Nat → Nat) : Nat → List Value
  | 0 => []
  | k + 1 => fieldsL bs vs k ++ [.int .i64 (bs k), .int .u64 (vs k)]
theorem fieldsL_len (bs : Nat → Int) (vs : Nat → Nat) (n : Nat) : (fieldsL bs vs n).length = n * 2 := by
  induction n with
  | zero => rfl
  | succ n ih => simp [fieldsL, ih]; omega
theorem fieldsL_at (bs : Nat → Int) (vs : Nat → Nat) (n i : Nat) (hi : i < n) : (fieldsL bs vs n)[i * 2]? = some (.int .i64 (bs i)) ∧ (fieldsL bs vs n)[i * 2 + 1]? = some (.int .u64 (vs i)) := by
  induction n with
  | zero => omega
  | succ n ih =>
    have hl := fieldsL_len bs vs n
    by_cases h : i < n
    · simp only [fieldsL]
      rw [List.getElem?_append_left (by omega), List.getElem?_append_left (by omega)]
      exact ih h
    · obtain rfl : i = n := by omega
      simp only [fieldsL]
      rw [List.getElem?_append_right (by omega), List.getElem?_append_right (by omega), hl]
      simp
theorem fields_own {w : World} {b : Nat} {e : TypeId} {v : Value} {bs : Nat → Int} {vs : Nat → Nat} {n : Nat} (h : w.ownsRow b e 2 v n (fieldsL bs vs n)) : ∃ a cap, v = .slice a n cap ∧ FieldsAt w a n bs vs := by
  rcases h.2 with ⟨rfl, h0⟩ | ⟨g, cap, cur, rfl, _, hh, _⟩
  · exact ⟨none, 0, by rw [h0], .inl h0⟩
  · refine ⟨_, cap, rfl, .inr ⟨g, 0, rfl, (Array.getElem?_eq_some_iff.1 hh).1, fun i hi => ⟨?_, ?_⟩⟩⟩
    · rw [Nat.zero_add, h.cellAt (i * 2) (by omega)]
      exact (fieldsL_at bs vs n i hi).1
    · rw [Nat.zero_add, h.cellAt (i * 2 + 1) (by omega)]
      exact (fieldsL_at bs vs n i hi).2

theorem infoField : (Try.prog.info? 55).map (fun i => (i.zero, i.size, i.bytes)) = some (some (.agg #[.int .i64 0, .int .u64 0]), 2, 16) := by kernel_rfl
theorem new2 (W : World) (u v : Value) (t : TypeId) : (W.alloc (.cells #[u, v] t)).cell? ⟨W.heap.size, 0, none⟩ = some u ∧ (W.alloc (.cells #[u, v] t)).cell? ⟨W.heap.size, 1, none⟩ = some v := by simp [go_sem]

set_option maxHeartbeats 800000 in
theorem joined_any (a a' : Option Addr) (nb n c c' : Nat) (bs : Nat → Int) (vs : Nat → Nat) (w : World) (hI : IntsAt w a nb bs) (hW : WordsAt w a' n vs) (hn : n ≤ nb) (hnb : n ≤ 100)
    (hlo : ∀ i, i < n → -9223372036854775808 ≤ bs i) (hhi : ∀ i, i < n → bs i ≤ 9223372036854775807) (hv : ∀ i, i < n → vs i < 18446744073709551616) (hlt : ∀ b off, a' = some ⟨b, off, none⟩ → b < w.heap.size) :
    Calls Try.prog 15 #[.slice a nb c, .slice a' n c'] w fun e w' => e = .returned (.tuple #[.int .u64 (joinV bs vs n), .int .i64 (joinE bs vs n)]) ∧ Below w.heap.size w w' := by
  obtain ⟨k0, hk0, hq0, hq1, hq2⟩ := info_parts infoField
  go_enter Try.func15, Try.ntmps15
  go_wp2_with fail
  go_loopw [6, 7, 8, 11] (fun v _ _ i wr => ∃ k : Nat, k ≤ n ∧ i = .int .i64 k ∧ wr.ownsRow w.heap.size 55 2 v k (fieldsL bs vs k) ∧ Below w.heap.size w wr) (fun _ _ _ i _ => n - (intOf i).toNat)
  case atStart => exact ⟨0, Nat.zero_le _, rfl, World.ownsRow_nil _ _ _ _, Below.refl _ _⟩
  case round =>
    obtain ⟨k, hk, rfl, hown, hbel⟩ := hrel
    by_cases hlk : k < n
    · obtain ⟨b, off, rfl, hb, hc⟩ : ∃ b off, a = some ⟨b, off, none⟩ ∧ b < w.heap.size ∧ ∀ i, i < nb → w.cell? ⟨b, off + i, none⟩ = some (.int .i64 (bs i)) := by
        rcases hI with h | h
        · omega
        · exact h
      obtain ⟨b', off', rfl, hc'⟩ : ∃ b off, a' = some ⟨b, off, none⟩ ∧ ∀ i, i < n → w.cell? ⟨b, off + i, none⟩ = some (.int .u64 (vs i)) := by
        rcases hW with h | h
        · omega
        · exact h
      have d0 := (hbel.cell (p := ⟨b, off + k, none⟩) hb).trans (hc k (by omega))
      have d1 := keepC (V := w) (w' := wr) hbel (hc' k hlk)
      have HW := Lib.hid hown
      have HF : fieldsL bs vs (k + 1) = fieldsL bs vs k ++ [.int .i64 (bs k), .int .u64 (vs k)] := rfl
      have HF' := Lib.hid HF
      have hknb : (k : Int) < (nb : Int) := by omega
      clear hI hW hc hc' hown HF hlo hhi hv hlt
      go_wp2_with (first
        | (at_builtin; refine wpList_append_own _ rfl _ _ 53 rfl w.heap.size 55 k0 (.agg #[.int .i64 0, .int .u64 0]) 2 16 Try.underlying53 hk0 hq0 hq1 hq2 rfl (by decide) _ _ _ rfl (HW.out.alloc _) ⟨wr.heap.size, 0, none⟩ 1 1 [.int .i64 (bs k), .int .u64 (vs k)] rfl rfl (by intro j u hu; match j with | 0 => (simp at hu; subst hu; exact (new2 wr _ _ _).1) | 1 => (simp at hu; subst hu; exact (new2 wr _ _ _).2) | j + 2 => simp at hu) (by simp [Value.oneCell']) (by unfold maxLen; omega) (by omega) (by have := hbel.size; simp; omega) ?_; intro v' w2 hown1 hgrow1 _; have hb2 : Below w.heap.size w w2 := (hbel.alloc hbel.size _).grown hgrow1 (by have := hbel.size; simp; omega) (fun j e => (HW.out.lt j e).1); have HW1 := Lib.hid hown1; clear hown1 hgrow1))
      go_roundw
      case rel => exact ⟨k + 1, by omega, by go_num, by rw [HF'.out]; exact HW1.out, hb2⟩
      case measure => simp [intOf]; omega
    · obtain rfl : k = n := by omega
      obtain ⟨q, cq, rfl, hF⟩ := fields_own hown
      have HF := Lib.hid hF
      clear hown hF hI hW hlt
      go_wp2_with fail
      refine (Join_any q k cq bs vs _ (by omega) hlo hhi hv HF.out).mono ?_
      rintro e w4 ⟨rfl, hb4⟩
      go_wp2_with fail
      go_ret2
      exact ⟨rfl, keepB hb4 hbel⟩

end Go.Proofs.Ytnaggpkcaioppaa
