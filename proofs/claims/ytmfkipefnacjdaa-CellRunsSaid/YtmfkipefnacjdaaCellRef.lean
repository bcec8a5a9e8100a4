/- Contracts of the reference of cells: Same, SameCells, SameSeen, May, Becomes. -/
import Derived.Test.YtmfkipefnacjdaaCellRun
namespace Go.Proofs.Ytmfkipefnacjdaa
open Go.RowKit

theorem Rd.get {W : World} {b off c : Nat} {l : List Cel} (h : Rd W (some ⟨b, off, none⟩) c l) {k : Nat} {y : Cel} (hy : l[k]? = some y) :
    W.cell? ⟨b, off + k * 4, none⟩ = some (.int .u64 y.t) ∧ W.cell? ⟨b, off + k * 4 + 1, none⟩ = some (.int .u64 y.a) ∧ W.cell? ⟨b, off + k * 4 + 2, none⟩ = some (.int .u64 y.b) ∧ W.cell? ⟨b, off + k * 4 + 3, none⟩ = some (.int .u64 y.c) := by
  rcases h.at' with h | ⟨b', off', e, _, hc⟩
  · cases h
  · cases e
    obtain ⟨h0, h1, h2, h3⟩ := celsV_at l k y hy
    refine ⟨hc _ _ h0, ?_, ?_, ?_⟩
    · have := hc _ _ h1; rwa [← Nat.add_assoc] at this
    · have := hc _ _ h2; rwa [← Nat.add_assoc] at this
    · have := hc _ _ h3; rwa [← Nat.add_assoc] at this
theorem Rd.addr {W : World} {a : Option Addr} {c : Nat} {l : List Cel} (h : Rd W a c l) {k : Nat} (hk : k < l.length) : ∃ b off, a = some ⟨b, off, none⟩ := by
  rcases h.at' with h0 | ⟨b, off, e, _⟩
  · have := (h.nil h0).1; subst this; simp at hk
  · exact ⟨b, off, e⟩
theorem Rd.grown {W W' : World} {a : Option Addr} {c : Nat} {l : List Cel} {row : Option Nat} (h : Rd W a c l) (hg : W.grownBy W' row) (hr : ∀ b off, a = some ⟨b, off, none⟩ → row ≠ some b) : Rd W' a c l := by
  refine ⟨h.nil, ?_⟩
  rcases h.at' with h | ⟨b, off, e, hlt, hc⟩
  · exact .inl h
  · refine .inr ⟨b, off, e, hlt.elim .inl (fun h => .inr (by have := hg.size; omega)), fun j u hu => ?_⟩
    exact hg.cell (hc j u hu) (fun e1 => hr b off e e1.symm)

theorem nat_beq (a b : Nat) : ((a : Int) == (b : Int)) = decide (a = b) := by
  by_cases h : a = b
  · simp [h]
  · rw [decide_eq_false h]; exact beq_eq_false_iff_ne.2 (by omega)

set_option maxRecDepth 100000 in
theorem Same_any (x y : Cel) (w : World) : Calls Try.prog 12 #[.agg #[.int .u64 x.t, .int .u64 x.a, .int .u64 x.b, .int .u64 x.c], .agg #[.int .u64 y.t, .int .u64 y.a, .int .u64 y.b, .int .u64 y.c]] w fun e w' => e = .returned (.bool (sameB x y)) ∧ Below w.heap.size w w' := by
  have HS := Lib.hid (show sameB x y = (decide (x.t = y.t) && decide (x.a = y.a) && decide (x.b = y.b) && decide (x.c = y.c)) from rfl)
  by_cases h0 : x.t = y.t
  · by_cases h1 : x.a = y.a
    · by_cases h2 : x.b = y.b
      · by_cases h3 : x.c = y.c
        · have HT := Lib.hid (show sameB x y = true by rw [HS.out]; simp [h0, h1, h2, h3])
          rw [h0, h1, h2, h3] at *
          go_enter Try.func12, Try.ntmps12
          go_wp2_with fail
          go_ret
          exact ⟨ret_bool (by rw [HT.out]), by (repeat (first | exact Below.refl _ _ | assumption | apply Below.drew | apply below_drewN | (refine Below.alloc ?_ (by simp <;> omega) _) | (refine Below.setCell ?_ (by simp <;> omega) _)))⟩
        · have e3 : ((x.c : Int) == (y.c : Int)) = false := by rw [nat_beq]; exact decide_eq_false h3
          rw [h0, h1, h2] at *
          go_enter Try.func12, Try.ntmps12
          go_wp2_with fail
          go_ret
          exact ⟨ret_bool (by rw [HS.out]; simp [h3]), by (repeat (first | exact Below.refl _ _ | assumption | apply Below.drew | apply below_drewN | (refine Below.alloc ?_ (by simp <;> omega) _) | (refine Below.setCell ?_ (by simp <;> omega) _)))⟩
      · have e2 : ((x.b : Int) == (y.b : Int)) = false := by rw [nat_beq]; exact decide_eq_false h2
        rw [h0, h1] at *
        go_enter Try.func12, Try.ntmps12
        go_wp2_with fail
        go_ret
        exact ⟨ret_bool (by rw [HS.out]; simp [h2]), by (repeat (first | exact Below.refl _ _ | assumption | apply Below.drew | apply below_drewN | (refine Below.alloc ?_ (by simp <;> omega) _) | (refine Below.setCell ?_ (by simp <;> omega) _)))⟩
    · have e1 : ((x.a : Int) == (y.a : Int)) = false := by rw [nat_beq]; exact decide_eq_false h1
      rw [h0] at *
      go_enter Try.func12, Try.ntmps12
      go_wp2_with fail
      go_ret
      exact ⟨ret_bool (by rw [HS.out]; simp [h1]), by (repeat (first | exact Below.refl _ _ | assumption | apply Below.drew | apply below_drewN | (refine Below.alloc ?_ (by simp <;> omega) _) | (refine Below.setCell ?_ (by simp <;> omega) _)))⟩
  · have e0 : ((x.t : Int) == (y.t : Int)) = false := by rw [nat_beq]; exact decide_eq_false h0
    go_enter Try.func12, Try.ntmps12
    go_wp2_with fail
    go_ret
    exact ⟨ret_bool (by rw [HS.out]; simp [h0]), by (repeat (first | exact Below.refl _ _ | assumption | apply Below.drew | apply below_drewN | (refine Below.alloc ?_ (by simp <;> omega) _) | (refine Below.setCell ?_ (by simp <;> omega) _)))⟩

set_option maxHeartbeats 1600000 in
theorem SameCells_eq (a a' : Option Addr) (c c' : Nat) (l : List Cel) (w : World) (h : Rd w a c l) (h' : Rd w a' c' l) (hn : l.length ≤ 4611686018427387904) : Calls Try.prog 13 #[.slice a l.length c, .slice a' l.length c'] w fun e w' => e = .returned (.bool true) ∧ Below w.heap.size w w' := by
  have HR := Lib.hid h
  have HR' := Lib.hid h'
  clear h h'
  go_enter Try.func13, Try.ntmps13
  go_wp2_with fail
  go_loopw [5] (fun i wr => ∃ k : Nat, k ≤ l.length ∧ i = .int .i64 k ∧ Below w.heap.size w wr) (fun i _ => l.length - (intOf i).toNat)
  case atStart => exact ⟨0, Nat.zero_le _, rfl, Below.refl _ _⟩
  case round =>
    obtain ⟨k, hk, rfl, hb⟩ := hrel
    by_cases hlt : k < l.length
    · obtain ⟨y, hy⟩ : ∃ y, l[k]? = some y := ⟨_, List.getElem?_eq_getElem hlt⟩
      obtain ⟨b, off, rfl⟩ := HR.out.addr hlt
      obtain ⟨b', off', rfl⟩ := HR'.out.addr hlt
      obtain ⟨c0, c1, c2, c3⟩ := (HR.out.below hb).get hy
      obtain ⟨d0, d1, d2, d3⟩ := (HR'.out.below hb).get hy
      have HB := Lib.hid hb
      have i1 : (0 : Int) ≤ (k : Int) := by omega
      have i2 : (k : Int) < (l.length : Int) := by omega
      clear hb hy
      go_wp2_with fail
      go_region_held3 (fun U => Below w.heap.size w U ∧ U.cell? ⟨b, off + k * 4, none⟩ = some (.int .u64 y.t) ∧ U.cell? ⟨b, off + k * 4 + 1, none⟩ = some (.int .u64 y.a) ∧ U.cell? ⟨b, off + k * 4 + 2, none⟩ = some (.int .u64 y.b) ∧ U.cell? ⟨b, off + k * 4 + 3, none⟩ = some (.int .u64 y.c) ∧ U.cell? ⟨b', off' + k * 4, none⟩ = some (.int .u64 y.t) ∧ U.cell? ⟨b', off' + k * 4 + 1, none⟩ = some (.int .u64 y.a) ∧ U.cell? ⟨b', off' + k * 4 + 2, none⟩ = some (.int .u64 y.b) ∧ U.cell? ⟨b', off' + k * 4 + 3, none⟩ = some (.int .u64 y.c))
        (first
          | (try go_split_ands
             repeat' apply And.intro
             all_goals first
               | assumption
               | exact HB.out
               | exact Below.drew HB.out
               | (rw [World.cell?_drew]; assumption)
               | exact keepC hb (by first | assumption | (rw [World.cell?_drew]; assumption))
               | exact keepB hb (by first | assumption | exact Below.drew (by assumption))))
        (first
          | (go_at_call 12; refine (Same_any y y _).mono ?_; rintro e w' ⟨rfl, hb⟩; rw [sameB_self]))
      all_goals go_split_ands
      all_goals go_wp2_with fail
      all_goals go_roundw
      case rel => exact ⟨k + 1, by omega, by go_num, by assumption⟩
      case measure => simp [intOf]; omega
    · have HB := Lib.hid hb
      clear hb
      have i2 : (l.length : Int) ≤ (k : Int) := by omega
      go_wp2_with fail
      go_ret
      exact ⟨rfl, HB.out⟩

theorem rMay_any (n : Nat) (x : Acc) (w : World) : Calls Try.prog 24 #[.int .i64 n, .agg #[.int .u8 x.k, .int .i64 x.at', .int .u64 x.old.t, .int .u64 x.old.a, .int .u64 x.old.b, .int .u64 x.old.c, .int .u64 x.new.t, .int .u64 x.new.a, .int .u64 x.new.b, .int .u64 x.new.c]] w fun e w' => e = .returned (.bool (mayA n x.k x.at')) ∧ Below w.heap.size w w' := by
  have HM := Lib.hid (show mayA n x.k x.at' = (decide (1 ≤ x.k) && decide (x.k ≤ 4) && decide (0 ≤ x.at') && decide (x.at' < n)) from rfl)
  go_enter Try.func24, Try.ntmps24
  go_wp2_with fail
  all_goals go_ret
  all_goals (refine ⟨ret_bool ?_, by (repeat (first | exact Below.refl _ _ | assumption | apply Below.drew | apply below_drewN | (refine Below.alloc ?_ (by simp <;> omega) _) | (refine Below.setCell ?_ (by simp <;> omega) _)))⟩; rw [HM.out]; clear HM)
  all_goals (rw [Bool.eq_iff_iff]; simp only [Bool.and_eq_true, decide_eq_true_eq, Bool.false_eq_true, false_iff]; omega)

end Go.Proofs.Ytmfkipefnacjdaa
