/- Contracts of the reference of cells: Same, SameCells. -/
import Derived.Test.YtoamhkgnnjoaaaaDoorCels
namespace Go.Proofs.YtoamhkgnnjoaaaaDoor
open Go.RowKit

set_option maxRecDepth 100000 in
theorem Same_any (x y : Cel) (w : World) : Calls Tryd.prog 44 #[.agg #[.int .u64 x.t, .int .u64 x.a, .int .u64 x.b, .int .u64 x.c], .agg #[.int .u64 y.t, .int .u64 y.a, .int .u64 y.b, .int .u64 y.c]] w fun e w' => e = .returned (.bool (sameB x y)) ∧ Below w.heap.size w w' := by
  have HS := Lib.hid (show sameB x y = (decide (x.t = y.t) && decide (x.a = y.a) && decide (x.b = y.b) && decide (x.c = y.c)) from rfl)
  by_cases h0 : x.t = y.t
  · by_cases h1 : x.a = y.a
    · by_cases h2 : x.b = y.b
      · by_cases h3 : x.c = y.c
        · have HT := Lib.hid (show sameB x y = true by rw [HS.out]; simp [h0, h1, h2, h3])
          rw [h0, h1, h2, h3] at *
          go_enter Tryd.func44, Tryd.ntmps44
          go_wp2_with fail
          go_ret
          exact ⟨ret_bool (by rw [HT.out]), by (repeat (first | exact Below.refl _ _ | assumption | apply Below.drew | apply below_drewN | (refine Below.alloc ?_ (by simp <;> omega) _) | (refine Below.setCell ?_ (by simp <;> omega) _)))⟩
        · have e3 : ((x.c : Int) == (y.c : Int)) = false := by rw [nat_beq]; exact decide_eq_false h3
          rw [h0, h1, h2] at *
          go_enter Tryd.func44, Tryd.ntmps44
          go_wp2_with fail
          go_ret
          exact ⟨ret_bool (by rw [HS.out]; simp [h3]), by (repeat (first | exact Below.refl _ _ | assumption | apply Below.drew | apply below_drewN | (refine Below.alloc ?_ (by simp <;> omega) _) | (refine Below.setCell ?_ (by simp <;> omega) _)))⟩
      · have e2 : ((x.b : Int) == (y.b : Int)) = false := by rw [nat_beq]; exact decide_eq_false h2
        rw [h0, h1] at *
        go_enter Tryd.func44, Tryd.ntmps44
        go_wp2_with fail
        go_ret
        exact ⟨ret_bool (by rw [HS.out]; simp [h2]), by (repeat (first | exact Below.refl _ _ | assumption | apply Below.drew | apply below_drewN | (refine Below.alloc ?_ (by simp <;> omega) _) | (refine Below.setCell ?_ (by simp <;> omega) _)))⟩
    · have e1 : ((x.a : Int) == (y.a : Int)) = false := by rw [nat_beq]; exact decide_eq_false h1
      rw [h0] at *
      go_enter Tryd.func44, Tryd.ntmps44
      go_wp2_with fail
      go_ret
      exact ⟨ret_bool (by rw [HS.out]; simp [h1]), by (repeat (first | exact Below.refl _ _ | assumption | apply Below.drew | apply below_drewN | (refine Below.alloc ?_ (by simp <;> omega) _) | (refine Below.setCell ?_ (by simp <;> omega) _)))⟩
  · have e0 : ((x.t : Int) == (y.t : Int)) = false := by rw [nat_beq]; exact decide_eq_false h0
    go_enter Tryd.func44, Tryd.ntmps44
    go_wp2_with fail
    go_ret
    exact ⟨ret_bool (by rw [HS.out]; simp [h0]), by (repeat (first | exact Below.refl _ _ | assumption | apply Below.drew | apply below_drewN | (refine Below.alloc ?_ (by simp <;> omega) _) | (refine Below.setCell ?_ (by simp <;> omega) _)))⟩

set_option maxHeartbeats 1600000 in
theorem SameCells_eq (a a' : Option Addr) (c c' : Nat) (l : List Cel) (w : World) (h : Rd w a c l) (h' : Rd w a' c' l) (hn : l.length ≤ 4611686018427387904) : Calls Tryd.prog 28 #[.slice a l.length c, .slice a' l.length c'] w fun e w' => e = .returned (.bool true) ∧ Below w.heap.size w w' := by
  have HR := Lib.hid h
  have HR' := Lib.hid h'
  clear h h'
  go_enter Tryd.func28, Tryd.ntmps28
  go_wp2_with fail
  go_loopw [5] (fun i wr => ∃ k : Nat, k ≤ l.length ∧ i = .int .i64 k ∧ Below w.heap.size w wr) (fun i _ => l.length - (intOf i).toNat)
  case atStart => exact ⟨0, Nat.zero_le _, rfl, Below.refl _ _⟩
  case round =>
    obtain ⟨k, hk, rfl, hb⟩ := hrel
    by_cases hlt : k < l.length
    · obtain ⟨y, hy⟩ : ∃ y, l[k]? = some y := ⟨_, List.getElem?_eq_getElem hlt⟩
      obtain ⟨b, off, rfl⟩ := HR.out.addr hlt
      obtain ⟨b', off', rfl⟩ := HR'.out.addr hlt
      obtain ⟨c0, c1, c2, c3⟩ := (HR.out.below hb).get hy
      obtain ⟨d0, d1, d2, d3⟩ := (HR'.out.below hb).get hy
      have HB := Lib.hid hb
      have i1 : (0 : Int) ≤ (k : Int) := by omega
      have i2 : (k : Int) < (l.length : Int) := by omega
      clear hb hy
      go_wp2_with fail
      go_region_held3 (fun U => Below w.heap.size w U ∧ U.cell? ⟨b, off + k * 4, none⟩ = some (.int .u64 y.t) ∧ U.cell? ⟨b, off + k * 4 + 1, none⟩ = some (.int .u64 y.a) ∧ U.cell? ⟨b, off + k * 4 + 2, none⟩ = some (.int .u64 y.b) ∧ U.cell? ⟨b, off + k * 4 + 3, none⟩ = some (.int .u64 y.c) ∧ U.cell? ⟨b', off' + k * 4, none⟩ = some (.int .u64 y.t) ∧ U.cell? ⟨b', off' + k * 4 + 1, none⟩ = some (.int .u64 y.a) ∧ U.cell? ⟨b', off' + k * 4 + 2, none⟩ = some (.int .u64 y.b) ∧ U.cell? ⟨b', off' + k * 4 + 3, none⟩ = some (.int .u64 y.c))
        (first
          | (try go_split_ands
             repeat' apply And.intro
             all_goals first
               | assumption
               | exact HB.out
               | exact Below.drew HB.out
               | (rw [World.cell?_drew]; assumption)
               | exact keepC hb (by first | assumption | (rw [World.cell?_drew]; assumption))
               | exact keepB hb (by first | assumption | exact Below.drew (by assumption))))
        (first
          | (go_at_call 44; refine (Same_any y y _).mono ?_; rintro e w' ⟨rfl, hb⟩; rw [sameB_self]))
      all_goals go_split_ands
      all_goals go_wp2_with fail
      all_goals go_roundw
      case rel => exact ⟨k + 1, by omega, by go_num, by assumption⟩
      case measure => simp [intOf]; omega
    · have HB := Lib.hid hb
      clear hb
      have i2 : (l.length : Int) ≤ (k : Int) := by omega
      go_wp2_with fail
      go_ret
      exact ⟨rfl, HB.out⟩

end Go.Proofs.YtoamhkgnnjoaaaaDoor
