/- Where a list of words or fields lies (for a seat without layer 1's reference). -/
import Derived.Test.YtecjbgddjejjdaaDoorKeep
import Derived.Test.YtecjbgddjejjdaaDoorSplit
namespace Go.Proofs.YtecjbgddjejjdaaDoor
open Go.RowKit

def WordsAt (w : World) (a : Option Addr) (n : Nat) (g : Nat → Nat) : Prop :=
  n = 0 ∨ ∃ b off, a = some ⟨b, off, none⟩ ∧ ∀ i, i < n → w.cell? ⟨b, off + i, none⟩ = some (.int .u64 (g i))

theorem words_own {w : World} {b : Nat} {v : Value} {xs : List Nat} (h : w.ownsRow b 22 1 v xs.length (u64s xs)) : ∃ a cap, v = .slice a xs.length cap ∧ WordsAt w a xs.length (fun i => xs.getD i 0) := by
  rcases h.2 with ⟨rfl, h0⟩ | ⟨g, cap, cur, rfl, _⟩
  · exact ⟨none, 0, by rw [h0], .inl h0⟩
  · refine ⟨_, cap, rfl, .inr ⟨g, 0, rfl, fun i hi => ?_⟩⟩
    have := h.cellAt i (by omega)
    rw [Nat.zero_add, this]
    simp [u64s, hi]

theorem fields2 (w : World) (t : TypeId) (p q : Int) (x y : Nat) (cs : Array Value) (h : cs = #[.int .i64 p, .int .u64 x, .int .i64 q, .int .u64 y]) :
    FieldsAt (w.alloc (.cells cs t)) (some ⟨w.heap.size, 0, none⟩) 2 (fun i => [p, q].getD i 0) (fun i => [x, y].getD i 0) := by
  subst h
  refine .inr ⟨w.heap.size, 0, rfl, by simp, fun i hi => ?_⟩
  match i, hi with
  | 0, _ => simp [go_sem]
  | 1, _ => simp [go_sem]

theorem ints2 (w : World) (t : TypeId) (p q : Int) (cs : Array Value) (h : cs = #[.int .i64 p, .int .i64 q]) : IntsAt (w.alloc (.cells cs t)) (some ⟨w.heap.size, 0, none⟩) 2 (fun i => [p, q].getD i 0) := by
  subst h
  refine .inr ⟨w.heap.size, 0, rfl, by simp, fun i hi => ?_⟩
  match i, hi with
  | 0, _ => simp [go_sem]
  | 1, _ => simp [go_sem]

theorem two_of {P : Nat → Prop} (h0 : P 0) (h1 : P 1) (i : Nat) (hi : i < 2) : P i := by
  match i, hi with
  | 0, _ => exact h0
  | 1, _ => exact h1


/-- Two fields side by side, joined. -/
theorem join_two (p q : Nat) (x y : Nat) (hp1 : 1 ≤ p) (hq1 : 1 ≤ q) (hpq : p + q ≤ 64) (hx : x < 2 ^ p) (hy : y < 2 ^ q) :
    joinV (fun i => [(p : Int), (q : Int)].getD i 0) (fun i => [x, y].getD i 0) 2 = y * 2 ^ p + x ∧ joinE (fun i => [(p : Int), (q : Int)].getD i 0) (fun i => [x, y].getD i 0) 2 = 0 := by
  have f1 : fitB x (p : Int) = true := by unfold fitB; rw [Int.toNat_natCast]; exact decide_eq_true ((fits_iff _ _).2 hx)
  have f2 : fitB y (q : Int) = true := by unfold fitB; rw [Int.toNat_natCast]; exact decide_eq_true ((fits_iff _ _).2 hy)
  have m1 : mayB 0 (p : Int) = true := (mayB_iff _ _).2 ⟨by omega, by omega, by omega, by omega⟩
  have m2 : mayB (0 + (p : Int)) (q : Int) = true := (mayB_iff _ _).2 ⟨by omega, by omega, by omega, by omega⟩
  have hr : roomN (fun i => [(p : Int), (q : Int)].getD i 0) 2 = true := by
    show (true && mayB 0 (p : Int) && mayB (0 + (p : Int)) (q : Int)) = true
    rw [m1, m2]; rfl
  have hf : accF (fun i => [(p : Int), (q : Int)].getD i 0) (fun i => [x, y].getD i 0) 2 = true := by
    show (true && fitB x (p : Int) && fitB y (q : Int)) = true
    rw [f1, f2]; rfl
  constructor
  · rw [joinV, if_pos hr, if_pos hf]
    show (if fitB y (q : Int) then withN (if fitB x (p : Int) then withN 0 (0 : Int).toNat (p : Int).toNat x else 0) (0 + (p : Int)).toNat (q : Int).toNat y else _) = _
    rw [if_pos f2, if_pos f1, show (0 + (p : Int)).toNat = p from by omega, Int.toNat_natCast, Int.toNat_natCast, show (0 : Int).toNat = 0 from rfl]
    unfold withN
    rw [Nat.mod_eq_of_lt hx, Nat.mod_eq_of_lt hy]
    simp
    rw [Nat.mod_eq_of_lt hx, Nat.div_eq_of_lt (Nat.lt_of_lt_of_le hx (Nat.pow_le_pow_right (by decide) (by omega)))]
    omega
  · rw [joinE, if_pos hr, if_pos hf]

theorem split_two (x p q : Nat) (hp1 : 1 ≤ p) (hq1 : 1 ≤ q) (hpq : p + q ≤ 64) :
    splitE (fun i => [(p : Int), (q : Int)].getD i 0) 2 = 0 ∧ splitL x (fun i => [(p : Int), (q : Int)].getD i 0) 2 = [x % 2 ^ p, x / 2 ^ p % 2 ^ q] := by
  have m1 : mayB 0 (p : Int) = true := (mayB_iff _ _).2 ⟨by omega, by omega, by omega, by omega⟩
  have m2 : mayB (0 + (p : Int)) (q : Int) = true := (mayB_iff _ _).2 ⟨by omega, by omega, by omega, by omega⟩
  have hr : roomN (fun i => [(p : Int), (q : Int)].getD i 0) 2 = true := by
    show (true && mayB 0 (p : Int) && mayB (0 + (p : Int)) (q : Int)) = true
    rw [m1, m2]; rfl
  constructor
  · rw [splitE, if_pos hr]
  · rw [splitL, if_pos hr]
    show [fieldN x (0 : Int).toNat (p : Int).toNat, fieldN x (0 + (p : Int)).toNat (q : Int).toNat] = _
    rw [show (0 + (p : Int)).toNat = p from by omega, Int.toNat_natCast, Int.toNat_natCast, show (0 : Int).toNat = 0 from rfl]
    simp [fieldN]

end Go.Proofs.YtecjbgddjejjdaaDoor
