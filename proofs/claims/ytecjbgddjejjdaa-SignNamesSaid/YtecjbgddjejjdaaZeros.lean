/- Rows of cells that are all nothing, as they are made. -/
import Derived.Test.YtecjbgddjejjdaaCels
import Derived.Laws.MakeOwn
namespace Go.Proofs.Ytecjbgddjejjdaa
open Go.RowKit

theorem rd_of_box {W : World} {g c : Nat} {l : List Cel} (h : Box W g (celsV l)) : Rd W (some ⟨g, 0, none⟩) c l :=
  ⟨by simp, .inr ⟨g, 0, rfl, .inr h.lt, fun j u hu => by rw [Nat.zero_add]; exact h.c j hu⟩⟩

/-- So many cells, all nothing. -/
def zerosL (n : Nat) : List Cel := List.replicate n .zero
def zerosB (n : Nat) : Obj := .cells ⟨celsV (zerosL n)⟩ 29
theorem zeros_len (n : Nat) : (zerosL n).length = n := by simp [zerosL]
theorem zeros_vals : ∀ n : Nat, celsV (zerosL n) = List.replicate (n * 4) (.int .u64 0)
  | 0 => rfl
  | n + 1 => by
    have ih := zeros_vals n
    rw [show (n + 1) * 4 = n * 4 + 1 + 1 + 1 + 1 from by omega, List.replicate_succ, List.replicate_succ, List.replicate_succ, List.replicate_succ, ← ih]
    rfl
theorem mod4 (j : Nat) : (#[(.int .u64 0 : Value), .int .u64 0, .int .u64 0, .int .u64 0])[j % 4]! = .int .u64 0 := by
  have : j % 4 < 4 := Nat.mod_lt _ (by decide)
  generalize j % 4 = m at *
  match m, this with
  | 0, _ => rfl
  | 1, _ => rfl
  | 2, _ => rfl
  | 3, _ => rfl
theorem made_vals (m : Nat) : (madeCells #[(.int .u64 0 : Value), .int .u64 0, .int .u64 0, .int .u64 0] m) = ⟨List.replicate m (.int .u64 0)⟩ := by
  have e : (fun k : Nat => (#[(.int .u64 0 : Value), .int .u64 0, .int .u64 0, .int .u64 0])[k % (#[(.int .u64 0 : Value), .int .u64 0, .int .u64 0, .int .u64 0]).size]!) = fun _ => .int .u64 0 := funext mod4
  unfold madeCells
  rw [e]
  apply Array.ext
  · simp
  · intro j h1 h2
    simp
theorem infoCel : (Try.prog.info? 29).map (fun i => (i.zero, i.size, i.bytes)) = some (some (.agg #[.int .u64 0, .int .u64 0, .int .u64 0, .int .u64 0]), 4, 32) := by kernel_rfl
theorem zeros_rd (W : World) (n : Nat) : Rd (W.alloc (zerosB n)) (some ⟨W.heap.size, 0, none⟩) n (zerosL n) := rd_of_box (Box.new W 29 (celsV (zerosL n)))

theorem celsV_set0 : ∀ (l : List Cel) (k t : Nat), k < l.length → celsV (l.set k ⟨t, (l.getD k .zero).a, (l.getD k .zero).b, (l.getD k .zero).c⟩) = (celsV l).set (k * 4) (.int .u64 t)
  | [], k, t, h => by simp at h
  | y :: l, 0, t, _ => rfl
  | y :: l, k + 1, t, h => by
    have ih := celsV_set0 l k t (by simpa using h)
    rw [show (k + 1) * 4 = k * 4 + 4 from by omega, celsV_cons]
    show celsV (y :: l.set k _) = _
    rw [celsV_cons]
    have : (y :: l).getD (k + 1) Cel.zero = l.getD k .zero := rfl
    rw [this, ih]
    rfl
theorem zeros_at (n k : Nat) : (zerosL n).getD k .zero = .zero := by
  simp only [zerosL, List.getD_eq_getElem?_getD, List.getElem?_replicate]
  split <;> rfl
theorem zeros_set (n k t : Nat) (h : k < n) : celsV ((zerosL n).set k ⟨t, 0, 0, 0⟩) = (celsV (zerosL n)).set (k * 4) (.int .u64 t) := by
  have := celsV_set0 (zerosL n) k t (by rw [zeros_len]; exact h)
  rw [zeros_at] at this
  exact this

end Go.Proofs.Ytecjbgddjejjdaa
