/- What a law's frame wants of its arguments: shapes of plain data. -/
import Derived.Test.YtmjgmfoaagomgaaChecked
import Derived.ProofKit
import Derived.Below
import Derived.Carry
namespace Go.Proofs.Ytmjgmfoaagomgaa.Fra
open Go.ChangeShapes Go.WideShapes Go.ChangeAt Go.RowKit

theorem own : ownKnob Try.prog.godebug = none := by kernel_rfl
theorem laidOut : laidOutB Try.prog = true := by kernel_rfl

variable {P : Program} {w : World} {r : Reach} {base : Nat} {t : TypeId}

theorem cell_int {k : IntKind} {v : Value} (ht : P.underlying t = some (.int k)) (h : Cell.okWide P w r base t v) : ∃ n, v = .int k n ∧ k.min ≤ n ∧ n ≤ k.max := by
  simp only [ht, Cell.okWide] at h
  cases v <;> simp_all [Cell.ok, IntKind.has]

theorem cell_bool {v : Value} (ht : P.underlying t = some .bool) (h : Cell.okWide P w r base t v) : ∃ b, v = .bool b := by
  simp only [ht, Cell.okWide] at h
  cases v <;> simp_all [Cell.ok]

theorem val_int {k : IntKind} {v : Value} (ht : P.underlying t = some (.int k)) (h : Value.okWide P w r base t v) : ∃ n, v = .int k n ∧ k.min ≤ n ∧ n ≤ k.max := by
  refine cell_int (w := w) (r := r) (base := base) ht ?_
  simpa only [Value.okWide, ht] using h

theorem val_bool {v : Value} (ht : P.underlying t = some .bool) (h : Value.okWide P w r base t v) : ∃ b, v = .bool b := by
  refine cell_bool (w := w) (r := r) (base := base) ht ?_
  simpa only [Value.okWide, ht] using h

theorem val_agg {fs : Array Field} {ts : List TypeId} {v : Value} (ht : P.underlying t = some (.struct fs)) (hts : P.cellTypes P.depth t = some ts) (hC : P.cellsOf t = ts.length)
    (h : Value.okWide P w r base t v) : ∃ l : List Value, v = .agg ⟨l⟩ ∧ l.length = ts.length ∧ ∀ (i : Nat) (u : TypeId), ts[i]? = some u → ∃ c : Value, l[i]? = some c ∧ Cell.okWide P w r base u c := by
  simp only [Value.okWide, ht] at h
  obtain ⟨cs, rfl, hsz, ts', hts', _, hc⟩ := h
  rw [hts] at hts'
  cases hts'
  obtain ⟨l⟩ := cs
  rw [hC] at hsz
  refine ⟨l, rfl, hsz, fun i u hi => ?_⟩
  have hlt : i < ts.length := (List.getElem?_eq_some_iff.1 hi).1
  obtain ⟨c, hl⟩ : ∃ c, l[i]? = some c := ⟨_, List.getElem?_eq_getElem (by rw [show l.length = ts.length from hsz]; exact hlt)⟩
  obtain ⟨u', hu', hok⟩ := hc i c (by simpa using hl)
  rw [Nat.mod_eq_of_lt hlt, hi] at hu'
  cases hu'
  exact ⟨_, hl, hok⟩

theorem list_of {l m : List Value} {ts : List TypeId} (hl : l.length = ts.length) (h : ∀ j, j < ts.length → l[j]? = m[j]?) (hm : m.length = ts.length := by rfl) : l = m := by
  refine List.ext_getElem? fun j => ?_
  by_cases hj : j < ts.length
  · exact h j hj
  · rw [List.getElem?_eq_none (by omega), List.getElem?_eq_none (by omega)]

end Go.Proofs.Ytmjgmfoaagomgaa.Fra
