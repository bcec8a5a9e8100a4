/- A list copied by append onto an empty literal. -/
import Derived.Test.YtmjgmfoaagomgaaRow
import Derived.Laws.AppendOwnNone
namespace Go.Proofs.Ytmjgmfoaagomgaa
open Go.RowKit

theorem wpList_append_copy {P : Program} {w : World} {ops : Array Oper} {rest : List Oper} {o : Oper} {a : Act} {Q : Exit → Act → World → Prop} (hgd : o.guard = none) (s x : Operand) (t : TypeId)
    (ho : o.op = .call { callee := .builtin .append, args := #[s, x], argTypes := #[t, t] })
    (base : Nat) (e : TypeId) (i : TypeInfo) (z : Value) (size bytes : Nat) (ht : P.underlying t = some (.slice e)) (hi : P.info? e = some i) (hz : i.zero = some z)
    (hsize : i.size = size) (hby : i.bytes = bytes) (hzs : z.cells.size = size) (hsz : 0 < size)
    (v : Value) (hs : a.eval s = v) (hown : w.ownsRow base e size v 0 [])
    (ad : Option Addr) (m c : Nat) (news : List Value) (hx : a.eval x = .slice ad m c) (hnone : ad = none → m = 0 ∧ c = 0) (hl : news.length = m * size) (hnews : ∀ A, ad = some A → ∀ j u, news[j]? = some u → w.cell? (A.add j) = some u) (h1 : ∀ u ∈ news, u.oneCell' = true)
    (h63 : m ≤ maxLen) (hbytes : m * bytes ≤ 140737488355328) (hbase : base ≤ w.heap.size)
    (h : ∀ v' w', w'.ownsRow base e size v' m news → w.grownBy w' v.ownBlock → wpList P ops Q rest (a.put o.dst v') w') : wpList P ops Q (o :: rest) a w := by
  cases ad with
  | none =>
    obtain ⟨rfl, rfl⟩ := hnone rfl
    obtain rfl : news = [] := List.eq_nil_of_length_eq_zero (by simpa using hl)
    exact wpList_append_own_none hgd s x t ho base e i size ht hi v 0 [] hs hown hx (h v w hown ⟨rfl, rfl, rfl, Nat.le_refl _, fun _ _ _ => rfl⟩)
  | some A =>
    refine wpList_append_own w hgd s x t ho base e i z size bytes ht hi hz hsize hby hzs hsz v 0 [] hs hown A m c news hx hl (hnews A rfl) h1 (by omega) (by rw [Nat.zero_add]; exact hbytes) hbase fun v' w' ho' hg _ => ?_
    exact h v' w' (by simpa using ho') hg

/-- The cells of a list of fields. -/
def fieldsL (bs : Nat → Int) (vs : Nat → Nat) (n : Nat) : List Value := (List.range (n * 2)).map fun j => if j % 2 = 0 then .int .i64 (bs (j / 2)) else .int .u64 (vs (j / 2))
theorem fieldsL_len (bs : Nat → Int) (vs : Nat → Nat) (n : Nat) : (fieldsL bs vs n).length = n * 2 := by simp [fieldsL]
theorem fieldsL_one (bs : Nat → Int) (vs : Nat → Nat) (n : Nat) : ∀ u ∈ fieldsL bs vs n, u.oneCell' = true := by
  intro u hu
  simp only [fieldsL, List.mem_map] at hu
  obtain ⟨j, _, rfl⟩ := hu
  split <;> rfl
theorem fieldsL_news {w : World} {a : Option Addr} {n : Nat} {bs : Nat → Int} {vs : Nat → Nat} (h : FieldsAt w a n bs vs) : ∀ A, a = some A → ∀ j u, (fieldsL bs vs n)[j]? = some u → w.cell? (A.add j) = some u := by
  intro A hA j u hu
  have hj : j < n * 2 := by
    have := (List.getElem?_eq_some_iff.1 hu).1
    simpa [fieldsL] using this
  simp [fieldsL, hj] at hu
  rcases h with rfl | ⟨b, off, rfl, hb, hc⟩
  · omega
  · cases hA
    rw [Fra.add_none]
    have := hc (j / 2) (by omega)
    subst hu
    by_cases hm : j % 2 = 0
    · rw [if_pos hm, ← this.1, show off + j / 2 * 2 = off + j from by omega]
    · rw [if_neg hm, ← this.2, show off + j / 2 * 2 + 1 = off + j from by omega]

theorem fields_own {w : World} {b : Nat} {e : TypeId} {v : Value} {bs : Nat → Int} {vs : Nat → Nat} {n : Nat} (h : w.ownsRow b e 2 v n (fieldsL bs vs n)) : ∃ a cap, v = .slice a n cap ∧ FieldsAt w a n bs vs := by
  rcases h.2 with ⟨rfl, h0⟩ | ⟨g, cap, cur, rfl, _, hh, _⟩
  · exact ⟨none, 0, by rw [h0], .inl h0⟩
  · refine ⟨_, cap, rfl, .inr ⟨g, 0, rfl, (Array.getElem?_eq_some_iff.1 hh).1, fun i hi => ⟨?_, ?_⟩⟩⟩
    · rw [Nat.zero_add, h.cellAt (i * 2) (by omega)]
      have : i * 2 < n * 2 := by omega
      simp [fieldsL, this]
    · rw [Nat.zero_add, h.cellAt (i * 2 + 1) (by omega)]
      have : i * 2 + 1 < n * 2 := by omega
      have e1 : (i * 2 + 1) / 2 = i := by omega
      simp [fieldsL, this, e1]

theorem ints_news {w : World} {a : Option Addr} {n : Nat} {bs : Nat → Int} (h : IntsAt w a n bs) : ∀ A, a = some A → ∀ j u, (i64s (bitsN bs n))[j]? = some u → w.cell? (A.add j) = some u := by
  intro A hA j u hu
  have hj : j < n := by
    have := (List.getElem?_eq_some_iff.1 hu).1
    simpa [i64s, bitsN] using this
  simp [i64s, bitsN, hj] at hu
  rcases h with rfl | ⟨b, off, rfl, hb, hc⟩
  · omega
  · cases hA
    rw [Fra.add_none, ← hu]
    exact hc j hj
theorem i64s_one (xs : List Int) : ∀ u ∈ i64s xs, u.oneCell' = true := by
  intro u hu
  simp only [i64s, List.mem_map] at hu
  obtain ⟨j, _, rfl⟩ := hu
  rfl

theorem slc_none {w : World} {ks : List IntKind} {a : Option Addr} {n c : Nat} (h : Fra.Slc w ks a n c) : a = none → n = 0 ∧ c = 0 := by
  rintro rfl
  rcases h with ⟨_, h⟩ | ⟨b, off, f, h, _⟩
  · exact h
  · cases h

theorem infoField : (Try.prog.info? 41).map (fun i => (i.zero, i.size, i.bytes)) = some (some (.agg #[.int .i64 0, .int .u64 0]), 2, 16) := by kernel_rfl

end Go.Proofs.Ytmjgmfoaagomgaa
