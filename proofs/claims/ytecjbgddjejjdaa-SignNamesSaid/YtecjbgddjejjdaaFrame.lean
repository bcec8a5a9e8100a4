/- What a law's frame wants of its arguments: shapes of plain data. -/
import Derived.Test.YtecjbgddjejjdaaChecked
import Derived.ProofKit
import Derived.Below
import Derived.Carry
import Derived.Deep.Slices
namespace Go.Proofs.Ytecjbgddjejjdaa.Fra
open Go.ChangeShapes Go.WideShapes Go.ChangeAt Go.RowKit

theorem own : ownKnob Try.prog.godebug = none := by kernel_rfl
theorem laidOut : laidOutB Try.prog = true := by kernel_rfl

variable {P : Program} {w : World} {r : Reach} {base : Nat} {t : TypeId}

theorem cell_int {k : IntKind} {v : Value} (ht : P.underlying t = some (.int k)) (h : Cell.okWide P w r base t v) : ∃ n, v = .int k n ∧ k.min ≤ n ∧ n ≤ k.max := by
  simp only [ht, Cell.okWide] at h
  cases v <;> simp_all [Cell.ok, IntKind.has]

theorem cell_bool {v : Value} (ht : P.underlying t = some .bool) (h : Cell.okWide P w r base t v) : ∃ b, v = .bool b := by
  simp only [ht, Cell.okWide] at h
  cases v <;> simp_all [Cell.ok]

theorem val_int {k : IntKind} {v : Value} (ht : P.underlying t = some (.int k)) (h : Value.okWide P w r base t v) : ∃ n, v = .int k n ∧ k.min ≤ n ∧ n ≤ k.max := by
  refine cell_int (w := w) (r := r) (base := base) ht ?_
  simpa only [Value.okWide, ht] using h

theorem val_bool {v : Value} (ht : P.underlying t = some .bool) (h : Value.okWide P w r base t v) : ∃ b, v = .bool b := by
  refine cell_bool (w := w) (r := r) (base := base) ht ?_
  simpa only [Value.okWide, ht] using h

theorem val_agg {fs : Array Field} {ts : List TypeId} {v : Value} (ht : P.underlying t = some (.struct fs)) (hts : P.cellTypes P.depth t = some ts) (hC : P.cellsOf t = ts.length)
    (h : Value.okWide P w r base t v) : ∃ l : List Value, v = .agg ⟨l⟩ ∧ l.length = ts.length ∧ ∀ (i : Nat) (u : TypeId), ts[i]? = some u → ∃ c : Value, l[i]? = some c ∧ Cell.okWide P w r base u c := by
  simp only [Value.okWide, ht] at h
  obtain ⟨cs, rfl, hsz, ts', hts', _, hc⟩ := h
  rw [hts] at hts'
  cases hts'
  obtain ⟨l⟩ := cs
  rw [hC] at hsz
  refine ⟨l, rfl, hsz, fun i u hi => ?_⟩
  have hlt : i < ts.length := (List.getElem?_eq_some_iff.1 hi).1
  obtain ⟨c, hl⟩ : ∃ c, l[i]? = some c := ⟨_, List.getElem?_eq_getElem (by rw [show l.length = ts.length from hsz]; exact hlt)⟩
  obtain ⟨u', hu', hok⟩ := hc i c (by simpa using hl)
  rw [Nat.mod_eq_of_lt hlt, hi] at hu'
  cases hu'
  exact ⟨_, hl, hok⟩

theorem list_of {l m : List Value} {ts : List TypeId} (hl : l.length = ts.length) (h : ∀ j, j < ts.length → l[j]? = m[j]?) (hm : m.length = ts.length := by rfl) : l = m := by
  refine List.ext_getElem? fun j => ?_
  by_cases hj : j < ts.length
  · exact h j hj
  · rw [List.getElem?_eq_none (by omega), List.getElem?_eq_none (by omega)]

/-! ### Slices of plain data -/

/-- Cells that are integers of these kinds. -/
def ScalL : List IntKind → List Value → Prop
  | [], [] => True
  | k :: ks, v :: cs => (∃ n : Int, v = .int k n ∧ k.min ≤ n ∧ n ≤ k.max) ∧ ScalL ks cs
  | _, _ => False

theorem scalL_append : ∀ (ks ks' : List IntKind) (cs cs' : List Value), ScalL ks cs → ScalL ks' cs' → ScalL (ks ++ ks') (cs ++ cs')
  | [], _, [], _, _, h' => h'
  | _ :: ks, ks', _ :: cs, cs', h, h' => ⟨h.1, scalL_append ks ks' cs cs' h.2 h'⟩

theorem scalL_len : ∀ (ks : List IntKind) (cs : List Value), ScalL ks cs → cs.length = ks.length
  | [], [], _ => rfl
  | _ :: ks, _ :: cs, h => by simp [scalL_len ks cs h.2]

theorem scalL_at : ∀ (ks : List IntKind) (cs : List Value), ScalL ks cs → ∀ (j : Nat) (k : IntKind), ks[j]? = some k → ∃ n : Int, cs[j]? = some (.int k n) ∧ k.min ≤ n ∧ n ≤ k.max
  | [], _, _, j, k, hk => by simp at hk
  | k0 :: ks, v :: cs, h, 0, k, hk => by
    obtain ⟨n, rfl, hb⟩ := h.1
    simp at hk
    subst hk
    exact ⟨n, rfl, hb⟩
  | k0 :: ks, v :: cs, h, j + 1, k, hk => by
    obtain ⟨n, hn, hb⟩ := scalL_at ks cs h.2 j k (by simpa using hk)
    exact ⟨n, by simpa using hn, hb⟩

/-- A type whose cells are integers of these kinds. -/
def Scal (P : Program) (t : TypeId) (ks : List IntKind) : Prop :=
  ∀ (H : Type) (enc : TypeId × Value → H) (w : World) (base : Nat) (spare : Nat → Bool) (held : Bool) (fuel : Nat) (cs : List Value) (x : DataW H × List MemPlace), DataW.trod enc P w base spare held fuel t cs = some x → ScalL ks cs

theorem scal_int {k : IntKind} (ht : P.underlying t = some (.int k)) : Scal P t [k] := by
  intro H enc w base spare held fuel cs x h
  obtain ⟨n, rfl, _, hw⟩ := DataW.trod_int ht h
  simp only [Lit.wf, Bool.and_eq_true, decide_eq_true_eq] at hw
  exact ⟨⟨n, rfl, hw.1, hw.2⟩, trivial⟩

/-- The fields stand one behind the other. -/
def inRow : Nat → List (Field × List IntKind) → Bool
  | _, [] => true
  | off, p :: r => decide (p.1.offset = off) && inRow (off + p.2.length) r

theorem segs : ∀ (l : List (Field × List IntKind)) (off : Nat) (cs : List Value), inRow off l = true → (∀ p ∈ l, ScalL p.2 ((cs.drop p.1.offset).take p.2.length)) → cs.length = off + ((l.map (·.2)).flatten).length → ScalL (l.map (·.2)).flatten (cs.drop off)
  | [], off, cs, _, _, hl => by
    rw [List.drop_eq_nil_of_le (by simp at hl; omega)]
    trivial
  | p :: r, off, cs, hr, h, hl => by
    simp only [inRow, Bool.and_eq_true, decide_eq_true_eq] at hr
    have h0 := h p (by simp)
    rw [hr.1] at h0
    have h1 := segs r (off + p.2.length) cs hr.2 (fun q hq => h q (by simp [hq])) (by simp at hl ⊢; omega)
    rw [← List.drop_drop] at h1
    have := scalL_append _ _ _ _ h0 h1
    rwa [List.take_append_drop] at this

theorem scal_struct {fs : Array Field} (kss : List (List IntKind)) (ht : P.underlying t = some (.struct fs)) (hrow : inRow 0 (fs.toList.zip kss) = true) (hlen : kss.length = fs.size) (hC : P.cellsOf t = kss.flatten.length)
    (hf : ∀ p ∈ fs.toList.zip kss, Scal P p.1.type p.2 ∧ P.cellsOf p.1.type = p.2.length) : Scal P t kss.flatten := by
  intro H enc w base spare held fuel cs x h
  obtain ⟨xs, n, _, _, hcl, hxl, hg⟩ := DataW.trod_struct ht h
  have hz : (fs.toList.zip kss).map (·.2) = kss := by
    rw [List.map_snd_zip]
    simp [hlen]
  have := segs (fs.toList.zip kss) 0 cs hrow (fun p hp => ?_) (by rw [hz, Nat.zero_add, hcl, hC])
  · rwa [hz, List.drop_zero] at this
  · obtain ⟨hs, hc⟩ := hf p hp
    obtain ⟨i, hi⟩ := List.mem_iff_getElem?.1 hp
    rw [List.getElem?_zip_eq_some] at hi
    have h1 := hg i p.1 (by simpa using hi.1)
    have hi2 : i < xs.length := by
      rw [hxl, ← hlen]
      exact (List.getElem?_eq_some_iff.1 hi.2).1
    rw [List.getElem?_eq_getElem hi2, hc] at h1
    exact hs _ _ _ _ _ _ _ _ _ h1

/-- A table in memory: n rows of cells of these kinds. -/
def Tab (w : World) (ks : List IntKind) (b off n : Nat) (f : Nat → Nat → Int) : Prop :=
  ∀ i j k, i < n → ks[j]? = some k → w.cell? ⟨b, off + i * ks.length + j, none⟩ = some (.int k (f i j)) ∧ k.min ≤ f i j ∧ f i j ≤ k.max

/-- A slice of plain data that came in. -/
def Slc (w : World) (ks : List IntKind) (a : Option Addr) (len cap : Nat) : Prop :=
  (a = none ∧ len = 0 ∧ cap = 0) ∨ ∃ b off f, a = some ⟨b, off, none⟩ ∧ b < w.heap.size ∧ len ≤ cap ∧ cap ≤ maxLen ∧ Tab w ks b off len f

theorem add_none (b off i : Nat) : (⟨b, off, none⟩ : Addr).add i = ⟨b, off + i, none⟩ := by
  by_cases h : i = 0 <;> simp [Addr.add, h]

theorem slc_of {H : Type} {enc : TypeId × Value → H} {r : Reach} {base : Nat} {e : TypeId} {ks : List IntKind} {a : Option Addr} {len cap : Nat} {d : DataW H} {p : List MemPlace} {spare : Nat → Bool} {held : Bool} (ht : P.underlying t = some (.slice e)) (hs : Scal P e ks) (hC : P.cellsOf e = ks.length)
    (hval : Value.okWide P w r base t (.slice a len cap)) (h : DataW.Trod enc P w 0 spare held t (.slice a len cap) d p) : Slc w ks a len cap := by
  obtain ⟨fuel, hf⟩ := h
  rcases Go.Deep.open_slice ht hf with ⟨hcs, _⟩ | ⟨x, l, c, m, n, D, Pl, hcs, _, hl, hm, hmm, _, hi⟩
  · simp [Value.cells] at hcs
    exact .inl hcs
  · simp [Value.cells] at hcs
    obtain ⟨rfl, rfl, rfl⟩ := hcs
    obtain ⟨b, off, spot⟩ := x
    simp only [Value.okWide, ht, Cell.okWide, Cell.ok, World.has] at hval
    obtain ⟨_, _, _, hspot, row, cells, hsh, _⟩ := hval

    subst hspot
    have hb : b < w.heap.size := by
      unfold World.shape? at hsh
      cases ho : w.heap[b]? with
      | none => simp [ho] at hsh
      | some o => exact (Array.getElem?_eq_some_iff.1 ho).1
    have hle : len ≤ m := by rw [hmm]; split <;> omega
    have hcell : ∀ i j k, i < len → ks[j]? = some k → ∃ v : Int, w.cell? ⟨b, off + i * ks.length + j, none⟩ = some (.int k v) ∧ k.min ≤ v ∧ v ≤ k.max := by
      intro i j k hi' hk
      obtain ⟨cs', hc', ht'⟩ := hi i (by omega)
      obtain ⟨v, hv, hb'⟩ := scalL_at _ _ (hs _ _ _ _ _ _ _ _ _ ht') j k hk
      have hj : j < ks.length := (List.getElem?_eq_some_iff.1 hk).1
      obtain ⟨_, _, hat⟩ := World.cells?_some hc'
      have := hat j (by omega)
      rw [hv, hC] at this
      rw [add_none, add_none] at this
      exact ⟨v, this, hb'⟩
    refine .inr ⟨b, off, fun i j => (match w.cell? ⟨b, off + i * ks.length + j, none⟩ with | some (.int _ v) => v | _ => 0), rfl, hb, hl, hm, fun i j k hi' hk => ?_⟩
    obtain ⟨v, hv, hb'⟩ := hcell i j k hi' hk
    simp only [hv]
    exact ⟨trivial, hb'⟩

end Go.Proofs.Ytecjbgddjejjdaa.Fra
