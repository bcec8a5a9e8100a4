/- A range over a function whose round lays its variable in a block of its own. -/
import Derived.Test.YtecjbgddjejjdaaRange
import Derived.Test.YtecjbgddjejjdaaBox
namespace Go.Proofs.Ytecjbgddjejjdaa
open Go.RowKit

variable {P : Program}

/-- As SeqL; a round that says 'no more' keeps what the iterator leans on, too. -/
def SeqK {α : Type} (P : Program) (g : Nat) (lb : Array Value) (encs : α → Array Value) (Kp : World → World → Prop) (row : Option Nat) (L : List α) (w : World) : Prop :=
  ∀ (l : Nat) (J Jx : List α → World → Prop) (W : World), Below w.heap.size w W → Stab row J → Stab row Jx →
    (∀ pre x rest W1, L = pre ++ x :: rest → J pre W1 → YieldAt Fence.wide 0 P l (encs x) W1 fun e W' =>
      (e = .returned (.bool true) ∧ J (pre ++ [x]) W' ∧ Kp W1 W') ∨ (e = .returned (.bool false) ∧ Jx (pre ++ [x]) W' ∧ Kp W1 W')) →
    J [] W →
    CallsIn Fence.wide 0 P g (#[.func (.yield l) #[] #[]] ++ lb) W fun e W' => (∃ v, e = .returned v) ∧ (J L W' ∨ ∃ pre x rest, L = pre ++ x :: rest ∧ Jx (pre ++ [x]) W')

/-- How a round ends. -/
def ownPostX {α : Type} (Kp : World → World → Prop) (I : List α → World → Prop) (Ix : Code → List α → World → Prop) (pre : List α) (W : World) : Exit → Act → World → Prop
  | .normal, _, U => KeepsOthers W U ∧ Kp W U ∧ I pre U
  | .ret, _, U => KeepsOthers W U ∧ Kp W U ∧ Ix .ret pre U
  | .exit id, _, U => KeepsOthers W U ∧ Kp W U ∧ Ix (.exit id) pre U
  | .goto t, _, U => KeepsOthers W U ∧ Kp W U ∧ Ix (.goto t) pre U
  | .panic _, _, _ => False
  | .outgrown, _, _ => False

/-- As wp_range; each round first lays its variable in a new block: the world w₁ x W. -/
theorem wp_range_new {α : Type} {g : Operand} {ps : Array Tmp} {assign body : Code} {Q : Exit → Act → World → Prop} {a : Act} {w : World}
    {gf : Nat} {lb : Array Value} (hg : a.eval g = .func (.func gf) #[] lb) (eg : ∀ args w, (callFunc gf args).run P w = .ok (.enter gf args) w)
    {encs : α → Array Value} {Kp : World → World → Prop} {row : Option Nat} {L : List α} {w0 : World} (hseq : SeqK P gf lb encs Kp row L w0) (hb0 : Below w0.heap.size w0 w)
    (hrow : ∀ r, row = some r → r < w.heap.size) (hps : ∀ x, (encs x).size = ps.size)
    (hKt : ∀ {A B C : World}, Kp A B → Kp B C → Kp A C) (hKb : ∀ (W : World) (l : Nat) (o o' : Obj), w.heap.size ≤ l → W.heap[l]? = some o → o.isCells = false → o.isWalk = false → Kp W (W.putObj l o'))
    (hKg : ∀ {A B : World}, A.grownBy B none → Kp A B)
    (I : List α → World → Prop) (Ix : Code → List α → World → Prop) (hI : OwnFrom w.heap.size I) (hIx : ∀ c, OwnFrom w.heap.size (Ix c)) (sI : Stab row I) (sI0 : Stab none I) (sIx : ∀ c, Stab row (Ix c))
    (h0 : I [] w) (cells : α → List Value) (w₁ : α → World → World) (hw₁ : ∀ x W, W.grownBy (w₁ x W) none ∧ Box (w₁ x W) W.heap.size (cells x)) (a₁ : α → Nat → Act)
    (hassign : ∀ (l : Nat) (x : α) (W : World) (K : Act → World → Prop), K (a₁ x W.heap.size) (w₁ x W) →
      assign.wpIn (Fence.wide.inRound l) 0 P (Exit.then K (fun _ _ _ => False)) { tmps := (ps.zip (encs x)).foldl (fun t (p, v) => t.setIfInBounds p v) a.tmps, defers := [] } W)
    (hbody : ∀ (l : Nat) (pre : List α) (x : α) (rest : List α) (q : Nat) (V : World), L = pre ++ x :: rest → I pre V → Box V q (cells x) → w.heap.size ≤ q → body.wpIn (Fence.wide.inRound l) 0 P (ownPostX Kp I Ix (pre ++ [x]) V) (a₁ x q) V)
    (hdone : ∀ (D : Nat) (W : World), w.heap.size ≤ D → I L W → W.heap[D]? = some (.deferred (some [])) → Q .normal { a with defers := { target := .collected D, args := #[] } :: a.defers } W)
    (hstop : ∀ (D : Nat) (c : Code) (pre : List α) (x : α) (rest : List α) (W : World), w.heap.size ≤ D → L = pre ++ x :: rest → Ix c (pre ++ [x]) W → W.heap[D]? = some (.deferred (some [])) → c.wpIn Fence.wide 0 P Q { a with defers := { target := .collected D, args := #[] } :: a.defers } W) :
    (Code.rangeFunc g ps assign body).wpIn Fence.wide 0 P Q a w := by
  refine wpIn_rangeFunc fun fn hfn => ?_
  let rec' : LoopState → Option Code → Loop := fun st pe => { state := st, pending := pe, fn, tmps := a.tmps, params := ps, assign, body, defers := w.heap.size }
  obtain ⟨R, hR⟩ : ∃ R, R = rec' := ⟨_, rfl⟩
  obtain ⟨W1, hW1⟩ : ∃ W1, (w.alloc (.deferred (some []))).alloc (.loop (R .ready none)) = W1 := ⟨_, rfl⟩
  have hs1 : W1.heap.size = w.heap.size + 2 := by rw [← hW1]; simp
  have loop1 : W1.heap[w.heap.size + 1]? = some (.loop (R .ready none)) := by
    rw [← hW1]
    have := World.alloc_heap_new (w.alloc (.deferred (some []))) (.loop (R .ready none))
    rwa [World.size_alloc] at this
  have def1 : W1.heap[w.heap.size]? = some (.deferred (some [])) := by
    rw [← hW1]
    exact (Below.heap_alloc _ _ _ (by simp)).trans (World.alloc_heap_new w _)
  have inv1 : I [] W1 := by rw [← hW1]; exact hI.alloc _ (hI.alloc _ h0)
  have below1 : Below w0.heap.size w0 W1 := by
    rw [← hW1]
    exact hb0.trans ((((Below.refl _ w).alloc (Nat.le_refl _) _).alloc (by simp) _).mono hb0.size)
  have far : ∀ k, w.heap.size ≤ k → row ≠ some k := fun k hk e => by have := hrow k e; omega
  refine ⟨w.heap.size + 1, [{ target := .collected w.heap.size, args := #[] }], W1, { target := .fn (.func gf) lb, args := #[.func (.yield (w.heap.size + 1)) #[] #[]] }, W1, gf,
    #[.func (.yield (w.heap.size + 1)) #[] #[]] ++ lb, W1, ?_, ?_, fun _ _ => trivial, ?_, fun h => by simp [Fence.wide] at h, ?_⟩
  · rw [← hW1, hR]; exact run_enterLoop_outer _ _ _ _ _
  · simp only [resolve, hg]
    simp [go_sem]
  · simp [invoke, go_sem, eg]
  refine (hseq (w.heap.size + 1)
    (fun pre W => I pre W ∧ W.heap[w.heap.size + 1]? = some (.loop (R .ready none)) ∧ W.heap[w.heap.size]? = some (.deferred (some [])))
    (fun pre W => ∃ c, Ix c pre W ∧ W.heap[w.heap.size + 1]? = some (.loop (R .done (some c))) ∧ W.heap[w.heap.size]? = some (.deferred (some [])))
    W1 below1
    (fun s A B h hg' => ⟨sI s A B h.1 hg', grown_same hg' h.2.1 (far _ (by omega)), grown_same hg' h.2.2 (far _ (Nat.le_refl _))⟩)
    (fun s A B h hg' => by
      obtain ⟨c, hc, hl, hk⟩ := h
      exact ⟨c, sIx c s A B hc hg', grown_same hg' hl (far _ (by omega)), grown_same hg' hk (far _ (Nat.le_refl _))⟩)
    ?_ ⟨inv1, loop1, def1⟩).mono ?_
  · rintro pre x rest W0 hL ⟨hi0, hl0, hk0⟩
    have hsz0 : w.heap.size ≤ W0.heap.size := by have := (Array.getElem?_eq_some_iff.1 hl0).1; omega
    have hy := run_yield (P := P) (args := encs x) hl0 (by rw [hR]; exact hps x)
    rw [hR] at hy
    obtain ⟨hgr, hbx⟩ := hw₁ x W0
    have hi := sI0 _ _ _ hi0 hgr
    have hl := grown_same hgr hl0 (by simp)
    have hk := grown_same hgr hk0 (by simp)
    obtain ⟨W, hW⟩ : ∃ W, w₁ x W0 = W := ⟨_, rfl⟩
    rw [hW] at hi hl hk hbx hgr
    have hlt : w.heap.size + 1 < W.heap.size := (Array.getElem?_eq_some_iff.1 hl).1
    refine ⟨fn, _, assign, body, hy, roundIn_of_wpIn hfn (hassign _ x W0 _ ⟨_, by rw [hW]; exact run_beginRound hl (by rw [hR]), ?_⟩)⟩
    obtain ⟨V, hV⟩ : ∃ V, W.putObj (w.heap.size + 1) (.loop { R .ready none with state := .busy }) = V := ⟨_, rfl⟩
    have vl : V.heap[w.heap.size + 1]? = some (.loop { R .ready none with state := .busy }) := by rw [← hV]; exact World.putObj_heap_same hlt
    have vk : V.heap[w.heap.size]? = some (.deferred (some [])) := by rw [← hV]; exact (World.putObj_heap_other (by omega)).trans hk
    have vK : Kp W0 V := hKt (hKg hgr) (by rw [← hV]; exact hKb _ _ _ _ (by omega) hl rfl rfl)
    have vI : I pre V := by rw [← hV]; exact hI.putObj _ hi (by omega) hl rfl
    have vB : Box V W0.heap.size (cells x) := by
      obtain ⟨t, ht⟩ := hbx
      refine ⟨t, ?_⟩
      rw [← hV]
      refine (World.putObj_heap_other ?_).trans ht
      intro e
      rw [e] at ht
      rw [hl] at ht
      cases ht
    rw [hV]
    have fin : ∀ (jump : Option Code) (U : World), KeepsOthers V U → ∃ Z, (Instr.endRound (w.heap.size + 1) jump).run P U = .ok (.bool jump.isNone) Z ∧
        Z = U.putObj (w.heap.size + 1) (.loop (R (if jump.isNone then .ready else .done) jump)) ∧
        U.heap[w.heap.size + 1]? = some (.loop { R .ready none with state := .busy }) ∧
        Z.heap[w.heap.size + 1]? = some (.loop (R (if jump.isNone then .ready else .done) jump)) ∧ Z.heap[w.heap.size]? = some (.deferred (some [])) := fun jump U hU => by
      have ul := hU.same _ _ vl rfl
      have hr := run_endRound (P := P) jump ul
      rw [hR] at hr ul ⊢
      exact ⟨_, hr, rfl, ul, World.putObj_heap_same (Array.getElem?_eq_some_iff.1 ul).1, (World.putObj_heap_other (by omega)).trans (hU.same _ _ vk rfl)⟩
    refine wpIn_mono (hbody _ pre x rest W0.heap.size V hL vI vB hsz0) ?_
    have stop : ∀ (c : Code) (U : World), KeepsOthers V U → Kp V U → Ix c (pre ++ [x]) U → ∃ v Z, (Instr.endRound (w.heap.size + 1) (some c)).run P U = .ok v Z ∧
        ((Ending.returned v = .returned (.bool true) ∧ (I (pre ++ [x]) Z ∧ Z.heap[w.heap.size + 1]? = some (.loop (R .ready none)) ∧ Z.heap[w.heap.size]? = some (.deferred (some []))) ∧ Kp W0 Z) ∨
          (Ending.returned v = .returned (.bool false) ∧ (∃ c, Ix c (pre ++ [x]) Z ∧ Z.heap[w.heap.size + 1]? = some (.loop (R .done (some c))) ∧ Z.heap[w.heap.size]? = some (.deferred (some []))) ∧ Kp W0 Z)) := fun c U hU kU hx => by
      obtain ⟨Z, hr, hZ, ul, zl, zk⟩ := fin (some c) U hU
      exact ⟨_, Z, hr, .inr ⟨rfl, ⟨c, by rw [hZ]; exact (hIx c).putObj _ hx (by omega) ul rfl, zl, zk⟩, hKt (hKt vK kU) (by rw [hZ]; exact hKb _ _ _ _ (by omega) ul rfl rfl)⟩⟩
    rintro e a3 U hp
    cases e with
    | normal =>
      obtain ⟨hU, kU, iU⟩ := hp
      obtain ⟨Z, hr, hZ, ul, zl, zk⟩ := fin none U hU
      exact ⟨_, Z, hr, .inl ⟨rfl, ⟨by rw [hZ]; exact hI.putObj _ iU (by omega) ul rfl, zl, zk⟩, hKt (hKt vK kU) (by rw [hZ]; exact hKb _ _ _ _ (by omega) ul rfl rfl)⟩⟩
    | ret => exact stop .ret U hp.1 hp.2.1 hp.2.2
    | exit id => exact stop (.exit id) U hp.1 hp.2.1 hp.2.2
    | goto t => exact stop (.goto t) U hp.1 hp.2.1 hp.2.2
    | panic ch => exact hp.elim
    | outgrown => exact hp.elim
  · rintro e W2 ⟨⟨v, rfl⟩, ⟨hi, hl, hk⟩ | ⟨pre, x, rest, hL, c, hi, hl, hk⟩⟩
    · refine ⟨none, _, by have := run_endLoop (P := P) hl (by rw [hR]; simp [rec']); rw [hR] at this; exact this, ?_⟩
      exact hdone _ _ (Nat.le_refl _) (hI.putObj _ hi (by omega) hl rfl) ((World.putObj_heap_other (by omega)).trans hk)
    · refine ⟨some c, _, by have := run_endLoop (P := P) hl (by rw [hR]; simp [rec']); rw [hR] at this; exact this, ?_⟩
      exact hstop _ c pre x rest _ (Nat.le_refl _) hL ((hIx c).putObj _ hi (by omega) hl rfl) ((World.putObj_heap_other (by omega)).trans hk)

end Go.Proofs.Ytecjbgddjejjdaa
