/- A range over a function whose iterator keeps a state of its own in one block: a law of our own over the kit's steps. -/
import Derived.RangeFuncNested
import Derived.RangeFuncBound
import Derived.RangeFuncCalls
import Derived.RangeFuncLeaves
import Derived.WalkKit
import Derived.Deep.Quiet
import Derived.OrdersHeld
import Derived.OrdersIn
import Derived.StillTail
namespace Go.Proofs.Ytecjbgddjejjdaa
open Go.RowKit

/-- J abides an iterator's step: new blocks, draws, and whatever it writes into the one block of its own. -/
def Stab {β : Type} (row : Option Nat) (J : β → World → Prop) : Prop := ∀ s A B, J s A → A.grownBy B row → J s B

/-- An iterator that yields the list L: between two rounds J; where a round said 'no more', Jx. What a round that goes on keeps: Kp. -/
def SeqL {α : Type} (P : Program) (g : Nat) (lb : Array Value) (encs : α → Array Value) (Kp : World → World → Prop) (row : Option Nat) (L : List α) (w : World) : Prop :=
  ∀ (l : Nat) (J Jx : List α → World → Prop) (W : World), Below w.heap.size w W → Stab row J → Stab row Jx →
    (∀ pre x rest W1, L = pre ++ x :: rest → J pre W1 → YieldAt Fence.wide 0 P l (encs x) W1 fun e W' =>
      (e = .returned (.bool true) ∧ J (pre ++ [x]) W' ∧ Kp W1 W') ∨ (e = .returned (.bool false) ∧ Jx (pre ++ [x]) W')) →
    J [] W →
    CallsIn Fence.wide 0 P g (#[.func (.yield l) #[] #[]] ++ lb) W fun e W' => (∃ v, e = .returned v) ∧ (J L W' ∨ ∃ pre x rest, L = pre ++ x :: rest ∧ Jx (pre ++ [x]) W')

variable {P : Program}

theorem grown_same {A B : World} {row : Option Nat} (h : A.grownBy B row) {k : Nat} {o : Obj} (hk : A.heap[k]? = some o) (hr : row ≠ some k) : B.heap[k]? = some o :=
  (h.block k (Array.getElem?_eq_some_iff.1 hk).1 (fun e => hr e.symm)).trans hk

/-- The statement 'for .. := range it': the iterator by its contract SeqL, the body walked once. -/
theorem wp_range {α : Type} {g : Operand} {ps : Array Tmp} {assign body : Code} {Q : Exit → Act → World → Prop} {a : Act} {w : World}
    {gf : Nat} {lb : Array Value} (hg : a.eval g = .func (.func gf) #[] lb) (eg : ∀ args w, (callFunc gf args).run P w = .ok (.enter gf args) w)
    {encs : α → Array Value} {Kp : World → World → Prop} {row : Option Nat} {L : List α} {w0 : World} (hseq : SeqL P gf lb encs Kp row L w0) (hb0 : Below w0.heap.size w0 w)
    (hrow : ∀ r, row = some r → r < w.heap.size) (hps : ∀ x, (encs x).size = ps.size)
    (hKt : ∀ {A B C : World}, Kp A B → Kp B C → Kp A C) (hKb : ∀ (W : World) (l : Nat) (o o' : Obj), w.heap.size ≤ l → W.heap[l]? = some o → o.isCells = false → o.isWalk = false → Kp W (W.putObj l o'))
    (I : List α → World → Prop) (Ix : Code → List α → World → Prop) (hI : OwnFrom w.heap.size I) (hIx : ∀ c, OwnFrom w.heap.size (Ix c)) (sI : Stab row I) (sIx : ∀ c, Stab row (Ix c))
    (h0 : I [] w) (a₁ : α → Act)
    (hassign : ∀ (l : Nat) (x : α) (W : World) (K : Act → World → Prop), K (a₁ x) W →
      assign.wpIn (Fence.wide.inRound l) 0 P (Exit.then K (fun _ _ _ => False)) { tmps := (ps.zip (encs x)).foldl (fun t (p, v) => t.setIfInBounds p v) a.tmps, defers := [] } W)
    (hbody : ∀ (l : Nat) (pre : List α) (x : α) (rest : List α) (W : World), L = pre ++ x :: rest → I pre W → body.wpIn (Fence.wide.inRound l) 0 P (ownPostK Kp I Ix (pre ++ [x]) W) (a₁ x) W)
    (hdone : ∀ (D : Nat) (W : World), w.heap.size ≤ D → I L W → W.heap[D]? = some (.deferred (some [])) → Q .normal { a with defers := { target := .collected D, args := #[] } :: a.defers } W)
    (hstop : ∀ (D : Nat) (c : Code) (pre : List α) (x : α) (rest : List α) (W : World), w.heap.size ≤ D → L = pre ++ x :: rest → Ix c (pre ++ [x]) W → W.heap[D]? = some (.deferred (some [])) → c.wpIn Fence.wide 0 P Q { a with defers := { target := .collected D, args := #[] } :: a.defers } W) :
    (Code.rangeFunc g ps assign body).wpIn Fence.wide 0 P Q a w := by
  refine wpIn_rangeFunc fun fn hfn => ?_
  -- the loop's record in each of its states, and the world with both blocks of book-keeping
  let rec' : LoopState → Option Code → Loop := fun st pe => { state := st, pending := pe, fn, tmps := a.tmps, params := ps, assign, body, defers := w.heap.size }
  obtain ⟨R, hR⟩ : ∃ R, R = rec' := ⟨_, rfl⟩
  obtain ⟨W1, hW1⟩ : ∃ W1, (w.alloc (.deferred (some []))).alloc (.loop (R .ready none)) = W1 := ⟨_, rfl⟩
  have hs1 : W1.heap.size = w.heap.size + 2 := by rw [← hW1]; simp
  have loop1 : W1.heap[w.heap.size + 1]? = some (.loop (R .ready none)) := by
    rw [← hW1]
    have := World.alloc_heap_new (w.alloc (.deferred (some []))) (.loop (R .ready none))
    rwa [World.size_alloc] at this
  have def1 : W1.heap[w.heap.size]? = some (.deferred (some [])) := by
    rw [← hW1]
    exact (Below.heap_alloc _ _ _ (by simp)).trans (World.alloc_heap_new w _)
  have inv1 : I [] W1 := by rw [← hW1]; exact hI.alloc _ (hI.alloc _ h0)
  have below1 : Below w0.heap.size w0 W1 := by
    rw [← hW1]
    exact hb0.trans ((((Below.refl _ w).alloc (Nat.le_refl _) _).alloc (by simp) _).mono hb0.size)
  have far : ∀ k, w.heap.size ≤ k → row ≠ some k := fun k hk e => by have := hrow k e; omega
  refine ⟨w.heap.size + 1, [{ target := .collected w.heap.size, args := #[] }], W1, { target := .fn (.func gf) lb, args := #[.func (.yield (w.heap.size + 1)) #[] #[]] }, W1, gf,
    #[.func (.yield (w.heap.size + 1)) #[] #[]] ++ lb, W1, ?_, ?_, fun _ _ => trivial, ?_, fun h => by simp [Fence.wide] at h, ?_⟩
  · rw [← hW1, hR]; exact run_enterLoop_outer _ _ _ _ _
  · simp only [resolve, hg]
    simp [go_sem]
  · simp [invoke, go_sem, eg]
  refine (hseq (w.heap.size + 1)
    (fun pre W => I pre W ∧ W.heap[w.heap.size + 1]? = some (.loop (R .ready none)) ∧ W.heap[w.heap.size]? = some (.deferred (some [])))
    (fun pre W => ∃ c, Ix c pre W ∧ W.heap[w.heap.size + 1]? = some (.loop (R .done (some c))) ∧ W.heap[w.heap.size]? = some (.deferred (some [])))
    W1 below1
    (fun s A B h hg' => ⟨sI s A B h.1 hg', grown_same hg' h.2.1 (far _ (by omega)), grown_same hg' h.2.2 (far _ (Nat.le_refl _))⟩)
    (fun s A B h hg' => by
      obtain ⟨c, hc, hl, hk⟩ := h
      exact ⟨c, sIx c s A B hc hg', grown_same hg' hl (far _ (by omega)), grown_same hg' hk (far _ (Nat.le_refl _))⟩)
    ?_ ⟨inv1, loop1, def1⟩).mono ?_
  · -- one round
    rintro pre x rest W hL ⟨hi, hl, hk⟩
    have hlt : w.heap.size + 1 < W.heap.size := (Array.getElem?_eq_some_iff.1 hl).1
    have hy := run_yield (P := P) (args := encs x) hl (by rw [hR]; exact hps x)
    rw [hR] at hy
    refine ⟨fn, _, assign, body, hy, roundIn_of_wpIn hfn (hassign _ x W _ ⟨_, run_beginRound hl (by rw [hR]), ?_⟩)⟩
    obtain ⟨V, hV⟩ : ∃ V, W.putObj (w.heap.size + 1) (.loop { R .ready none with state := .busy }) = V := ⟨_, rfl⟩
    have vl : V.heap[w.heap.size + 1]? = some (.loop { R .ready none with state := .busy }) := by rw [← hV]; exact World.putObj_heap_same hlt
    have vk : V.heap[w.heap.size]? = some (.deferred (some [])) := by rw [← hV]; exact (World.putObj_heap_other (by omega)).trans hk
    have vK : Kp W V := by rw [← hV]; exact hKb _ _ _ _ (by omega) hl rfl rfl
    have vI : I pre V := by rw [← hV]; exact hI.putObj _ hi (by omega) hl rfl
    rw [hV]
    -- the round's end, by whichever way
    have fin : ∀ (jump : Option Code) (U : World), KeepsOthers V U → ∃ Z, (Instr.endRound (w.heap.size + 1) jump).run P U = .ok (.bool jump.isNone) Z ∧
        Z = U.putObj (w.heap.size + 1) (.loop (R (if jump.isNone then .ready else .done) jump)) ∧
        U.heap[w.heap.size + 1]? = some (.loop { R .ready none with state := .busy }) ∧
        Z.heap[w.heap.size + 1]? = some (.loop (R (if jump.isNone then .ready else .done) jump)) ∧ Z.heap[w.heap.size]? = some (.deferred (some [])) := fun jump U hU => by
      have ul := hU.same _ _ vl rfl
      have hr := run_endRound (P := P) jump ul
      rw [hR] at hr ul ⊢
      exact ⟨_, hr, rfl, ul, World.putObj_heap_same (Array.getElem?_eq_some_iff.1 ul).1, (World.putObj_heap_other (by omega)).trans (hU.same _ _ vk rfl)⟩
    refine wpIn_mono (hbody _ pre x rest V hL vI) ?_
    have stop : ∀ (c : Code) (U : World), KeepsOthers V U → Ix c (pre ++ [x]) U → ∃ v Z, (Instr.endRound (w.heap.size + 1) (some c)).run P U = .ok v Z ∧
        ((Ending.returned v = .returned (.bool true) ∧ (I (pre ++ [x]) Z ∧ Z.heap[w.heap.size + 1]? = some (.loop (R .ready none)) ∧ Z.heap[w.heap.size]? = some (.deferred (some []))) ∧ Kp W Z) ∨
          (Ending.returned v = .returned (.bool false) ∧ ∃ c, Ix c (pre ++ [x]) Z ∧ Z.heap[w.heap.size + 1]? = some (.loop (R .done (some c))) ∧ Z.heap[w.heap.size]? = some (.deferred (some [])))) := fun c U hU hx => by
      obtain ⟨Z, hr, hZ, ul, zl, zk⟩ := fin (some c) U hU
      exact ⟨_, Z, hr, .inr ⟨rfl, c, by rw [hZ]; exact (hIx c).putObj _ hx (by omega) ul rfl, zl, zk⟩⟩
    rintro e a3 U hp
    cases e with
    | normal =>
      obtain ⟨hU, kU, iU⟩ := hp
      obtain ⟨Z, hr, hZ, ul, zl, zk⟩ := fin none U hU
      exact ⟨_, Z, hr, .inl ⟨rfl, ⟨by rw [hZ]; exact hI.putObj _ iU (by omega) ul rfl, zl, zk⟩, hKt (hKt vK kU) (by rw [hZ]; exact hKb _ _ _ _ (by omega) ul rfl rfl)⟩⟩
    | ret => exact stop .ret U hp.1 hp.2
    | exit id => exact stop (.exit id) U hp.1 hp.2
    | goto t => exact stop (.goto t) U hp.1 hp.2
    | panic ch => exact hp.elim
    | outgrown => exact hp.elim
  · -- behind the iterator
    rintro e W2 ⟨⟨v, rfl⟩, ⟨hi, hl, hk⟩ | ⟨pre, x, rest, hL, c, hi, hl, hk⟩⟩
    · refine ⟨none, _, by have := run_endLoop (P := P) hl (by rw [hR]; simp [rec']); rw [hR] at this; exact this, ?_⟩
      exact hdone _ _ (Nat.le_refl _) (hI.putObj _ hi (by omega) hl rfl) ((World.putObj_heap_other (by omega)).trans hk)
    · refine ⟨some c, _, by have := run_endLoop (P := P) hl (by rw [hR]; simp [rec']); rw [hR] at this; exact this, ?_⟩
      exact hstop _ c pre x rest _ (Nat.le_refl _) hL ((hIx c).putObj _ hi (by omega) hl rfl) ((World.putObj_heap_other (by omega)).trans hk)

/-! ### Regions that draw their order, in a round's frame -/

/-- No operation is a 'defer' statement. -/
def noDefer (ops : Array Oper) : Bool := ops.all fun o => match o.op with | .defer _ => false | _ => true

theorem noDefer_spec {ops : Array Oper} (h : noDefer ops = true) {i : Nat} {o : Oper} (ho : ops[i]? = some o) : ∀ c, o.op ≠ .defer c := by
  intro c hc
  have h1 := (Array.all_eq_true.1 h) i (Array.getElem?_eq_some_iff.1 ho).1
  rw [(Array.getElem?_eq_some_iff.1 ho).2] at h1
  simp [hc] at h1

theorem round_op {o : Oper} {a : Act} {C : World → Prop} {K : Act → Prop} {K' : Act → World → Prop} {Q' : Exit → Act → World → Prop} {w : World} {l : Nat} (hnd : ∀ c, o.op ≠ .defer c) (hw : C w)
    (h : ∀ a w', C w' → K a → K' a w') (hh : o.quiet P a C K) : o.wpIn (Fence.wide.inRound l) 0 P a w K' Q' := by
  obtain ⟨v, h1, h2⟩ := hh
  refine ⟨fun _ _ => trivial, ?_⟩
  rw [Oper.semAt_eq _ _ _ hnd]
  have h3 := h1 w hw
  unfold Oper.quietAt at h3
  generalize (execOp a.eval o).run P w = r at *
  cases r with
  | halt x w' => simp only [Oper.quietUpon] at h3
  | ok n w' =>
    cases n <;> simp only [Oper.quietUpon] at h3 <;> simp only [Oper.uponIn]
    case value u => rw [h3.1, h3.2]; exact h _ _ hw h2
    case skip => rw [h3.1, ← h3.2]; exact h _ _ hw h2
    case enter f args =>
      rw [h3.1]
      refine ⟨fun e => by simp [Fence.wide] at e, CallsIn.inRound l (callsIn_wide.2 (h3.2.mono ?_))⟩
      rintro e w'' ⟨rfl, hw''⟩
      exact h _ _ hw'' h2

theorem round_any {ops : Array Oper} {md : Region.Mode} {C : World → Prop} {Q : Act → Prop} {Q' : Exit → Act → World → Prop} {l : Nat} (hnd : noDefer ops = true) (hQ : ∀ a w, C w → Q a → Q' .normal a w) :
    ∀ (fuel : Nat) (listed : Array Bool) (a : Act) (w : World), C w → wpAnyQ P md ops C Q fuel listed a → wpAnyIn (Fence.wide.inRound l) 0 P md ops Q' fuel listed a w
  | 0, _, _, _, hw, h => ⟨h.1, hQ _ _ hw h.2⟩
  | fuel + 1, listed, a, w, hw, h => ⟨fun h0 => hQ _ _ hw (h.1 h0), fun i hi => by
    have h1 := h.2 i hi
    unfold qOp at h1
    unfold wpOpIn
    split
    · rename_i ho
      simp only [ho] at h1
      exact round_any hnd hQ fuel _ _ _ hw h1
    · rename_i o ho
      simp only [ho] at h1
      split
      · rename_i hx
        simp only [hx, if_true] at h1
        exact round_op (noDefer_spec hnd ho) hw (fun a' w' hw' hk => round_any hnd hQ fuel _ a' w' hw' hk) h1
      · rename_i hx
        simp only [hx] at h1
        exact ⟨fun _ _ => trivial, round_any hnd hQ fuel _ _ _ hw h1⟩⟩

/-- One walk of the lexical order serves every order, in a round's frame: all operations quiet in a class of worlds. -/
theorem round_quiet {id l : Nat} {Q : Exit → Act → World → Prop} {a : Act} {w : World} {os : List Oper} (C : World → Prop) (hnd : noDefer os.toArray = true) (hm : P.follows .mixedOrders = true) (hB : Region.lexB .any os.toArray = true) (hC : C w.drew)
    (h : wpQuiet P os.toArray C (fun a' => ∀ w', C w' → Q .normal a' w') os a) : (Code.region id os.toArray true).wpIn (Fence.wide.inRound l) 0 P Q a w := by
  simp only [Region.lexB, Bool.and_eq_true] at hB
  refine wpIn_region_any hm (round_any (C := C) (Q := fun a' => ∀ w', C w' → Q .normal a' w') hnd (fun _ w' hw' h => h w' hw') _ _ _ _ hC ?_)
  have := wpAnyQ_lex (C := C) (md := .any) hB.1 os 0 (Array.replicate os.toArray.size false) a (by simp) (by simpa using hB.2) h
  simpa using this

/-! ### A region whose first operations only read what S says, and whose others are forced one behind the other -/

/-- The head: each operation yields one value in every world that meets S. -/
def wpHead (P : Program) (ops : Array Oper) (S : World → Prop) (Q : Act → Prop) : List Oper → Act → Prop
  | [], a => Q a
  | o :: r, a => ∃ v, Region.wanted o (yielded ops a.tmps) = true ∧ (∀ w, S w → (execOp a.eval o).run P w = .ok (.value v) w) ∧ wpHead P ops S Q r (a.put o.dst v)

/-- The tail: behind each operation S holds anew. -/
def tailH (P : Program) (ops : Array Oper) (Q : Exit → Act → World → Prop) (S : World → Prop) : List Oper → Act → World → Prop
  | [], a, w => Q .normal a w
  | o :: r, a, w => Region.wanted o (yielded ops a.tmps) = true ∧ o.wp P a w (fun a' w' => S w' ∧ tailH P ops Q S r a' w') Q

def headB (md : Region.Mode) (ops : Array Oper) (g : Nat) : Nat → Nat → Array Bool → Bool
  | 0, k, listed => Region.seqB md ops g k listed
  | c + 1, k, listed => Region.free md ops listed k && (Region.ready md ops listed).contains k && headB md ops g c (k + 1) (listed.setIfInBounds k true)

theorem tailH_ok {ops : Array Oper} {md : Region.Mode} {Q : Exit → Act → World → Prop} {S : World → Prop} : ∀ (l : List Oper) (k : Nat) (listed : Array Bool) (a : Act) (w : World), (∀ j, j < l.length → ops[k + j]? = l[j]?) →
    Region.seqB md ops l.length k listed = true → tailH P ops Q S l a w → wpAnyH P md ops Q S l.length listed a w
  | [], _, listed, _, _, _, hB, h => ⟨by simpa [Region.seqB] using hB, h⟩
  | o :: r, k, listed, a, w, hl, hB, h => by
    simp only [List.length_cons, Region.seqB, Bool.and_eq_true, decide_eq_true_eq] at hB
    refine wpAnyH_all hB.1 (by simp) fun i hi => ?_
    obtain rfl : i = k := by simpa using hi
    have ho : ops[i]? = some o := by simpa using hl 0 (by simp)
    unfold wpOp
    simp only [ho, h.1, if_true]
    refine .inl (Oper.wp_mono (fun a' w' hn => ⟨hn.1, ?_⟩) h.2)
    exact tailH_ok r (i + 1) _ a' w' (fun j hj => by have := hl (j + 1) (by simp; omega); simpa [Nat.add_assoc, Nat.add_comm 1 j] using this) hB.2 hn.2

theorem head_ok {ops : Array Oper} {md : Region.Mode} {Q : Exit → Act → World → Prop} {S : World → Prop} {w : World} {l2 : List Oper} (hs : Region.noSelect ops = true) (hS : S w) (hP : ∀ c a d v w, Q (.panic c) (a.put d v) w → Q (.panic c) a w) :
    ∀ (l : List Oper) (k : Nat) (listed : Array Bool) (a : Act), (∀ j, j < l.length → ops[k + j]? = l[j]?) → (∀ j, j < l2.length → ops[k + l.length + j]? = l2[j]?) →
    headB md ops l2.length l.length k listed = true → wpHead P ops S (fun a' => tailH P ops Q S l2 a' w) l a → wpAnyH P md ops Q S (l.length + l2.length) listed a w
  | [], k, listed, a, _, h2, hB, h => by
    rw [List.length_nil, Nat.zero_add]
    exact tailH_ok l2 k listed a w (by simpa using h2) (by simpa [headB] using hB) h
  | o :: r, k, listed, a, h1, h2, hB, h => by
    simp only [List.length_cons, headB, Bool.and_eq_true] at hB
    obtain ⟨v, hw, hv, hr⟩ := h
    have ho : ops[k]? = some o := by simpa using h1 0 (by simp)
    rw [show (o :: r).length + l2.length = (r.length + l2.length) + 1 by simp; omega]
    refine wpAnyH_take ho hs hB.1.1 hB.1.2 (fun c a w => hP c a _ _ w) (.inl ⟨hw, hv⟩) hS ?_
    exact head_ok hs hS hP r (k + 1) _ _ (fun j hj => by have := h1 (j + 1) (by simp; omega); simpa [Nat.add_assoc, Nat.add_comm 1 j] using this)
      (fun j hj => by have := h2 j hj; rw [← this]; congr 1; simp; omega) hB.2 hr

theorem round_of_any {ops : Array Oper} {md : Region.Mode} {Q : Exit → Act → World → Prop} {l : Nat} (hnd : noDefer ops = true) (hQ : ¬ LetsOut Q) :
    ∀ (fuel : Nat) (listed : Array Bool) (a : Act) (w : World), wpAny P md ops Q fuel listed a w → wpAnyIn (Fence.wide.inRound l) 0 P md ops Q fuel listed a w
  | 0, _, _, _, h => h
  | fuel + 1, listed, a, w, h => ⟨h.1, fun i hi => by
    have h1 := h.2 i hi
    unfold wpOp at h1
    unfold wpOpIn
    split
    · rename_i ho
      simp only [ho] at h1
      exact round_of_any hnd hQ fuel _ _ _ h1
    · rename_i o ho
      simp only [ho] at h1
      split
      · rename_i hx
        simp only [hx, if_true] at h1
        rcases h1 with h1 | h1
        · refine ⟨fun _ _ => trivial, ?_⟩
          rw [Oper.semAt_eq _ _ _ (noDefer_spec hnd ho)]
          unfold Oper.wp at h1
          generalize (execOp a.eval o).run P w = r at *
          cases r with
          | halt x w' => cases x <;> first | exact h1 | exact (h1 : False).elim
          | ok nx w' =>
            cases nx <;> first | exact (h1 : False).elim | skip
            case value u => exact round_of_any hnd hQ fuel _ _ _ h1
            case skip => exact round_of_any hnd hQ fuel _ _ _ h1
            case defer d => exact round_of_any hnd hQ fuel _ _ _ h1
            case enter f args =>
              refine ⟨fun e => by simp [Fence.wide] at e, CallsIn.inRound l (callsIn_wide.2 (Calls.mono h1 ?_))⟩
              intro e w'' he
              cases e with
              | returned v => exact round_of_any hnd hQ fuel _ _ _ he
              | panicked c => exact he
              | outgrown => exact he
            case row row args =>
              refine ⟨fun e => by simp [Fence.wide] at e, fun c cs _ => ?_⟩
              obtain ⟨v, w'', hr, hs⟩ := h1 c cs
              exact ⟨v, w'', round_of_any hnd hQ fuel _ _ _ hr, stepsIn_wide.2 hs⟩
        · exact (hQ h1.2).elim
      · rename_i hx
        simp only [hx] at h1
        exact ⟨fun _ _ => trivial, round_of_any hnd hQ fuel _ _ _ h1⟩⟩

/-- The region in a round's frame: n operations of the head, the others of the tail. -/
theorem round_head_tail {id l : Nat} {Q : Exit → Act → World → Prop} {a : Act} {w : World} {os : List Oper} (n : Nat) (S : World → Prop) (hnd : noDefer os.toArray = true) (hm : P.follows .mixedOrders = true) (hs : Region.noSelect os.toArray = true)
    (hB : headB .any os.toArray (os.drop n).length (os.take n).length 0 (Array.replicate os.toArray.size false) = true) (hQ : ¬ LetsOut Q) (hP : ∀ c a d v w, Q (.panic c) (a.put d v) w → Q (.panic c) a w) (hS : S w.drew)
    (h : wpHead P os.toArray S (fun a' => tailH P os.toArray Q S (os.drop n) a' w.drew) (os.take n) a) : (Code.region id os.toArray true).wpIn (Fence.wide.inRound l) 0 P Q a w := by
  refine wpIn_region_any hm (round_of_any hnd hQ _ _ _ _ (wpAny_of_held (S := S) _ _ _ _ ?_))
  have hlen : os.toArray.size = (os.take n).length + (os.drop n).length := by rw [← List.length_append, List.take_append_drop]; rfl
  rw [hlen] at hB ⊢
  refine head_ok hs hS hP (os.take n) 0 _ a (fun j hj => ?_) (fun j hj => ?_) hB h
  · rw [List.getElem?_take]
    have : j < n := by have := hj; rw [List.length_take] at this; omega
    simp [this]
  · rw [List.getElem?_drop]
    by_cases hn : n ≤ os.length
    · simp [List.length_take, Nat.min_eq_left hn]
    · rw [List.length_drop] at hj; omega

/-! ### The same with the head picked by numbers, and one operation that floats -/

def setAll (listed : Array Bool) : List Nat → Array Bool
  | [] => listed
  | i :: r => setAll (listed.setIfInBounds i true) r

def takesB (md : Region.Mode) (ops : Array Oper) : List Nat → Array Bool → Bool
  | [], _ => true
  | i :: r, listed => Region.free md ops listed i && (Region.ready md ops listed).contains i && takesB md ops r (listed.setIfInBounds i true)

def wpHeadI (P : Program) (ops : Array Oper) (S : World → Prop) (Q : Act → Prop) : List Nat → Act → Prop
  | [], a => Q a
  | i :: r, a => ∃ o v, ops[i]? = some o ∧ Region.wanted o (yielded ops a.tmps) = true ∧ (∀ w, S w → (execOp a.eval o).run P w = .ok (.value v) w) ∧ wpHeadI P ops S Q r (a.put o.dst v)

theorem heads_ok {ops : Array Oper} {md : Region.Mode} {Q : Exit → Act → World → Prop} {S : World → Prop} {w : World} {f : Nat} (hs : Region.noSelect ops = true) (hS : S w) (hP : ∀ c a d v w, Q (.panic c) (a.put d v) w → Q (.panic c) a w) :
    ∀ (is : List Nat) (listed : Array Bool) (a : Act), takesB md ops is listed = true → wpHeadI P ops S (fun a' => wpAnyH P md ops Q S f (setAll listed is) a' w) is a → wpAnyH P md ops Q S (is.length + f) listed a w
  | [], listed, a, _, h => by simpa [setAll, wpHeadI] using h
  | i :: r, listed, a, hB, h => by
    simp only [takesB, Bool.and_eq_true] at hB
    obtain ⟨o, v, ho, hw, hv, hr⟩ := h
    rw [show (i :: r).length + f = (r.length + f) + 1 by simp; omega]
    exact wpAnyH_take ho hs hB.1.1 hB.1.2 (fun c a w => hP c a _ _ w) (.inl ⟨hw, hv⟩) hS (heads_ok hs hS hP r _ _ hB.2 hr)

/-- Either operation z, that only reads, or operation k comes next. -/
theorem float_two {ops : Array Oper} {md : Region.Mode} {Q : Exit → Act → World → Prop} {S : World → Prop} {w : World} {f z k : Nat} {listed : Array Bool} {a : Act} {oz o : Oper} {v : Value} (hr : Region.ready md ops listed = [z, k])
    (hz : ops[z]? = some oz) (ho : ops[k]? = some o) (hwz : Region.wanted oz (yielded ops a.tmps) = true) (hw : Region.wanted o (yielded ops a.tmps) = true) (hS : S w) (hv : (execOp a.eval oz).run P w = .ok (.value v) w)
    (h1 : wpAnyH P md ops Q S f (listed.setIfInBounds z true) (a.put oz.dst v) w) (h2 : o.wp P a w (fun a' w' => S w' ∧ wpAnyH P md ops Q S f (listed.setIfInBounds k true) a' w') Q) : wpAnyH P md ops Q S (f + 1) listed a w := by
  refine wpAnyH_all hr (by simp) fun i hi => ?_
  simp only [List.mem_cons, List.not_mem_nil, or_false] at hi
  unfold wpOp
  rcases hi with rfl | rfl
  · simp only [hz, hwz, if_true, Oper.wp, hv, Oper.upon]
    exact .inl ⟨hS, h1⟩
  · simp only [ho, hw, if_true]
    exact .inl h2

theorem float_one {ops : Array Oper} {md : Region.Mode} {Q : Exit → Act → World → Prop} {S : World → Prop} {w : World} {f z : Nat} {listed : Array Bool} {a : Act} {oz : Oper} {v : Value} (hr : Region.ready md ops listed = [z])
    (hz : ops[z]? = some oz) (hwz : Region.wanted oz (yielded ops a.tmps) = true) (hS : S w) (hv : (execOp a.eval oz).run P w = .ok (.value v) w)
    (h1 : wpAnyH P md ops Q S f (listed.setIfInBounds z true) (a.put oz.dst v) w) : wpAnyH P md ops Q S (f + 1) listed a w := by
  refine wpAnyH_all hr (by simp) fun i hi => ?_
  simp only [List.mem_cons, List.not_mem_nil, or_false] at hi
  subst hi
  unfold wpOp
  simp only [hz, hwz, if_true, Oper.wp, hv, Oper.upon]
  exact .inl ⟨hS, h1⟩

theorem tail_one {ops : Array Oper} {md : Region.Mode} {Q : Exit → Act → World → Prop} {S : World → Prop} {w : World} {f : Nat} (k : Nat) {listed : Array Bool} {a : Act} {o : Oper} (hr : Region.ready md ops listed = [k])
    (ho : ops[k]? = some o) (hw : Region.wanted o (yielded ops a.tmps) = true) (h : o.wp P a w (fun a' w' => S w' ∧ wpAnyH P md ops Q S f (listed.setIfInBounds k true) a' w') Q) : wpAnyH P md ops Q S (f + 1) listed a w := by
  refine wpAnyH_all hr (by simp) fun i hi => ?_
  simp only [List.mem_cons, List.not_mem_nil, or_false] at hi
  subst hi
  unfold wpOp
  simp only [ho, hw, if_true]
  exact .inl h

theorem round_held {id l : Nat} {Q : Exit → Act → World → Prop} {a : Act} {w : World} {os : List Oper} (S : World → Prop) (hnd : noDefer os.toArray = true) (hm : P.follows .mixedOrders = true) (hQ : ¬ LetsOut Q)
    (h : wpAnyH P .any os.toArray Q S os.length (Array.replicate os.length false) a w.drew) : (Code.region id os.toArray true).wpIn (Fence.wide.inRound l) 0 P Q a w :=
  wpIn_region_any hm (round_of_any hnd hQ _ _ _ _ (wpAny_of_held (S := S) _ _ _ _ h))

end Go.Proofs.Ytecjbgddjejjdaa
