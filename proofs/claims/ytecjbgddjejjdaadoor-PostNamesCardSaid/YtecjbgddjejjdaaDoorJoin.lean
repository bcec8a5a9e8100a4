/- pack.Join: its contract. -/
import Derived.Test.YtecjbgddjejjdaaDoorPlaces
import Derived.BigQuiet
import Derived.Deep.QuietTactic
import Derived.Laws.EntriesVeiled
namespace Go.Proofs.YtecjbgddjejjdaaDoor
open Go.RowKit Go.Shelf
attribute [local go_sem] Oper.semAt_some

set_option maxHeartbeats 400000 in
theorem places_any (n : Nat) (kb bl : Nat) (w : World) :
    Calls Tryd.prog 67 #[.int .i64 n, .func (.func kb) #[] #[.pointer (some ⟨bl, 0, none⟩)]] w fun e w' =>
      e = .returned (.func (.func 81) #[] #[.pointer (some ⟨w.heap.size, 0, none⟩), .pointer (some ⟨w.heap.size + 3, 0, none⟩), .pointer (some ⟨w.heap.size + 1, 0, none⟩)]) ∧
      (((w.alloc (.cells #[.int .i64 n] 3)).alloc (.cells #[.func (.func kb) #[] #[.pointer (some ⟨bl, 0, none⟩)]] 131)).alloc (.cells #[.int .i64 0] 3)).alloc (.cells #[.func (.func 79) #[] #[.pointer (some ⟨w.heap.size + 2, 0, none⟩)]] 131) = w' := by
  have hmf : ∀ (fn : Fn) (first cap : Array Value) (w : World), (Instr.makeFunc fn first cap).run Tryd.prog w = .ok (.func fn first cap) w := fun _ _ _ _ => rfl
  go_enter Tryd.func67, Tryd.ntmps67
  go_wp2
  go_ret
  exact ⟨rfl, rfl⟩

set_option maxHeartbeats 400000 in
theorem joinBits_any (i n cap b off bl : Nat) (f : Int) (w : World) (hi : i < n) (hc : w.cell? ⟨bl, 0, none⟩ = some (.slice (some ⟨b, off, none⟩) n cap)) (hf : w.cell? ⟨b, off + i * 2, none⟩ = some (.int .i64 f)) :
    Calls Tryd.prog 71 #[.int .i64 i, .pointer (some ⟨bl, 0, none⟩)] w fun e w' => e = .returned (.int .i64 f) ∧ w = w' := by
  go_enter Tryd.func71, Tryd.ntmps71
  go_wp2
  go_ret
  exact ⟨rfl, rfl⟩

/-- Where the fields lie: nothing is read of an empty list; else two cells an element. -/
def FieldsAt (w : World) (a : Option Addr) (n : Nat) (bs : Nat → Int) (vs : Nat → Nat) : Prop :=
  n = 0 ∨ ∃ b off, a = some ⟨b, off, none⟩ ∧ b < w.heap.size ∧ ∀ i, i < n → w.cell? ⟨b, off + i * 2, none⟩ = some (.int .i64 (bs i)) ∧ w.cell? ⟨b, off + i * 2 + 1, none⟩ = some (.int .u64 (vs i))

/-- Join's own variables between two rounds. -/
structure JoinW (w : World) (sl : Value) (x : Nat) (ok : Bool) (W : World) : Prop where
  below : Below w.heap.size w W
  lb : W.cell? ⟨w.heap.size, 0, none⟩ = some sl
  r0 : W.cell? ⟨w.heap.size + 1, 0, none⟩ = some (.int .u64 0)
  f0 : W.frozen? ⟨w.heap.size + 1, 0, none⟩ = false
  r1 : W.cell? ⟨w.heap.size + 1 + 1, 0, none⟩ = some (.int .i64 0)
  f1 : W.frozen? ⟨w.heap.size + 1 + 1, 0, none⟩ = false
  x0 : W.cell? ⟨w.heap.size + 1 + 1 + 1, 0, none⟩ = some (.int .u64 x)
  fx : W.frozen? ⟨w.heap.size + 1 + 1 + 1, 0, none⟩ = false
  ok0 : W.cell? ⟨w.heap.size + 1 + 1 + 1 + 1, 0, none⟩ = some (.bool ok)
  fo : W.frozen? ⟨w.heap.size + 1 + 1 + 1 + 1, 0, none⟩ = false

/-- Join's results, laid by a round that left. -/
structure JoinOut (w : World) (v : Nat) (e : Int) (W : World) : Prop where
  below : Below w.heap.size w W
  r0 : W.cell? ⟨w.heap.size + 1, 0, none⟩ = some (.int .u64 v)
  r1 : W.cell? ⟨w.heap.size + 1 + 1, 0, none⟩ = some (.int .i64 e)

theorem cell_same {A B : World} {row : Option Nat} {b : Nat} {v : Value} (h : A.cell? ⟨b, 0, none⟩ = some v) (hg : A.grownBy B row) (hr : row ≠ some b) : B.cell? ⟨b, 0, none⟩ = some v := by
  have hb : b < A.heap.size := by
    unfold World.cell? at h
    cases ho : A.heap[b]? with
    | none => simp [ho] at h
    | some o => exact (Array.getElem?_eq_some_iff.1 ho).1
  exact (World.cell?_of_block (a := ⟨b, 0, none⟩) (hg.block b hb (fun e => hr e.symm))).trans h
theorem free_same {A B : World} {row : Option Nat} {b : Nat} {v : Value} (h : A.cell? ⟨b, 0, none⟩ = some v) (hf : A.frozen? ⟨b, 0, none⟩ = false) (hg : A.grownBy B row) (hr : row ≠ some b) : B.frozen? ⟨b, 0, none⟩ = false := by
  have hb : b < A.heap.size := by
    unfold World.cell? at h
    cases ho : A.heap[b]? with
    | none => simp [ho] at h
    | some o => exact (Array.getElem?_eq_some_iff.1 ho).1
  exact (World.frozen?_of_block (a := ⟨b, 0, none⟩) (hg.block b hb (fun e => hr e.symm))).trans hf
theorem not_cells_ne {A : World} {row : Option Nat} {b : Nat} {v : Value} (h : A.cell? ⟨b, 0, none⟩ = some v) (hr : ∀ r, row = some r → ∃ o : Obj, A.heap[r]? = some o ∧ o.isCells = false) : row ≠ some b := by
  intro e
  obtain ⟨o, ho, hc⟩ := hr b e
  unfold World.cell? at h
  simp only [ho] at h
  cases o <;> simp_all [Obj.isCells]

theorem JoinW.grown {w : World} {sl : Value} {x : Nat} {ok : Bool} {A B : World} {row : Option Nat} (h : JoinW w sl x ok A) (hg : A.grownBy B row) (hlo : ∀ r, row = some r → w.heap.size ≤ r)
    (n0 : row ≠ some w.heap.size) (n1 : row ≠ some (w.heap.size + 1)) (n2 : row ≠ some (w.heap.size + 1 + 1)) (n3 : row ≠ some (w.heap.size + 1 + 1 + 1)) (n4 : row ≠ some (w.heap.size + 1 + 1 + 1 + 1)) : JoinW w sl x ok B :=
  ⟨h.below.grown hg h.below.size hlo, cell_same h.lb hg n0, cell_same h.r0 hg n1, free_same h.r0 h.f0 hg n1, cell_same h.r1 hg n2, free_same h.r1 h.f1 hg n2, cell_same h.x0 hg n3, free_same h.x0 h.fx hg n3, cell_same h.ok0 hg n4, free_same h.ok0 h.fo hg n4⟩
theorem JoinW.other {w : World} {sl : Value} {x : Nat} {ok : Bool} {A B : World} {row : Option Nat} (h : JoinW w sl x ok A) (hg : A.grownBy B row) {C : Nat} (hC : w.heap.size ≤ C) (hr : ∀ r, row = some r → C ≤ r ∧ ∃ o : Obj, A.heap[r]? = some o ∧ o.isCells = false) : JoinW w sl x ok B :=
  h.grown hg (fun r e => Nat.le_trans hC (hr r e).1) (not_cells_ne h.lb fun r e => (hr r e).2) (not_cells_ne h.r0 fun r e => (hr r e).2) (not_cells_ne h.r1 fun r e => (hr r e).2) (not_cells_ne h.x0 fun r e => (hr r e).2) (not_cells_ne h.ok0 fun r e => (hr r e).2)
theorem JoinW.drew {w : World} {sl : Value} {x : Nat} {ok : Bool} {A : World} (h : JoinW w sl x ok A) : JoinW w sl x ok A.drew := ⟨h.below.drew, h.lb, h.r0, h.f0, h.r1, h.f1, h.x0, h.fx, h.ok0, h.fo⟩
theorem JoinOut.grown {w : World} {x : Nat} {e : Int} {A B : World} {row : Option Nat} (h : JoinOut w x e A) (hg : A.grownBy B row) (hlo : ∀ r, row = some r → w.heap.size ≤ r)
    (n1 : row ≠ some (w.heap.size + 1)) (n2 : row ≠ some (w.heap.size + 1 + 1)) : JoinOut w x e B :=
  ⟨h.below.grown hg h.below.size hlo, cell_same h.r0 hg n1, cell_same h.r1 hg n2⟩
theorem JoinOut.other {w : World} {x : Nat} {e : Int} {A B : World} {row : Option Nat} (h : JoinOut w x e A) (hg : A.grownBy B row) {C : Nat} (hC : w.heap.size ≤ C) (hr : ∀ r, row = some r → C ≤ r ∧ ∃ o : Obj, A.heap[r]? = some o ∧ o.isCells = false) : JoinOut w x e B :=
  h.grown hg (fun r e => Nat.le_trans hC (hr r e).1) (not_cells_ne h.r0 fun r e => (hr r e).2) (not_cells_ne h.r1 fun r e => (hr r e).2)

/-- Two worlds that differ in their draws alone. -/
structure Twin (A B : World) : Prop where
  heap : B.heap = A.heap
  os : B.os = A.os
  tape : B.tape = A.tape
  output : B.output = A.output
theorem Twin.below {w A B : World} {n : Nat} (t : Twin A B) (h : Below n w A) : Below n w B := ⟨t.os.trans h.os, t.tape.trans h.tape, t.output.trans h.output, by rw [t.heap]; exact h.size, by rw [t.heap]; exact h.block⟩
theorem Twin.cell {A B : World} (t : Twin A B) (a : Addr) : B.cell? a = A.cell? a := World.cell?_of_block (by rw [t.heap])
theorem Twin.frozen {A B : World} (t : Twin A B) (a : Addr) : B.frozen? a = A.frozen? a := World.frozen?_of_block (by rw [t.heap])
theorem JoinW.twin {w : World} {sl : Value} {x : Nat} {ok : Bool} {A B : World} (h : JoinW w sl x ok A) (t : Twin A B) : JoinW w sl x ok B :=
  ⟨t.below h.below, (t.cell _).trans h.lb, (t.cell _).trans h.r0, (t.frozen _).trans h.f0, (t.cell _).trans h.r1, (t.frozen _).trans h.f1, (t.cell _).trans h.x0, (t.frozen _).trans h.fx, (t.cell _).trans h.ok0, (t.frozen _).trans h.fo⟩
theorem JoinW.setX {w : World} {sl : Value} {x : Nat} {ok : Bool} {A : World} (h : JoinW w sl x ok A) (y : Nat) : JoinW w sl y ok (A.setCell ⟨w.heap.size + 1 + 1 + 1, 0, none⟩ (.int .u64 y)) := by
  have c1 := h.lb; have c2 := h.r0; have c3 := h.f0; have c4 := h.r1; have c5 := h.f1; have c6 := h.x0; have c7 := h.fx; have c8 := h.ok0; have c9 := h.fo
  refine ⟨h.below.setCell (p := ⟨w.heap.size + 1 + 1 + 1, 0, none⟩) (by simp <;> omega) _, ?_, ?_, ?_, ?_, ?_, ?_, ?_, ?_, ?_⟩ <;> simp [go_sem, *]
theorem JoinW.setOk {w : World} {sl : Value} {x : Nat} {ok : Bool} {A : World} (h : JoinW w sl x ok A) (y : Bool) : JoinW w sl x y (A.setCell ⟨w.heap.size + 1 + 1 + 1 + 1, 0, none⟩ (.bool y)) := by
  have c1 := h.lb; have c2 := h.r0; have c3 := h.f0; have c4 := h.r1; have c5 := h.f1; have c6 := h.x0; have c7 := h.fx; have c8 := h.ok0; have c9 := h.fo
  refine ⟨h.below.setCell (p := ⟨w.heap.size + 1 + 1 + 1 + 1, 0, none⟩) (by simp <;> omega) _, ?_, ?_, ?_, ?_, ?_, ?_, ?_, ?_, ?_⟩ <;> simp [go_sem, *]
theorem KpB.set {ks : Nat → Prop} {A B : World} {b : Nat} {v : Value} (hb : ¬ ks b) (t : Twin (A.setCell ⟨b, 0, none⟩ v) B) : KpB ks A B :=
  ⟨by rw [t.heap]; simp [World.setCell], fun k hk => by rw [t.heap]; exact Below.heap_setCell A ⟨b, 0, none⟩ v k (fun e => hb (by have e' : k = b := e; exact e' ▸ hk))⟩
theorem others_twin {A B C : World} (h : KeepsOthers A B) (t : Twin B C) : KeepsOthers A C := ⟨by rw [t.heap]; exact h.size, by rw [t.heap]; exact h.same⟩

/-- The blocks that the iterator and the fields lean on. -/
def joinKs (w : World) (k : Nat) : Prop := k < w.heap.size ∨ k = w.heap.size ∨ (w.heap.size + 5 ≤ k ∧ k < w.heap.size + 9)

theorem ps2 (x : Int × Int) : (#[Value.int .i64 x.1, Value.int .i64 x.2] : Array Value).size = 2 := rfl

/-- The world in which Join's loop begins. -/
def joinStart (w : World) (a : Option Addr) (n cap : Nat) : World :=
  ((((((((w.alloc (.cells #[.slice a n cap] 115)).alloc (.cells #[.int .u64 0] 22)).alloc (.cells #[.int .i64 0] 32)).alloc (.cells #[.int .u64 0] 127)).alloc (.cells #[.bool true] 4)).alloc
    (.cells #[.int .i64 n] 3)).alloc (.cells #[.func (.func 71) #[] #[.pointer (some ⟨w.heap.size, 0, none⟩)]] 131)).alloc (.cells #[.int .i64 0] 3)).alloc
    (.cells #[.func (.func 79) #[] #[.pointer (some ⟨w.heap.size + 1 + 1 + 1 + 1 + 1 + 2, 0, none⟩)]] 131)

structure JoinS (w : World) (a : Option Addr) (n cap : Nat) (W : World) : Prop where
  size : W.heap.size = w.heap.size + 9
  j : JoinW w (.slice a n cap) 0 true W
  cm : W.cell? ⟨w.heap.size + 1 + 1 + 1 + 1 + 1, 0, none⟩ = some (.int .i64 n)
  cb : W.cell? ⟨w.heap.size + 1 + 1 + 1 + 1 + 1 + 1, 0, none⟩ = some (.func (.func 71) #[] #[.pointer (some ⟨w.heap.size, 0, none⟩)])
  ca : W.cell? ⟨w.heap.size + 1 + 1 + 1 + 1 + 1 + 2, 0, none⟩ = some (.int .i64 0)
  fa : W.frozen? ⟨w.heap.size + 1 + 1 + 1 + 1 + 1 + 2, 0, none⟩ = false
  cn : W.cell? ⟨w.heap.size + 1 + 1 + 1 + 1 + 1 + 3, 0, none⟩ = some (.func (.func 79) #[] #[.pointer (some ⟨w.heap.size + 1 + 1 + 1 + 1 + 1 + 2, 0, none⟩)])

set_option maxHeartbeats 1000000 in
theorem joinStart_facts (w : World) (a : Option Addr) (n cap : Nat) : JoinS w a n cap (joinStart w a n cap) := by
  unfold joinStart
  refine ⟨by simp, ⟨by (repeat (first | exact Below.refl _ _ | assumption | apply Below.drew | apply below_drewN | (refine Below.alloc ?_ (by simp <;> omega) _) | (refine Below.setCell ?_ (by simp <;> omega) _))), ?_, ?_, ?_, ?_, ?_, ?_, ?_, ?_, ?_⟩, ?_, ?_, ?_, ?_, ?_⟩
  all_goals simp [go_sem]

set_option maxHeartbeats 1000000 in
set_option maxRecDepth 100000 in
theorem Join_any (a : Option Addr) (n cap : Nat) (bs : Nat → Int) (vs : Nat → Nat) (w : World) (hn : n ≤ 9223372036854775807)
    (hlo : ∀ i, i < n → -9223372036854775808 ≤ bs i) (hhi : ∀ i, i < n → bs i ≤ 9223372036854775807) (hv : ∀ i, i < n → vs i < 18446744073709551616) (hF : FieldsAt w a n bs vs) :
    Calls Tryd.prog 54 #[.slice a n cap] w fun e w' => e = .returned (.tuple #[.int .u64 (joinV bs vs n), .int .i64 (joinE bs vs n)]) ∧ Below w.heap.size w w' := by
  refine (callsIn_wide (n := 0)).1 ?_
  have hmf : ∀ (fn : Fn) (first cap : Array Value) (w : World), (Instr.makeFunc fn first cap).run Tryd.prog w = .ok (.func fn first cap) w := fun _ _ _ _ => rfl
  refine callsIn_of_wp_marks Tryd.func54 rfl trivial ?_ rfl
  simp only [Tryd.ntmps54, List.size_toArray, List.length_cons, List.length_nil, Nat.reduceAdd, Nat.reduceSub, Array.replicate_succ, Array.replicate_zero, List.push_toArray, List.append_toArray, List.nil_append, List.cons_append]
  gi_wp2_with fail
  refine ⟨trivial, rfl, ?_⟩
  refine (callsIn_wide.2 (places_any n _ _ _)).mono ?_
  rintro e w' ⟨rfl, rfl⟩
  gi_wp2_with fail
  change Code.wpIn _ _ _ _ _ _ (joinStart w a n cap)
  have S := joinStart_facts w a n cap
  generalize joinStart w a n cap = W0 at *
  have hz := S.size
  have hbits : BitsAt Tryd.prog 71 w.heap.size (joinKs w) (w.heap.size + 1 + 1 + 1 + 1 + 1 + 2) n bs W0 := by
    intro i W hi hp
    rcases hF with rfl | ⟨b, off, rfl, hb, hc⟩
    · omega
    · refine joinBits_any i n cap b off w.heap.size (bs i) W hi ?_ ?_
      · exact (hp.cell (.inr (.inl rfl)) (by omega) 0).trans S.j.lb
      · exact ((hp.cell (.inl hb) (by omega) _).trans (S.j.below.cell (p := ⟨b, _, none⟩) hb)).trans (hc i hi).1
  refine wp_range (gf := 81) rfl (enters_of Tryd.func81 (by kernel_rfl) rfl)
    (pplaces_seq n bs (w.heap.size + 1 + 1 + 1 + 1 + 1) (w.heap.size + 1 + 1 + 1 + 1 + 1 + 2) (w.heap.size + 1 + 1 + 1 + 1 + 1 + 3) (w.heap.size + 1 + 1 + 1 + 1 + 1 + 1) 71 w.heap.size (joinKs w) W0 hn hlo hhi
      (.inr (.inr (by omega))) (.inr (.inr (by omega))) (.inr (.inr (by omega))) (.inr (.inr (by omega))) (by omega) (by omega) (by omega) (fun k hk => by unfold joinKs at hk; omega) S.cm S.ca S.fa S.cn S.cb (enters_of Tryd.func71 (by kernel_rfl) rfl) hbits)
    (Below.refl _ _) (fun r e => by cases e; omega) (fun _ => rfl)
    (fun h k => ⟨Nat.le_trans h.1 k.1, fun j hj => (k.2 j hj).trans (h.2 j hj)⟩)
    (fun W l o o' hl h _ _ => ⟨by simp, fun j hj => World.putObj_heap_other (by unfold joinKs at hj; omega)⟩)
    (fun pre W => roomN bs pre.length = true ∧ JoinW w (.slice a n cap) (accX bs vs pre.length) (accF bs vs pre.length) W)
    (fun c pre W => c = .ret ∧ roomN bs pre.length = false ∧ JoinOut w 0 2 W)
    (fun s A B row hs hg hr => ⟨hs.1, hs.2.other hg (by omega) hr⟩)
    (fun c s A B row hs hg hr => ⟨hs.1, hs.2.1, hs.2.2.other hg (by omega) hr⟩)
    (fun s A B hs hg => ⟨hs.1, hs.2.grown hg (fun r e => by cases e; omega) (by intro e; simp only [Option.some.injEq] at e; omega) (by intro e; simp only [Option.some.injEq] at e; omega) (by intro e; simp only [Option.some.injEq] at e; omega) (by intro e; simp only [Option.some.injEq] at e; omega) (by intro e; simp only [Option.some.injEq] at e; omega)⟩)
    (fun c s A B hs hg => ⟨hs.1, hs.2.1, hs.2.2.grown hg (fun r e => by cases e; omega) (by intro e; simp only [Option.some.injEq] at e; omega) (by intro e; simp only [Option.some.injEq] at e; omega)⟩)
    ⟨rfl, S.j⟩
    (fun x => { tmps := #[.slice a n cap, .pointer (some ⟨w.heap.size, 0, none⟩), .pointer (some ⟨w.heap.size + 1, 0, none⟩), .pointer (some ⟨w.heap.size + 1 + 1, 0, none⟩), .pointer (some ⟨w.heap.size + 1 + 1 + 1, 0, none⟩), .pointer (some ⟨w.heap.size + 1 + 1 + 1 + 1, 0, none⟩), .int .i64 x.1, .int .i64 x.2, .agg #[.int .u64 0], .slice a n cap, .int .i64 n, .func (.func 71) #[] #[.pointer (some ⟨w.heap.size, 0, none⟩)], .func (.func 81) #[] #[.pointer (some ⟨w.heap.size + 1 + 1 + 1 + 1 + 1, 0, none⟩), .pointer (some ⟨w.heap.size + 1 + 1 + 1 + 1 + 1 + 3, 0, none⟩), .pointer (some ⟨w.heap.size + 1 + 1 + 1 + 1 + 1 + 1, 0, none⟩)], .int .i64 x.1, .int .i64 x.2, undef, undef, undef, undef, undef, undef, undef, undef, undef, undef, undef, undef, undef, undef, undef, undef, undef, undef, undef, undef, undef, undef, undef, undef, undef, undef, undef, undef, undef, undef], defers := [] }) ?assign ?body ?done ?stop
  case assign =>
    intro l x W K hK
    gi_wp2
    exact hK
  case body =>
    rintro l pre ⟨x1, x2⟩ rest W hL ⟨hr, hj⟩
    obtain ⟨hlen, hx1, _, hx⟩ := placesFrom_at (bs := bs) n 0 pre (x1, x2) rest rfl hL
    simp only [Nat.zero_add] at hx1 hx
    subst hx1
    generalize hi : pre.length = i at *
    have hpre : ∀ z, (pre ++ [z]).length = i + 1 := fun z => by simp [hi]
    rcases hx with ⟨hm, rfl⟩ | ⟨hm, rfl, rfl⟩
    · obtain ⟨b, off, rfl, hb, hc⟩ : ∃ b off, a = some ⟨b, off, none⟩ ∧ b < w.heap.size ∧ ∀ i, i < n → w.cell? ⟨b, off + i * 2, none⟩ = some (.int .i64 (bs i)) ∧ w.cell? ⟨b, off + i * 2 + 1, none⟩ = some (.int .u64 (vs i)) := by
        rcases hF with rfl | h
        · omega
        · exact h
      have hr1 : roomN bs (i + 1) = true := by simp [roomN, hr, hm]
      obtain ⟨m1, m2, m3, m4⟩ := (mayB_iff _ _).1 hm
      have d0 := (hj.below.cell (p := ⟨b, off + i * 2, none⟩) hb).trans (hc i hlen).1
      have d1 := (hj.below.cell (p := ⟨b, off + i * 2 + 1, none⟩) hb).trans (hc i hlen).2
      have hx := accX_lt (vs := vs) hr
      have hvi := hv i hlen
      have dl := hj.lb
      have hbel := hj.below
      have c3 := hj.x0
      have g3 := hj.fx
      have c4 := hj.ok0
      have g4 := hj.fo
      obtain ⟨p, hp⟩ := Int.eq_ofNat_of_zero_le m3
      obtain ⟨q, hq⟩ := Int.eq_ofNat_of_zero_le (show 0 ≤ bs i by omega)
      have HJ := Lib.hid hj; clear hj
      have HX : accX bs vs (i + 1) = if fitB (vs i) (bs i) then withN (accX bs vs i) p q (vs i) else accX bs vs i := by simp [accX, hp, hq]
      have HO : accF bs vs (i + 1) = (accF bs vs i && fitB (vs i) (bs i)) := rfl
      have hpq : p + q ≤ 64 := by omega
      have hq1 : 1 ≤ q := by omega
      rw [hq] at d0 HX HO
      rw [hp]
      generalize accX bs vs i = x at *
      generalize accF bs vs i = ok at *
      generalize vs i = v at *
      have HX' := Lib.hid HX; clear HX
      have HO' := Lib.hid HO; clear HO
      have Hq := Lib.hid hq; clear hq
      have Hp := Lib.hid hp; clear hp
      have Hi := Lib.hid hi; clear hi
      have Hpre := Lib.hid hpre; clear hpre
      have HL := Lib.hid hL; clear hL
      clear m1 m2 m3 m4 hm hc hlo hhi hv hF hbits S hz
      gi_wp2_with fail
      refine round_quiet (fun w' => ∃ m, w' = W.drewN m) (by kernel_rfl) (by kernel_rfl) (by kernel_rfl) ⟨1, rfl⟩ ?_
      repeat (any_goals (first | go_big_quiet_step ((go_at_call 72; exact Calls.quiet_of_same (mask_quiet _ _ (by omega)))) | quiet_step ((go_at_call 72; exact Calls.quiet_of_same (mask_quiet _ _ (by omega))))))
      refine wpQuiet_nil ?_
      rintro _ ⟨nq, rfl⟩
      by_cases hfit : v ≤ maskN q
      · have hgt : ¬ (maskN q : Int) < (v : Int) := by omega
        gi_wp2_with fail
        refine round_head_tail 11 (fun V => V.cell? ⟨w.heap.size, 0, none⟩ = some (.slice (some ⟨b, off, none⟩) n cap) ∧ V.cell? ⟨b, off + i * 2, none⟩ = some (.int .i64 q) ∧ V.cell? ⟨b, off + i * 2 + 1, none⟩ = some (.int .u64 v))
          (by kernel_rfl) (by kernel_rfl) (by kernel_rfl) (by kernel_rfl) (fun ⟨_, _, h⟩ => h) (fun _ _ _ _ _ h => h) (by simp [go_sem, dl, d0, d1]) ?_
        simp only [List.take_succ_cons, List.take_zero, List.drop_succ_cons, List.drop_zero]
        iterate 11
          apply Exists.intro
          refine ⟨by rfl, fun V hV => ?_, ?_⟩
          · obtain ⟨e1, e2, e3⟩ := hV
            go_simp
            try with_reducible rfl
          try simp only [Act.put, List.setIfInBounds_toArray, List.set_cons_zero, List.set_cons_succ]
        refine ⟨by rfl, ?_⟩
        go_simp
        refine (put_any x p q v _ _ (by simpa using c3) (by simpa using g3) hx (by omega) (by omega) hpq hfit).mono ?_
        rintro e w' ⟨rfl, rfl⟩
        refine ⟨by simp [go_sem, dl, d0, d1], ?_⟩
        have hz3 := HJ.out.setX (withN x p q v)
        have t : Twin (W.setCell ⟨w.heap.size + 1 + 1 + 1, 0, none⟩ (.int .u64 (withN x p q v))) ((W.drewN (nq + 1)).setCell ⟨w.heap.size + 1 + 1 + 1, 0, none⟩ (.int .u64 (withN x p q v))).drew := ⟨rfl, rfl, rfl, rfl⟩
        have hf2 : fitB v q = true := by simpa [fitB] using hfit
        refine (show _ ∧ _ ∧ _ from ⟨others_twin (KeepsOthers.setCell _ _ _) t, KpB.set (by unfold joinKs; omega) t, ?_, ?_⟩)
        · rw [Hpre.out]; exact hr1
        · rw [Hpre.out, HX'.out, HO'.out, hf2, if_pos rfl, Bool.and_true]
          exact hz3.twin t
      · have hgt : (maskN q : Int) < (v : Int) := by omega
        gi_wp2_with fail
        have hz3 := HJ.out.setOk false
        have t : Twin (W.setCell ⟨w.heap.size + 1 + 1 + 1 + 1, 0, none⟩ (.bool false)) ((W.drewN nq).setCell ⟨w.heap.size + 1 + 1 + 1 + 1, 0, none⟩ (.bool false)) := ⟨rfl, rfl, rfl, rfl⟩
        have hf2 : fitB v q = false := by simpa [fitB] using hfit
        refine (show _ ∧ _ ∧ _ from ⟨others_twin (KeepsOthers.setCell _ _ _) t, KpB.set (by unfold joinKs; omega) t, ?_, ?_⟩)
        · rw [Hpre.out]; exact hr1
        · rw [Hpre.out, HX'.out, HO'.out, hf2, if_neg (by simp), Bool.and_false]
          exact hz3.twin t
    · have c0 := hj.r0
      have c1 := hj.r1
      have g0 := hj.f0
      have g1 := hj.f1
      gi_wp2
      refine ⟨(KeepsOthers.setCell _ _ _).trans (KeepsOthers.setCell _ _ _), rfl, ?_, ⟨((hj.below.setCell (p := ⟨w.heap.size + 1, 0, none⟩) (by simp) _).setCell (p := ⟨w.heap.size + 1 + 1, 0, none⟩) (by simp <;> omega) _), ?_, ?_⟩⟩
      · rw [hpre]
        simp [roomN, hm]
      · simp [go_sem, c0]
      · simp [go_sem, c1]
  case done =>
    rintro D W hD ⟨hr, hj⟩ hK
    have hlen := placesFrom_len (bs := bs) n 0 rfl (by rw [Nat.zero_add]; exact hr)
    change (placesFrom bs n 0 0).length = n at hlen
    rw [hlen] at hr hj
    have hne : ∀ k, k < 9 → w.heap.size + k ≠ D := fun k hk => by omega
    have c0 := hj.r0
    have c1 := hj.r1
    have g0 := hj.f0
    have g1 := hj.f1
    have c3 := hj.x0
    have c4 := hj.ok0
    have hb := hj.below
    cases ho : accF bs vs n with
    | true =>
      rw [ho] at c4
      have E1 := Lib.hid (show joinV bs vs n = accX bs vs n by simp [joinV, hr, ho])
      have E2 := Lib.hid (show joinE bs vs n = 0 by simp [joinE, hr, ho])
      generalize accX bs vs n = x at *
      have hO : JoinOut w x 0 ((W.setCell ⟨w.heap.size + 1, 0, none⟩ (.int .u64 x)).setCell ⟨w.heap.size + 1 + 1, 0, none⟩ (.int .i64 0)) :=
        ⟨(hb.setCell (p := ⟨w.heap.size + 1, 0, none⟩) (by simp) _).setCell (p := ⟨w.heap.size + 1 + 1, 0, none⟩) (by simp <;> omega) _, by simp [go_sem, c0], by simp [go_sem, c1]⟩
      gi_wp2
      generalize hU : (W.setCell ⟨w.heap.size + 1, 0, none⟩ (.int .u64 x)).setCell ⟨w.heap.size + 1 + 1, 0, none⟩ (.int .i64 0) = U at *
      have hK' : U.heap[D]? = some (.deferred (some [])) := by rw [← hU]; exact ((KeepsOthers.setCell _ _ _).trans (KeepsOthers.setCell _ _ _)).same D _ hK rfl
      refine ⟨by simp, .inl ⟨_, _, rfl, run_takeDeferred hK', ?_⟩⟩
      have hO2 := hO.grown (grownBy_putObj' U D (.deferred none)) (fun r e => by cases e; omega) (by intro e; simp only [Option.some.injEq] at e; omega) (by intro e; simp only [Option.some.injEq] at e; omega)
      have q0 := hO2.r0
      have q1 := hO2.r1
      refine ⟨.tuple #[.int .u64 x, .int .i64 0], ?_, by rw [E1.out, E2.out] <;> rfl, hO2.below⟩
      simp [results, Tryd.f54, go_sem, q0, q1]
    | false =>
      rw [ho] at c4
      have E1 := Lib.hid (show joinV bs vs n = 0 by simp [joinV, hr, ho])
      have E2 := Lib.hid (show joinE bs vs n = 10 by simp [joinE, hr, ho])
      have hO : JoinOut w 0 10 ((W.setCell ⟨w.heap.size + 1, 0, none⟩ (.int .u64 0)).setCell ⟨w.heap.size + 1 + 1, 0, none⟩ (.int .i64 10)) :=
        ⟨(hb.setCell (p := ⟨w.heap.size + 1, 0, none⟩) (by simp) _).setCell (p := ⟨w.heap.size + 1 + 1, 0, none⟩) (by simp <;> omega) _, by simp [go_sem, c0], by simp [go_sem, c1]⟩
      gi_wp2
      generalize hU : (W.setCell ⟨w.heap.size + 1, 0, none⟩ (.int .u64 0)).setCell ⟨w.heap.size + 1 + 1, 0, none⟩ (.int .i64 10) = U at *
      have hK' : U.heap[D]? = some (.deferred (some [])) := by rw [← hU]; exact ((KeepsOthers.setCell _ _ _).trans (KeepsOthers.setCell _ _ _)).same D _ hK rfl
      refine ⟨by simp, .inl ⟨_, _, rfl, run_takeDeferred hK', ?_⟩⟩
      have hO2 := hO.grown (grownBy_putObj' U D (.deferred none)) (fun r e => by cases e; omega) (by intro e; simp only [Option.some.injEq] at e; omega) (by intro e; simp only [Option.some.injEq] at e; omega)
      have q0 := hO2.r0
      have q1 := hO2.r1
      refine ⟨.tuple #[.int .u64 0, .int .i64 10], ?_, by rw [E1.out, E2.out] <;> rfl, hO2.below⟩
      simp [results, Tryd.f54, go_sem, q0, q1]
  case stop =>
    rintro D c pre x rest W hD hL ⟨rfl, hr, hO⟩ hK
    obtain ⟨hlen, _, _, _⟩ := placesFrom_at (bs := bs) n 0 pre x rest rfl hL
    have hrn : roomN bs n = false := by
      cases hh : roomN bs n with
      | false => rfl
      | true => rw [roomN_lo hh (show (pre ++ [x]).length ≤ n by simp; omega)] at hr; cases hr
    have E1 := Lib.hid (show joinV bs vs n = 0 by simp [joinV, hrn])
    have E2 := Lib.hid (show joinE bs vs n = 2 by simp [joinE, hrn])
    gi_wp2
    refine ⟨by simp, .inl ⟨_, _, rfl, run_takeDeferred hK, ?_⟩⟩
    have hO2 := hO.grown (grownBy_putObj' W D (.deferred none)) (fun r e => by cases e; omega) (by intro e; simp only [Option.some.injEq] at e; omega) (by intro e; simp only [Option.some.injEq] at e; omega)
    have q0 := hO2.r0
    have q1 := hO2.r1
    refine ⟨.tuple #[.int .u64 0, .int .i64 2], ?_, by rw [E1.out, E2.out] <;> rfl, hO2.below⟩
    simp [results, Tryd.f54, go_sem, q0, q1]

end Go.Proofs.YtecjbgddjejjdaaDoor
