/- pack.Split: its contract. -/
import Derived.Test.YtecjbgddjejjdaaDoorJoin
import Derived.Laws.AppendOwn
import Derived.Laws.OwnMore
import Derived.OwnWalk
namespace Go.Proofs.YtecjbgddjejjdaaDoor
open Go.RowKit Go.Shelf
attribute [local go_sem] Oper.semAt_some

theorem info64 : (Tryd.prog.info? 22).map (fun i => (i.zero, i.size, i.bytes)) = some (some (.int .u64 0), 1, 8) := by kernel_rfl

/-- Numbers as values. -/
def u64s (xs : List Nat) : List Value := xs.map fun (n : Nat) => Value.int .u64 (n : Int)
theorem u64s_len (xs : List Nat) : (u64s xs).length = xs.length := by simp [u64s]
theorem u64s_snoc (xs : List Nat) (x : Nat) : u64s (xs ++ [x]) = u64s xs ++ [.int .u64 (x : Int)] := by simp [u64s]

/-- Where a list of ints lies. -/
def IntsAt (w : World) (a : Option Addr) (n : Nat) (bs : Nat → Int) : Prop :=
  n = 0 ∨ ∃ b off, a = some ⟨b, off, none⟩ ∧ b < w.heap.size ∧ ∀ i, i < n → w.cell? ⟨b, off + i, none⟩ = some (.int .i64 (bs i))

structure SplitW (w : World) (C : Nat) (sl : Value) (x : Nat) (v : Value) (xs : List Nat) (W : World) : Prop where
  below : Below w.heap.size w W
  lb : W.cell? ⟨w.heap.size, 0, none⟩ = some sl
  r0 : W.cell? ⟨w.heap.size + 1, 0, none⟩ = some v
  f0 : W.frozen? ⟨w.heap.size + 1, 0, none⟩ = false
  r1 : W.cell? ⟨w.heap.size + 1 + 1, 0, none⟩ = some (.int .i64 0)
  f1 : W.frozen? ⟨w.heap.size + 1 + 1, 0, none⟩ = false
  x0 : W.cell? ⟨w.heap.size + 1 + 1 + 1, 0, none⟩ = some (.int .u64 x)
  own : W.ownsRow C 22 1 v xs.length (u64s xs)
  cle : C ≤ W.heap.size

structure SplitOut (w : World) (v : Value) (xs : List Nat) (e : Int) (W : World) : Prop where
  below : Below w.heap.size w W
  r0 : W.cell? ⟨w.heap.size + 1, 0, none⟩ = some v
  r1 : W.cell? ⟨w.heap.size + 1 + 1, 0, none⟩ = some (.int .i64 e)
  own : W.ownsRow w.heap.size 22 1 v xs.length (u64s xs)

theorem own_not {A : World} {base : Nat} {e : TypeId} {v : Value} {n : Nat} {xs : List Value} {row : Option Nat} (h : A.ownsRow base e 1 v n xs) (hr : ∀ r, row = some r → r < base ∨ ∃ o : Obj, A.heap[r]? = some o ∧ o.isCells = false) : v.ownBlock = none ∨ v.ownBlock ≠ row := by
  rcases h.2 with ⟨rfl, _⟩ | ⟨g, cap, cur, rfl, hg, hh, _⟩
  · exact .inl rfl
  · refine .inr fun e' => ?_
    rcases hr g (by rw [← e']; rfl) with h1 | ⟨o, ho, hc⟩
    · omega
    · rw [hh] at ho; cases ho; simp [Obj.isCells] at hc

theorem own_lower {A : World} {b b' : Nat} {e : TypeId} {v : Value} {n : Nat} {xs : List Value} (h : A.ownsRow b e 1 v n xs) (hb : b' ≤ b) : A.ownsRow b' e 1 v n xs := by
  refine ⟨h.1, ?_⟩
  rcases h.2 with h2 | ⟨g, cap, cur, hv, hg, r⟩
  · exact .inl h2
  · exact .inr ⟨g, cap, cur, hv, by omega, r⟩

theorem own_twin {A B : World} {b : Nat} {e : TypeId} {v : Value} {n : Nat} {xs : List Value} (h : A.ownsRow b e 1 v n xs) (t : Twin A B) : B.ownsRow b e 1 v n xs := by
  refine ⟨h.1, ?_⟩
  rcases h.2 with h2 | ⟨g, cap, cur, hv, hg, hh, r⟩
  · exact .inl h2
  · exact .inr ⟨g, cap, cur, hv, hg, by rw [t.heap]; exact hh, r⟩

theorem SplitW.grown {w : World} {C : Nat} {sl : Value} {x : Nat} {v : Value} {xs : List Nat} {A B : World} {row : Option Nat} (h : SplitW w C sl x v xs A) (hg : A.grownBy B row) (hlo : ∀ r, row = some r → w.heap.size ≤ r)
    (n0 : row ≠ some w.heap.size) (n1 : row ≠ some (w.heap.size + 1)) (n2 : row ≠ some (w.heap.size + 1 + 1)) (n3 : row ≠ some (w.heap.size + 1 + 1 + 1))
    (ho : ∀ r, row = some r → r < C ∨ ∃ o : Obj, A.heap[r]? = some o ∧ o.isCells = false) : SplitW w C sl x v xs B :=
  ⟨h.below.grown hg h.below.size hlo, cell_same h.lb hg n0, cell_same h.r0 hg n1, free_same h.r0 h.f0 hg n1, cell_same h.r1 hg n2, free_same h.r1 h.f1 hg n2, cell_same h.x0 hg n3, h.own.kept hg (own_not h.own ho), Nat.le_trans h.cle hg.size⟩
theorem SplitW.other {w : World} {C : Nat} {sl : Value} {x : Nat} {v : Value} {xs : List Nat} {A B : World} {row : Option Nat} (h : SplitW w C sl x v xs A) (hg : A.grownBy B row) {D : Nat} (hD : w.heap.size ≤ D) (hr : ∀ r, row = some r → D ≤ r ∧ ∃ o : Obj, A.heap[r]? = some o ∧ o.isCells = false) : SplitW w C sl x v xs B :=
  h.grown hg (fun r e => Nat.le_trans hD (hr r e).1) (not_cells_ne h.lb fun r e => (hr r e).2) (not_cells_ne h.r0 fun r e => (hr r e).2) (not_cells_ne h.r1 fun r e => (hr r e).2) (not_cells_ne h.x0 fun r e => (hr r e).2) (fun r e => .inr (hr r e).2)
theorem SplitOut.grown {w : World} {v : Value} {xs : List Nat} {e : Int} {A B : World} {row : Option Nat} (h : SplitOut w v xs e A) (hg : A.grownBy B row) (hlo : ∀ r, row = some r → w.heap.size ≤ r)
    (n1 : row ≠ some (w.heap.size + 1)) (n2 : row ≠ some (w.heap.size + 1 + 1)) (ho : v.ownBlock = none ∨ v.ownBlock ≠ row) : SplitOut w v xs e B :=
  ⟨h.below.grown hg h.below.size hlo, cell_same h.r0 hg n1, cell_same h.r1 hg n2, h.own.kept hg ho⟩
theorem SplitOut.other {w : World} {v : Value} {xs : List Nat} {e : Int} {A B : World} {row : Option Nat} (h : SplitOut w v xs e A) (hg : A.grownBy B row) {D : Nat} (hD : w.heap.size ≤ D) (hr : ∀ r, row = some r → D ≤ r ∧ ∃ o : Obj, A.heap[r]? = some o ∧ o.isCells = false) : SplitOut w v xs e B :=
  h.grown hg (fun r e => Nat.le_trans hD (hr r e).1) (not_cells_ne h.r0 fun r e => (hr r e).2) (not_cells_ne h.r1 fun r e => (hr r e).2) (own_not h.own fun r e => .inr (hr r e).2)

def splitKs (w : World) (k : Nat) : Prop := k < w.heap.size ∨ k = w.heap.size ∨ (w.heap.size + 4 ≤ k ∧ k < w.heap.size + 8)

theorem twin_new {W B : World} {u : Value} {t : TypeId} (h : Twin (W.alloc (.cells #[u] t)) B) : B.cell? ⟨W.heap.size, 0, none⟩ = some u := by
  rw [h.cell]
  simp [go_sem]
theorem SplitW.cellA {w : World} {C : Nat} {sl : Value} {x : Nat} {v : Value} {xs : List Nat} {W B : World} {o : Obj} (h : SplitW w C sl x v xs W) (t : Twin (W.alloc o) B) (b off : Nat) (hb : b < C) : B.cell? ⟨b, off, none⟩ = W.cell? ⟨b, off, none⟩ := by
  rw [t.cell]
  have := h.cle
  exact World.cell?_of_block (a := ⟨b, off, none⟩) (Below.heap_alloc W o b (by omega))

theorem SplitW.next {w : World} {C : Nat} {sl : Value} {x : Nat} {v v' : Value} {xs : List Nat} {f : Nat} {W B w1 : World} (h : SplitW w C sl x v xs W) (hC : w.heap.size + 8 = C) (hg : B.grownBy w1 v.ownBlock) (o : Obj) (t : Twin (W.alloc o) B)
    (hown : w1.ownsRow C 22 1 v' (xs.length + 1) (u64s xs ++ [.int .u64 (f : Int)])) :
    (∀ b o, b < C → w1.cell? ⟨b, o, none⟩ = W.cell? ⟨b, o, none⟩) ∧ (∀ b o, b < C → w1.frozen? ⟨b, o, none⟩ = W.frozen? ⟨b, o, none⟩) ∧ KeepsOthers W (w1.setCell ⟨w.heap.size + 1, 0, none⟩ v') ∧ KpB (splitKs w) W (w1.setCell ⟨w.heap.size + 1, 0, none⟩ v') ∧
      SplitW w C sl x v' (xs ++ [f]) (w1.setCell ⟨w.heap.size + 1, 0, none⟩ v') := by
  have hz : B.heap.size = W.heap.size + 1 := by rw [t.heap]; simp
  have hle := h.cle
  have hob : ∀ k, v.ownBlock = some k → C ≤ k ∧ k < W.heap.size := h.own.lt
  have blk : ∀ k, k < C → w1.heap[k]? = W.heap[k]? := fun k hk => by
    rw [hg.block k (by omega) (fun e => by have := (hob k e.symm).1; omega), t.heap]
    exact Below.heap_alloc W o k (by omega)
  have hc : ∀ b o, b < C → w1.cell? ⟨b, o, none⟩ = W.cell? ⟨b, o, none⟩ := fun b o hb => World.cell?_of_block (a := ⟨b, o, none⟩) (blk b hb)
  have hf : ∀ b o, b < C → w1.frozen? ⟨b, o, none⟩ = W.frozen? ⟨b, o, none⟩ := fun b o hb => World.frozen?_of_block (a := ⟨b, o, none⟩) (blk b hb)
  have hs1 : W.heap.size + 1 ≤ w1.heap.size := by have := hg.size; omega
  have k1 : KeepsOthers W B := others_twin (KeepsOthers.alloc W o) t
  have k2 : KeepsOthers B w1 := KeepsOthers.of_grownBy hg (fun j ob hj hob' => by
    rcases h.own.2 with ⟨rfl, _⟩ | ⟨g, cap, cur, rfl, _, hh, _⟩
    · simp [Value.ownBlock] at hj
    · have e : j = g := by simpa [Value.ownBlock] using hj.symm
      subst e
      have hlt := (Array.getElem?_eq_some_iff.1 hh).1
      rw [t.heap] at hob'
      rw [Below.heap_alloc W o j hlt, hh] at hob'
      cases hob'
      rfl)
  refine ⟨hc, hf, (k1.trans k2).trans (KeepsOthers.setCell _ _ _), ⟨by simp [World.setCell]; omega, fun k hk => ?_⟩, ⟨?_, ?_, ?_, ?_, ?_, ?_, ?_, ?_, ?_⟩⟩
  · unfold splitKs at hk
    rw [Below.heap_setCell _ _ _ _ (by show k ≠ w.heap.size + 1; omega)]
    exact blk k (by omega)
  · refine Below.setCell (p := ⟨w.heap.size + 1, 0, none⟩) ?_ (by simp) _
    refine (t.below (h.below.alloc h.below.size o)).grown hg (by rw [hz]; have := h.below.size; omega) (fun k e => by have := (hob k e).1; omega)
  · rw [World.cell?_setCell_other _ _ _ _ (by simp)]; exact (hc _ _ (by omega)).trans h.lb
  · exact World.cell?_setCell_same' _ _ _ (by rw [hc _ _ (by omega), h.r0]; rfl)
  · rw [World.frozen?_setCell]; exact (hf _ _ (by omega)).trans h.f0
  · rw [World.cell?_setCell_other _ _ _ _ (by simp)]; exact (hc _ _ (by omega)).trans h.r1
  · rw [World.frozen?_setCell]; exact (hf _ _ (by omega)).trans h.f1
  · rw [World.cell?_setCell_other _ _ _ _ (by simp <;> omega)]; exact (hc _ _ (by omega)).trans h.x0
  · have e1 : (xs ++ [f]).length = xs.length + 1 := by simp
    rw [u64s_snoc, e1]
    exact ownsRow_setCell_below hown (a := ⟨w.heap.size + 1, 0, none⟩) (by show w.heap.size + 1 < C; omega) _
  · have : (w1.setCell ⟨w.heap.size + 1, 0, none⟩ v').heap.size = w1.heap.size := by simp [World.setCell]
    omega

def splitStart (w : World) (a : Option Addr) (x n cap : Nat) : World :=
  (((((((w.alloc (.cells #[.slice a n cap] 91)).alloc (.cells #[.slice none 0 0] 88)).alloc (.cells #[.int .i64 0] 32)).alloc (.cells #[.int .u64 x] 127)).alloc
    (.cells #[.int .i64 n] 3)).alloc (.cells #[.func (.func 68) #[] #[.pointer (some ⟨w.heap.size, 0, none⟩)]] 131)).alloc (.cells #[.int .i64 0] 3)).alloc
    (.cells #[.func (.func 79) #[] #[.pointer (some ⟨w.heap.size + 1 + 1 + 1 + 1 + 2, 0, none⟩)]] 131)

structure SplitS (w : World) (a : Option Addr) (x n cap : Nat) (W : World) : Prop where
  size : W.heap.size = w.heap.size + 8
  j : SplitW w (w.heap.size + 8) (.slice a n cap) x (.slice none 0 0) [] W
  cm : W.cell? ⟨w.heap.size + 1 + 1 + 1 + 1, 0, none⟩ = some (.int .i64 n)
  cb : W.cell? ⟨w.heap.size + 1 + 1 + 1 + 1 + 1, 0, none⟩ = some (.func (.func 68) #[] #[.pointer (some ⟨w.heap.size, 0, none⟩)])
  ca : W.cell? ⟨w.heap.size + 1 + 1 + 1 + 1 + 2, 0, none⟩ = some (.int .i64 0)
  fa : W.frozen? ⟨w.heap.size + 1 + 1 + 1 + 1 + 2, 0, none⟩ = false
  cn : W.cell? ⟨w.heap.size + 1 + 1 + 1 + 1 + 3, 0, none⟩ = some (.func (.func 79) #[] #[.pointer (some ⟨w.heap.size + 1 + 1 + 1 + 1 + 2, 0, none⟩)])

set_option maxHeartbeats 1000000 in
theorem splitStart_facts (w : World) (a : Option Addr) (x n cap : Nat) : SplitS w a x n cap (splitStart w a x n cap) := by
  unfold splitStart
  refine ⟨by simp, ⟨by (repeat (first | exact Below.refl _ _ | assumption | apply Below.drew | apply below_drewN | (refine Below.alloc ?_ (by simp <;> omega) _) | (refine Below.setCell ?_ (by simp <;> omega) _))), ?_, ?_, ?_, ?_, ?_, ?_, World.ownsRow_nil _ _ _ _, by simp⟩, ?_, ?_, ?_, ?_, ?_⟩
  all_goals simp [go_sem]

set_option maxHeartbeats 400000 in
theorem splitBits_any (i n cap b off bl : Nat) (f : Int) (w : World) (hi : i < n) (hc : w.cell? ⟨bl, 0, none⟩ = some (.slice (some ⟨b, off, none⟩) n cap)) (hf : w.cell? ⟨b, off + i, none⟩ = some (.int .i64 f)) :
    Calls Tryd.prog 68 #[.int .i64 i, .pointer (some ⟨bl, 0, none⟩)] w fun e w' => e = .returned (.int .i64 f) ∧ w = w' := by
  go_enter Tryd.func68, Tryd.ntmps68
  go_wp2
  go_ret
  exact ⟨rfl, rfl⟩

/-- Split's answer. -/
def outN (x : Nat) (bs : Nat → Int) (n : Nat) : List Nat := (List.range n).map fun j => fieldN x (accP bs j).toNat (bs j).toNat
def splitE (bs : Nat → Int) (n : Nat) : Int := if roomN bs n then 0 else 2
def splitL (x : Nat) (bs : Nat → Int) (n : Nat) : List Nat := if roomN bs n then outN x bs n else []
theorem outN_succ (x : Nat) (bs : Nat → Int) (n : Nat) : outN x bs (n + 1) = outN x bs n ++ [fieldN x (accP bs n).toNat (bs n).toNat] := by
  simp [outN, List.range_succ]
theorem outN_len (x : Nat) (bs : Nat → Int) (n : Nat) : (outN x bs n).length = n := by simp [outN]

/-- What is said of a call that hands back a list of numbers and an error. -/
def ListPost (e : Int) (xs : List Nat) (w : World) (r : Ending) (W : World) : Prop :=
  ∃ v, r = .returned (.tuple #[v, .int .i64 e]) ∧ W.ownsRow w.heap.size 22 1 v xs.length (u64s xs) ∧ Below w.heap.size w W

set_option maxHeartbeats 1000000 in
set_option maxRecDepth 100000 in
theorem Split_any (a : Option Addr) (x n cap : Nat) (bs : Nat → Int) (w : World) (hn : n ≤ 9223372036854775807) (hsz : n * 8 ≤ 140737488355328) (hx : x < 18446744073709551616)
    (hlo : ∀ i, i < n → -9223372036854775808 ≤ bs i) (hhi : ∀ i, i < n → bs i ≤ 9223372036854775807) (hF : IntsAt w a n bs) :
    Calls Tryd.prog 41 #[.int .u64 x, .slice a n cap] w (ListPost (splitE bs n) (splitL x bs n) w) := by
  refine (callsIn_wide (n := 0)).1 ?_
  have hmf : ∀ (fn : Fn) (first cap : Array Value) (w : World), (Instr.makeFunc fn first cap).run Tryd.prog w = .ok (.func fn first cap) w := fun _ _ _ _ => rfl
  refine callsIn_of_wp_marks Tryd.func41 rfl trivial ?_ rfl
  simp only [Tryd.ntmps41, List.size_toArray, List.length_cons, List.length_nil, Nat.reduceAdd, Nat.reduceSub, Array.replicate_succ, Array.replicate_zero, List.push_toArray, List.append_toArray, List.nil_append, List.cons_append]
  gi_wp2_with fail
  refine ⟨trivial, rfl, ?_⟩
  refine (callsIn_wide.2 (places_any n _ _ _)).mono ?_
  rintro e w' ⟨rfl, rfl⟩
  gi_wp2_with fail
  change Code.wpIn _ _ _ _ _ _ (splitStart w a x n cap)
  have S := splitStart_facts w a x n cap
  generalize splitStart w a x n cap = W0 at *
  have hz := S.size
  have hbits : BitsAt Tryd.prog 68 w.heap.size (splitKs w) (w.heap.size + 1 + 1 + 1 + 1 + 2) n bs W0 := by
    intro i W hi hp
    rcases hF with rfl | ⟨b, off, rfl, hb, hc⟩
    · omega
    · refine splitBits_any i n cap b off w.heap.size (bs i) W hi ?_ ?_
      · exact (hp.cell (.inr (.inl rfl)) (by omega) 0).trans S.j.lb
      · exact ((hp.cell (.inl hb) (by omega) _).trans (S.j.below.cell (p := ⟨b, _, none⟩) hb)).trans (hc i hi)
  refine wp_range (gf := 81) rfl (enters_of Tryd.func81 (by kernel_rfl) rfl)
    (pplaces_seq n bs (w.heap.size + 1 + 1 + 1 + 1) (w.heap.size + 1 + 1 + 1 + 1 + 2) (w.heap.size + 1 + 1 + 1 + 1 + 3) (w.heap.size + 1 + 1 + 1 + 1 + 1) 68 w.heap.size (splitKs w) W0 hn hlo hhi
      (.inr (.inr (by omega))) (.inr (.inr (by omega))) (.inr (.inr (by omega))) (.inr (.inr (by omega))) (by omega) (by omega) (by omega) (fun k hk => by unfold splitKs at hk; omega) S.cm S.ca S.fa S.cn S.cb (enters_of Tryd.func68 (by kernel_rfl) rfl) hbits)
    (Below.refl _ _) (fun r e => by cases e; omega) (fun _ => rfl)
    (fun h k => ⟨Nat.le_trans h.1 k.1, fun j hj => (k.2 j hj).trans (h.2 j hj)⟩)
    (fun W l o o' hl h _ _ => ⟨by simp, fun j hj => World.putObj_heap_other (by unfold splitKs at hj; omega)⟩)
    (fun pre W => roomN bs pre.length = true ∧ ∃ v, SplitW w (w.heap.size + 8) (.slice a n cap) x v (outN x bs pre.length) W)
    (fun c pre W => c = .ret ∧ roomN bs pre.length = false ∧ SplitOut w (.slice none 0 0) [] 2 W)
    (fun s A B row hs hg hr => ⟨hs.1, hs.2.elim fun v h => ⟨v, h.other hg (by omega) hr⟩⟩)
    (fun c s A B row hs hg hr => ⟨hs.1, hs.2.1, hs.2.2.other hg (by omega) hr⟩)
    (fun s A B hs hg => ⟨hs.1, hs.2.elim fun v h => ⟨v, h.grown hg (fun r e => by cases e; omega) (by intro e; simp only [Option.some.injEq] at e; omega) (by intro e; simp only [Option.some.injEq] at e; omega) (by intro e; simp only [Option.some.injEq] at e; omega) (by intro e; simp only [Option.some.injEq] at e; omega) (fun r e => by cases e; left; omega)⟩⟩)
    (fun c s A B hs hg => ⟨hs.1, hs.2.1, hs.2.2.grown hg (fun r e => by cases e; omega) (by intro e; simp only [Option.some.injEq] at e; omega) (by intro e; simp only [Option.some.injEq] at e; omega) (.inl rfl)⟩)
    ⟨rfl, _, S.j⟩
    (fun z => { tmps := #[.int .u64 x, .slice a n cap, undef, .pointer (some ⟨w.heap.size, 0, none⟩), .pointer (some ⟨w.heap.size + 1, 0, none⟩), .pointer (some ⟨w.heap.size + 1 + 1, 0, none⟩), .pointer (some ⟨w.heap.size + 1 + 1 + 1, 0, none⟩), .int .i64 z.1, .int .i64 z.2, .int .u64 x, .agg #[.int .u64 x], .slice a n cap, .int .i64 n, .func (.func 68) #[] #[.pointer (some ⟨w.heap.size, 0, none⟩)], .func (.func 81) #[] #[.pointer (some ⟨w.heap.size + 1 + 1 + 1 + 1, 0, none⟩), .pointer (some ⟨w.heap.size + 1 + 1 + 1 + 1 + 3, 0, none⟩), .pointer (some ⟨w.heap.size + 1 + 1 + 1 + 1 + 1, 0, none⟩)], .int .i64 z.1, .int .i64 z.2, undef, undef, undef, undef, undef, undef, undef, undef, undef, undef, undef, undef], defers := [] }) ?assign ?body ?done ?stop
  case assign =>
    intro l x W K hK
    gi_wp2
    exact hK
  case body =>
    rintro l pre ⟨x1, x2⟩ rest W hL ⟨hr, v, hj⟩
    obtain ⟨hlen, hx1, _, hx'⟩ := placesFrom_at (bs := bs) n 0 pre (x1, x2) rest rfl hL
    simp only [Nat.zero_add] at hx1 hx'
    subst hx1
    generalize hi : pre.length = i at *
    have hpre : ∀ z, (pre ++ [z]).length = i + 1 := fun z => by simp [hi]
    rcases hx' with ⟨hm, rfl⟩ | ⟨hm, rfl, rfl⟩
    · obtain ⟨b, off, rfl, hb, hc⟩ : ∃ b off, a = some ⟨b, off, none⟩ ∧ b < w.heap.size ∧ ∀ i, i < n → w.cell? ⟨b, off + i, none⟩ = some (.int .i64 (bs i)) := by
        rcases hF with rfl | h
        · omega
        · exact h
      have hr1 : roomN bs (i + 1) = true := by simp [roomN, hr, hm]
      obtain ⟨m1, m2, m3, m4⟩ := (mayB_iff _ _).1 hm
      have d0 := (hj.below.cell (p := ⟨b, off + i, none⟩) hb).trans (hc i hlen)
      have dl := hj.lb
      have c0 := hj.r0
      have g0 := hj.f0
      have c3 := hj.x0
      obtain ⟨p, hp⟩ := Int.eq_ofNat_of_zero_le m3
      obtain ⟨q, hq⟩ := Int.eq_ofNat_of_zero_le (show 0 ≤ bs i by omega)
      have HJ := Lib.hid hj; clear hj
      have HX : outN x bs (i + 1) = outN x bs i ++ [fieldN x p q] := by rw [outN_succ, hp, hq]; rfl
      have hp63 : p < 64 := by omega
      have hq64 : q ≤ 64 := by omega
      have hxl : (outN x bs i).length = i := outN_len _ _ _
      rw [hq] at d0
      rw [hp]
      generalize outN x bs i = xs at *
      have HX' := Lib.hid HX; clear HX
      have Hq := Lib.hid hq; clear hq
      have Hp := Lib.hid hp; clear hp
      have Hi := Lib.hid hi; clear hi
      have Hpre := Lib.hid hpre; clear hpre
      have HL := Lib.hid hL; clear hL
      have Hxl := Lib.hid hxl; clear hxl
      clear m1 m2 m3 m4 hm hc hlo hhi hF hbits S
      have Hz := Lib.hid hz; clear hz
      gi_wp2_with fail
      refine round_held (fun V => V.cell? ⟨w.heap.size, 0, none⟩ = some (.slice (some ⟨b, off, none⟩) n cap) ∧ V.cell? ⟨b, off + i, none⟩ = some (.int .i64 q)) (by kernel_rfl) (by kernel_rfl) (fun ⟨_, _, h⟩ => h) ?_
      refine heads_ok (f := 5) (by kernel_rfl) (by simp [go_sem, dl, d0]) (fun _ _ _ _ _ h => h) [1, 2, 3, 4, 5] _ _ (by kernel_rfl) ?_
      iterate 5
        apply Exists.intro
        apply Exists.intro
        refine ⟨by rfl, by rfl, fun V hV => ?_, ?_⟩
        · obtain ⟨e1, e2⟩ := hV
          go_simp
          try with_reducible rfl
        try simp only [Act.put, List.setIfInBounds_toArray]
      obtain ⟨i0, hi0, hz0, hz1, hz2⟩ := info_parts info64
      refine float_two (z := 0) (k := 6) (v := v) (by kernel_rfl) rfl rfl (by rfl) (by rfl) (by simp [go_sem, dl, d0]) (by go_simp) ?_ ?_
      · refine tail_one 6 (by kernel_rfl) rfl (by rfl) ?_
        go_simp
        refine (get_any x p q _ _ (by simpa using c3) hx hp63 hq64).mono ?_
        rintro e w' ⟨rfl, m, rfl⟩
        refine ⟨by simp [go_sem, dl, d0], ?_⟩
        refine tail_one 7 (by kernel_rfl) rfl (by rfl) ?_
        go_simp
        refine ⟨⟨(HJ.out.cellA ⟨rfl, rfl, rfl, rfl⟩ _ _ (by omega)).trans dl, (HJ.out.cellA ⟨rfl, rfl, rfl, rfl⟩ _ _ (by omega)).trans d0⟩, ?_⟩
        refine tail_one 8 (by kernel_rfl) rfl (by rfl) ?_
        refine wp_append_own _ (.tmp 19) (.tmp 26) 88 rfl (w.heap.size + 8) 22 i0 (.int .u64 0) 1 8 Tryd.underlying88 hi0 hz0 hz1 hz2 rfl (by decide) v xs.length (u64s xs) rfl (own_twin (HJ.out.own.alloc _) ⟨rfl, rfl, rfl, rfl⟩)
          ⟨W.heap.size, 0, none⟩ 1 1 [.int .u64 (fieldN x p q : Int)] rfl rfl (by intro j u hu; cases j with | zero => (simp at hu; subst hu; exact twin_new (W := W) ⟨rfl, rfl, rfl, rfl⟩) | succ j => simp at hu) (by simp [Value.oneCell']) (by rw [Hxl.out]; unfold maxLen; omega) (by rw [Hxl.out]; omega) (by have := HJ.out.cle; simp; omega) ?_
        intro v' w1 hown1 hgrow1 _
        obtain ⟨g', cap', rfl⟩ := ownsRow_succ hown1
        have NX := Lib.hid (HJ.out.next rfl hgrow1 _ ⟨rfl, rfl, rfl, rfl⟩ hown1)
        have kl := (NX.out.1 w.heap.size 0 (by omega)).trans dl
        have kd := (NX.out.1 b (off + i) (by omega)).trans d0
        have k0 := (NX.out.1 (w.heap.size + 1) 0 (by omega)).trans c0
        have kf := (NX.out.2.1 (w.heap.size + 1) 0 (by omega)).trans g0
        clear hown1 hgrow1
        refine ⟨⟨kl, kd⟩, ?_⟩
        refine tail_one 9 (by kernel_rfl) rfl (by rfl) ?_
        go_simp
        refine ⟨by kernel_rfl, (show _ ∧ _ ∧ _ from ⟨NX.out.2.2.1, NX.out.2.2.2.1, ?_, .slice (some ⟨g', 0, none⟩) (xs.length + 1) cap', ?_⟩)⟩
        · rw [Hpre.out]; exact hr1
        · rw [Hpre.out, HX'.out]; exact NX.out.2.2.2.2
      · go_simp
        refine (get_any x p q _ _ (by simpa using c3) hx hp63 hq64).mono ?_
        rintro e w' ⟨rfl, m, rfl⟩
        refine ⟨by simp [go_sem, dl, d0], ?_⟩
        refine float_two (z := 0) (k := 7) (v := v) (by kernel_rfl) rfl rfl (by rfl) (by rfl) (by simp [go_sem, dl, d0]) (by go_simp) ?_ ?_
        · refine tail_one 7 (by kernel_rfl) rfl (by rfl) ?_
          go_simp
          refine ⟨⟨(HJ.out.cellA ⟨rfl, rfl, rfl, rfl⟩ _ _ (by omega)).trans dl, (HJ.out.cellA ⟨rfl, rfl, rfl, rfl⟩ _ _ (by omega)).trans d0⟩, ?_⟩
          refine tail_one 8 (by kernel_rfl) rfl (by rfl) ?_
          refine wp_append_own _ (.tmp 19) (.tmp 26) 88 rfl (w.heap.size + 8) 22 i0 (.int .u64 0) 1 8 Tryd.underlying88 hi0 hz0 hz1 hz2 rfl (by decide) v xs.length (u64s xs) rfl (own_twin (HJ.out.own.alloc _) ⟨rfl, rfl, rfl, rfl⟩)
            ⟨W.heap.size, 0, none⟩ 1 1 [.int .u64 (fieldN x p q : Int)] rfl rfl (by intro j u hu; cases j with | zero => (simp at hu; subst hu; exact twin_new (W := W) ⟨rfl, rfl, rfl, rfl⟩) | succ j => simp at hu) (by simp [Value.oneCell']) (by rw [Hxl.out]; unfold maxLen; omega) (by rw [Hxl.out]; omega) (by have := HJ.out.cle; simp; omega) ?_
          intro v' w1 hown1 hgrow1 _
          obtain ⟨g', cap', rfl⟩ := ownsRow_succ hown1
          have NX := Lib.hid (HJ.out.next rfl hgrow1 _ ⟨rfl, rfl, rfl, rfl⟩ hown1)
          have kl := (NX.out.1 w.heap.size 0 (by omega)).trans dl
          have kd := (NX.out.1 b (off + i) (by omega)).trans d0
          have k0 := (NX.out.1 (w.heap.size + 1) 0 (by omega)).trans c0
          have kf := (NX.out.2.1 (w.heap.size + 1) 0 (by omega)).trans g0
          clear hown1 hgrow1
          refine ⟨⟨kl, kd⟩, ?_⟩
          refine tail_one 9 (by kernel_rfl) rfl (by rfl) ?_
          go_simp
          refine ⟨by kernel_rfl, (show _ ∧ _ ∧ _ from ⟨NX.out.2.2.1, NX.out.2.2.2.1, ?_, .slice (some ⟨g', 0, none⟩) (xs.length + 1) cap', ?_⟩)⟩
          · rw [Hpre.out]; exact hr1
          · rw [Hpre.out, HX'.out]; exact NX.out.2.2.2.2
        · go_simp
          refine ⟨⟨(HJ.out.cellA ⟨rfl, rfl, rfl, rfl⟩ _ _ (by omega)).trans dl, (HJ.out.cellA ⟨rfl, rfl, rfl, rfl⟩ _ _ (by omega)).trans d0⟩, ?_⟩
          refine float_one (z := 0) (v := v) (by kernel_rfl) rfl (by rfl) (by exact ⟨(HJ.out.cellA ⟨rfl, rfl, rfl, rfl⟩ _ _ (by omega)).trans dl, (HJ.out.cellA ⟨rfl, rfl, rfl, rfl⟩ _ _ (by omega)).trans d0⟩) (by have k0 := (HJ.out.cellA (o := .cells #[.int .u64 (fieldN x p q : Int)] 22) (B := ((W.drewN (1 + m)).alloc (.cells #[.int .u64 (fieldN x p q : Int)] 22))) ⟨rfl, rfl, rfl, rfl⟩ (w.heap.size + 1) 0 (by omega)).trans c0; go_simp) ?_
          refine tail_one 8 (by kernel_rfl) rfl (by rfl) ?_
          refine wp_append_own _ (.tmp 19) (.tmp 26) 88 rfl (w.heap.size + 8) 22 i0 (.int .u64 0) 1 8 Tryd.underlying88 hi0 hz0 hz1 hz2 rfl (by decide) v xs.length (u64s xs) rfl (own_twin (HJ.out.own.alloc _) ⟨rfl, rfl, rfl, rfl⟩)
            ⟨W.heap.size, 0, none⟩ 1 1 [.int .u64 (fieldN x p q : Int)] rfl rfl (by intro j u hu; cases j with | zero => (simp at hu; subst hu; exact twin_new (W := W) ⟨rfl, rfl, rfl, rfl⟩) | succ j => simp at hu) (by simp [Value.oneCell']) (by rw [Hxl.out]; unfold maxLen; omega) (by rw [Hxl.out]; omega) (by have := HJ.out.cle; simp; omega) ?_
          intro v' w1 hown1 hgrow1 _
          obtain ⟨g', cap', rfl⟩ := ownsRow_succ hown1
          have NX := Lib.hid (HJ.out.next rfl hgrow1 _ ⟨rfl, rfl, rfl, rfl⟩ hown1)
          have kl := (NX.out.1 w.heap.size 0 (by omega)).trans dl
          have kd := (NX.out.1 b (off + i) (by omega)).trans d0
          have k0 := (NX.out.1 (w.heap.size + 1) 0 (by omega)).trans c0
          have kf := (NX.out.2.1 (w.heap.size + 1) 0 (by omega)).trans g0
          clear hown1 hgrow1
          refine ⟨⟨kl, kd⟩, ?_⟩
          refine tail_one 9 (by kernel_rfl) rfl (by rfl) ?_
          go_simp
          refine ⟨by kernel_rfl, (show _ ∧ _ ∧ _ from ⟨NX.out.2.2.1, NX.out.2.2.2.1, ?_, .slice (some ⟨g', 0, none⟩) (xs.length + 1) cap', ?_⟩)⟩
          · rw [Hpre.out]; exact hr1
          · rw [Hpre.out, HX'.out]; exact NX.out.2.2.2.2
    · have c0 := hj.r0
      have c1 := hj.r1
      have g0 := hj.f0
      have g1 := hj.f1
      gi_wp2
      refine ⟨(KeepsOthers.setCell _ _ _).trans (KeepsOthers.setCell _ _ _), rfl, ?_, ⟨((hj.below.setCell (p := ⟨w.heap.size + 1, 0, none⟩) (by simp) _).setCell (p := ⟨w.heap.size + 1 + 1, 0, none⟩) (by simp <;> omega) _), ?_, ?_, World.ownsRow_nil _ _ _ _⟩⟩
      · rw [hpre]
        simp [roomN, hm]
      · simp [go_sem, c0]
      · simp [go_sem, c1]
  case done =>
    rintro D W hD ⟨hr, v, hj⟩ hK
    have hlen := placesFrom_len (bs := bs) n 0 rfl (by rw [Nat.zero_add]; exact hr)
    change (placesFrom bs n 0 0).length = n at hlen
    rw [hlen] at hr hj
    have c0 := hj.r0
    have c1 := hj.r1
    have g0 := hj.f0
    have g1 := hj.f1
    have hb := hj.below
    have hown := own_lower hj.own (show w.heap.size ≤ w.heap.size + 8 by omega)
    have hob : ∀ k, v.ownBlock = some k → w.heap.size + 8 ≤ k := fun k hk => (hj.own.lt k hk).1
    have E1 := Lib.hid (show splitL x bs n = outN x bs n by simp [splitL, hr])
    have E2 := Lib.hid (show splitE bs n = 0 by simp [splitE, hr])
    obtain ⟨U, hU⟩ : ∃ U, U = (W.setCell ⟨w.heap.size + 1, 0, none⟩ v).setCell ⟨w.heap.size + 1 + 1, 0, none⟩ (.int .i64 0) := ⟨_, rfl⟩
    have hO : SplitOut w v (outN x bs n) 0 U := by
      rw [hU]
      refine ⟨(hb.setCell (p := ⟨w.heap.size + 1, 0, none⟩) (by simp) _).setCell (p := ⟨w.heap.size + 1 + 1, 0, none⟩) (by simp <;> omega) _, by simp [go_sem, c0], by simp [go_sem, c1], ?_⟩
      refine ownsRow_setCell_other (ownsRow_setCell_other hown ?_ _) ?_ _
      · intro e
        have h' : w.heap.size + 8 ≤ w.heap.size + 1 := hob _ e
        omega
      · intro e
        have h' : w.heap.size + 8 ≤ w.heap.size + 1 + 1 := hob _ e
        omega
    have hK' : U.heap[D]? = some (.deferred (some [])) := by rw [hU]; exact ((KeepsOthers.setCell _ _ _).trans (KeepsOthers.setCell _ _ _)).same D _ hK rfl
    have hvs : v = .slice none 0 0 ∨ ∃ g cap, v = .slice (some ⟨g, 0, none⟩) (outN x bs n).length cap := by
      rcases hj.own.2 with ⟨h, _⟩ | ⟨g, cap, cur, h, _⟩
      · exact .inl h
      · exact .inr ⟨g, cap, h⟩
    have HU := Lib.hid hU; clear hU
    have HO := Lib.hid hO; clear hO
    rcases hvs with rfl | ⟨g', cap', rfl⟩
    all_goals
      gi_wp2
      rw [← HU.out]
      have hO := HO.out
      refine ⟨by simp, .inl ⟨_, _, rfl, run_takeDeferred hK', ?_⟩⟩
      have hO2 := hO.grown (grownBy_putObj' U D (.deferred none)) (fun r e => by cases e; omega) (by intro e; simp only [Option.some.injEq] at e; omega) (by intro e; simp only [Option.some.injEq] at e; omega) (own_not hO.own fun r e => by cases e; right; exact ⟨_, hK', rfl⟩)
      have q0 := hO2.r0
      have q1 := hO2.r1
      refine ⟨.tuple #[_, .int .i64 0], ?_, _, by rw [E2.out], by rw [E1.out]; exact hO2.own, hO2.below⟩
      simp [results, Tryd.f41, go_sem, q0, q1]
  case stop =>
    rintro D c pre y rest W hD hL ⟨rfl, hr, hO⟩ hK
    obtain ⟨hlen, _, _, _⟩ := placesFrom_at (bs := bs) n 0 pre y rest rfl hL
    have hrn : roomN bs n = false := by
      cases hh : roomN bs n with
      | false => rfl
      | true => rw [roomN_lo hh (show (pre ++ [y]).length ≤ n by simp; omega)] at hr; cases hr
    have E1 := Lib.hid (show splitL x bs n = [] by simp [splitL, hrn])
    have E2 := Lib.hid (show splitE bs n = 2 by simp [splitE, hrn])
    gi_wp2
    refine ⟨by simp, .inl ⟨_, _, rfl, run_takeDeferred hK, ?_⟩⟩
    have hO2 := hO.grown (grownBy_putObj' W D (.deferred none)) (fun r e => by cases e; omega) (by intro e; simp only [Option.some.injEq] at e; omega) (by intro e; simp only [Option.some.injEq] at e; omega) (.inl rfl)
    have q0 := hO2.r0
    have q1 := hO2.r1
    refine ⟨.tuple #[.slice none 0 0, .int .i64 2], ?_, _, by rw [E2.out], by rw [E1.out]; exact hO2.own, hO2.below⟩
    simp [results, Tryd.f41, go_sem, q0, q1]

end Go.Proofs.YtecjbgddjejjdaaDoor
