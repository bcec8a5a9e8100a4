/- A world in which a memory is worked on: what is kept. -/
import Derived.Test.YtdabhkbmdmlgcaaDoorPlainDrain
import Derived.Test.YtdabhkbmdmlgcaaDoorCellRun
import Derived.Test.YtdabhkbmdmlgcaaDoorPartE
import Derived.Test.YtdabhkbmdmlgcaaDoorZeros
namespace Go.Proofs.YtdabhkbmdmlgcaaDoor
open Go.RowKit

/-- The config, a memory, and other blocks. -/
structure DrW (w : World) (c : Cfg) (p B n : Nat) (av : Option Addr) (cv : Nat) (fs : List (Nat × List Value)) (l : List Cel) (U : World) : Prop where
  below : Below w.heap.size w U
  cfg : Box U w.heap.size (cfgL c)
  mem : Box U p [.slice av n cv]
  own : Own U B (.slice av n cv) l
  bx : ∀ x ∈ fs, Box U x.1 x.2
  fc : (Value.slice av n cv).ownBlock ≠ some w.heap.size
  fp : (Value.slice av n cv).ownBlock ≠ some p
  ff : ∀ x ∈ fs, (Value.slice av n cv).ownBlock ≠ some x.1
  len : l.length = n
  lt : w.heap.size < B

variable {w U V : World} {c : Cfg} {p B n cv : Nat} {av : Option Addr} {fs : List (Nat × List Value)} {l : List Cel}

theorem DrW.next (h : DrW w c p B n av cv fs l U) (hb : Below U.heap.size U V) : DrW w c p B n av cv fs l V :=
  ⟨keepB hb h.below, h.cfg.below hb, h.mem.below hb, own_below h.own hb, fun x hx => (h.bx x hx).below hb, h.fc, h.fp, h.ff, h.len, h.lt⟩
theorem DrW.alloc (h : DrW w c p B n av cv fs l U) (o : Obj) : DrW w c p B n av cv fs l (U.alloc o) := h.next (newB U o)
theorem DrW.drew (h : DrW w c p B n av cv fs l U) : DrW w c p B n av cv fs l U.drew := h.next (Below.refl _ _).drew
/-- One block more. -/
theorem DrW.add (h : DrW w c p B n av cv fs l U) {g : Nat} {cs : List Value} (hg : Box U g cs) (hn : (Value.slice av n cv).ownBlock ≠ some g) : DrW w c p B n av cv ((g, cs) :: fs) l U :=
  ⟨h.below, h.cfg, h.mem, h.own, fun x hx => by
      rcases List.mem_cons.1 hx with rfl | hx
      · exact hg
      · exact h.bx x hx, h.fc, h.fp, fun x hx => by
      rcases List.mem_cons.1 hx with rfl | hx
      · exact hn
      · exact h.ff x hx, h.len, h.lt⟩
theorem DrW.new (h : DrW w c p B n av cv fs l U) (t : TypeId) (cs : List Value) : DrW w c p B n av cv ((U.heap.size, cs) :: fs) l (U.alloc (.cells ⟨cs⟩ t)) :=
  (h.alloc _).add (Box.new U t cs) fun e => by
    have := (World.ownsRow.lt h.own _ e).2
    omega
/-- Other blocks, all told. -/
theorem DrW.with (h : DrW w c p B n av cv fs l U) {gs : List (Nat × List Value)} (hb : ∀ x ∈ gs, Box U x.1 x.2) (hn : ∀ x ∈ gs, (Value.slice av n cv).ownBlock ≠ some x.1) : DrW w c p B n av cv gs l U :=
  ⟨h.below, h.cfg, h.mem, h.own, hb, h.fc, h.fp, hn, h.len, h.lt⟩
/-- Behind an access. -/
theorem DrW.did (h : DrW w c p B n av cv fs l U) {x : Acc} (ho : Own V B (.slice av n cv) (doL l x)) (hg : U.grownBy V (Value.slice av n cv).ownBlock) : DrW w c p B n av cv fs (doL l x) V :=
  ⟨h.below.grown hg h.below.size (fun r e => Nat.le_of_lt (Nat.lt_of_lt_of_le h.lt (World.ownsRow.lt h.own r e).1)), h.cfg.grown hg h.fc, h.mem.grown hg h.fp, ho, fun x hx => (h.bx x hx).grown hg (h.ff x hx), h.fc, h.fp, h.ff, by rw [doL_len, h.len], h.lt⟩
/-- A store into a block of one's own. -/
theorem DrW.put (h : DrW w c p B n av cv fs l U) (g i : Nat) (u : Value) (cs : List Value) (hg : w.heap.size < g) (hp : p ≠ g) (hb : Box U g cs) (hn : (Value.slice av n cv).ownBlock ≠ some g) (hr : ∀ x ∈ fs, x.1 ≠ g) :
    DrW w c p B n av cv ((g, cs.set i u) :: fs) l (U.setCell ⟨g, i, none⟩ u) :=
  ⟨h.below.setCell (p := ⟨g, i, none⟩) (Nat.le_of_lt hg) u, h.cfg.far (a := ⟨g, i, none⟩) (Nat.ne_of_lt hg) u, h.mem.far (a := ⟨g, i, none⟩) hp u, own_far h.own hn u, fun x hx => by
      rcases List.mem_cons.1 hx with rfl | hx
      · exact hb.set i u
      · exact (h.bx x hx).far (a := ⟨g, i, none⟩) (hr x hx) u, h.fc, h.fp, fun x hx => by
      rcases List.mem_cons.1 hx with rfl | hx
      · exact hn
      · exact h.ff x hx, h.len, h.lt⟩

/-- A store into one of the blocks. -/
theorem DrW.putAt {f1 f2 : List (Nat × List Value)} {g : Nat} {cs : List Value} (h : DrW w c p B n av cv (f1 ++ (g, cs) :: f2) l U) (i : Nat) (u : Value) (hg : w.heap.size < g) (hp : p ≠ g) (h1 : ∀ x ∈ f1, x.1 ≠ g) (h2 : ∀ x ∈ f2, x.1 ≠ g) :
    DrW w c p B n av cv (f1 ++ (g, cs.set i u) :: f2) l (U.setCell ⟨g, i, none⟩ u) := by
  have hn := h.ff (g, cs) (by simp)
  refine ⟨h.below.setCell (p := ⟨g, i, none⟩) (Nat.le_of_lt hg) u, h.cfg.far (a := ⟨g, i, none⟩) (Nat.ne_of_lt hg) u, h.mem.far (a := ⟨g, i, none⟩) hp u, own_far h.own hn u, fun x hx => ?_, h.fc, h.fp, fun x hx => ?_, h.len, h.lt⟩
  · rcases List.mem_append.1 hx with hx | hx
    · exact (h.bx x (List.mem_append.2 (.inl hx))).far (a := ⟨g, i, none⟩) (h1 x hx) u
    · rcases List.mem_cons.1 hx with rfl | hx
      · exact (h.bx (g, cs) (by simp)).set i u
      · exact (h.bx x (List.mem_append.2 (.inr (List.mem_cons_of_mem _ hx)))).far (a := ⟨g, i, none⟩) (h2 x hx) u
  · rcases List.mem_append.1 hx with hx | hx
    · exact h.ff x (List.mem_append.2 (.inl hx))
    · rcases List.mem_cons.1 hx with rfl | hx
      · exact hn
      · exact h.ff x (List.mem_append.2 (.inr (List.mem_cons_of_mem _ hx)))

/-- An access stored into the first block. -/
theorem DrW.acc {g : Nat} {c0 c1 c2 c3 c4 c5 c6 c7 c8 c9 : Value} (h : DrW w c p B n av cv ((g, [c0, c1, c2, c3, c4, c5, c6, c7, c8, c9]) :: fs) l U) (v0 v1 v2 v3 v4 v5 v6 v7 v8 v9 : Value) (hg : w.heap.size < g) (hp : p ≠ g) (h2 : ∀ x ∈ fs, x.1 ≠ g) :
    DrW w c p B n av cv ((g, [v0, v1, v2, v3, v4, v5, v6, v7, v8, v9]) :: fs) l ((((((((((U.setCell ⟨g, 0, none⟩ v0).setCell ⟨g, 1, none⟩ v1).setCell ⟨g, 2, none⟩ v2).setCell ⟨g, 3, none⟩ v3).setCell ⟨g, 4, none⟩ v4).setCell ⟨g, 5, none⟩ v5).setCell ⟨g, 6, none⟩ v6).setCell ⟨g, 7, none⟩ v7).setCell ⟨g, 8, none⟩ v8).setCell ⟨g, 9, none⟩ v9) :=
  (DrW.putAt (f1 := []) (DrW.putAt (f1 := []) (DrW.putAt (f1 := []) (DrW.putAt (f1 := []) (DrW.putAt (f1 := []) (DrW.putAt (f1 := []) (DrW.putAt (f1 := []) (DrW.putAt (f1 := []) (DrW.putAt (f1 := []) (DrW.putAt (f1 := []) h 0 v0 hg hp (by simp) h2) 1 v1 hg hp (by simp) h2) 2 v2 hg hp (by simp) h2) 3 v3 hg hp (by simp) h2) 4 v4 hg hp (by simp) h2) 5 v5 hg hp (by simp) h2) 6 v6 hg hp (by simp) h2) 7 v7 hg hp (by simp) h2) 8 v8 hg hp (by simp) h2) 9 v9 hg hp (by simp) h2)

/-- Truths in a row. -/
def boolsV (l : List Bool) : List Value := l.map .bool
theorem boolsV_at {l : List Bool} {i : Nat} (h : i < l.length) : (boolsV l)[i]? = some (.bool (l.getD i false)) := by
  simp [boolsV, h]
theorem boolsV_set (l : List Bool) (i : Nat) (b : Bool) : boolsV (l.set i b) = (boolsV l).set i (.bool b) := by simp [boolsV]
theorem boolsV_rep (n : Nat) (b : Bool) : boolsV (List.replicate n b) = List.replicate n (.bool b) := by simp [boolsV]

end Go.Proofs.YtdabhkbmdmlgcaaDoor
