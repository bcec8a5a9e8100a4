/- What the row's list gives: the tables of kinds and of powers. -/
import Derived.Test.YtecjbgddjejjdaaDoorRows
import Derived.Test.YtecjbgddjejjdaaDoorOpC
import Derived.Test.YtecjbgddjejjdaaDoorLev
import Derived.OpenShut
import Derived.ChangeArms
import Derived.Lib.LaidTab
namespace Go.Proofs.YtecjbgddjejjdaaDoor
open Go.RowKit

theorem gObj : Tryd.prog.globalNamed "bascule/op.objects" = some 1 := by kernel_rfl
theorem gObjType : (Tryd.prog.globals[1]?).map (·.type) = some 140 := by kernel_rfl
theorem gWri : Tryd.prog.globalNamed "bascule/op.writers" = some 0 := by kernel_rfl
theorem gWriType : (Tryd.prog.globals[0]?).map (·.type) = some 110 := by kernel_rfl
theorem cellsO : Tryd.prog.cellsOf 140 = 15 := by kernel_rfl
theorem cellsW : Tryd.prog.cellsOf 110 = 15 := by kernel_rfl
theorem cellsU8 : Tryd.prog.cellsOf 5 = 1 := by kernel_rfl
theorem cellsBl : Tryd.prog.cellsOf 4 = 1 := by kernel_rfl

/-- One listed variable's part. -/
def VarIs (W : World) (n : String) (d : DataW Unit) : Prop :=
  ∃ g t cs fuel p, Tryd.prog.globalNamed n = some g ∧ (Tryd.prog.globals[g]?).map (·.type) = some t ∧ W.var? Tryd.prog n = some cs ∧ DataW.trod (fun _ => ()) Tryd.prog W 0 (fun _ => true) false fuel t cs.toList = some (d, p)

theorem vars_cons {W : World} {n : String} {d : DataW Unit} {r : List (String × DataW Unit)} {ps : List MemPlace} (h : DataW.LaidVars Tryd.prog W ((n, d) :: r) ps) : VarIs W n d ∧ ∃ q, DataW.LaidVars Tryd.prog W r q := by
  obtain ⟨g, t, cs, fuel, p, q, hg, ht, hv, hd, hr, _⟩ := h
  exact ⟨⟨g, t, cs, fuel, p, hg, ht, hv, hd⟩, q, hr⟩

theorem ob_of_var {W : World} (h : VarIs W "bascule/op.objects" Rows.laid_bascule_op_objects) : Ob W := by
  obtain ⟨g', t', cs, fuel, p, hg', ht', hvar, hd⟩ := h
  obtain rfl := Option.some.inj (gObj.symm.trans hg')
  obtain rfl := Option.some.inj (gObjType.symm.trans ht')
  have hc := Lib.cells_of_tab (k := .u8) (zs := [0, 1, 1, 1, 2, 2, 2, 2, 2, 3, 3, 3, 4, 4, 4]) Tryd.underlying140 Tryd.underlying5 cellsU8 cellsO hd
  intro i hi
  rw [World.var?_cell gObj hvar i, ← Array.getElem?_toList, hc]
  match i, hi with
  | 0, _ => rfl
  | 1, _ => rfl
  | 2, _ => rfl
  | 3, _ => rfl
  | 4, _ => rfl
  | 5, _ => rfl
  | 6, _ => rfl
  | 7, _ => rfl
  | 8, _ => rfl
  | 9, _ => rfl
  | 10, _ => rfl
  | 11, _ => rfl
  | 12, _ => rfl
  | 13, _ => rfl
  | 14, _ => rfl

theorem wr_of_var {W : World} (h : VarIs W "bascule/op.writers" Rows.laid_bascule_op_writers) : Wr W := by
  obtain ⟨g', t', cs, fuel, p, hg', ht', hvar, hd⟩ := h
  obtain rfl := Option.some.inj (gWri.symm.trans hg')
  obtain rfl := Option.some.inj (gWriType.symm.trans ht')
  obtain ⟨xs, m, _, hx, hlen, hxl, hrow⟩ := DataW.trod_array Tryd.underlying110 hd
  have hxs : xs.map (·.1) = [.lit (.bool false), .lit (.bool true), .lit (.bool true), .lit (.bool false), .lit (.bool true), .lit (.bool true), .lit (.bool false), .lit (.bool false), .lit (.bool false), .lit (.bool true), .lit (.bool true), .lit (.bool false), .lit (.bool true), .lit (.bool true), .lit (.bool false)] := by
    have := DataW.agg.inj (congrArg Prod.fst hx)
    exact this.symm.trans rfl
  intro i hi
  have hr := hrow i hi
  rw [cellsBl, Nat.mul_one] at hr
  have hlt : i < xs.length := by omega
  rw [List.getElem?_eq_getElem hlt] at hr
  obtain ⟨b, hb, hb2⟩ := DataW.trod_bool Tryd.underlying4 hr
  rw [World.var?_cell gWri hvar i, ← Array.getElem?_toList]
  have h1 : cs.toList[i]? = some (.bool b) := by
    have h2 := congrArg (fun l => l[0]?) hb
    simp only [List.getElem?_take, List.getElem?_drop] at h2
    simpa using h2
  rw [h1]
  have h3 : (xs.map (·.1))[i]? = some (.lit (.bool b)) := by
    rw [List.getElem?_map, List.getElem?_eq_getElem hlt, hb2]
    rfl
  rw [hxs] at h3
  clear hr hb hb2 h1 hxs
  match i, hi with
  | 0, _ => simp at h3; subst h3; rfl
  | 1, _ => simp at h3; subst h3; rfl
  | 2, _ => simp at h3; subst h3; rfl
  | 3, _ => simp at h3; subst h3; rfl
  | 4, _ => simp at h3; subst h3; rfl
  | 5, _ => simp at h3; subst h3; rfl
  | 6, _ => simp at h3; subst h3; rfl
  | 7, _ => simp at h3; subst h3; rfl
  | 8, _ => simp at h3; subst h3; rfl
  | 9, _ => simp at h3; subst h3; rfl
  | 10, _ => simp at h3; subst h3; rfl
  | 11, _ => simp at h3; subst h3; rfl
  | 12, _ => simp at h3; subst h3; rfl
  | 13, _ => simp at h3; subst h3; rfl
  | 14, _ => simp at h3; subst h3; rfl

theorem gTab : Tryd.prog.globalNamed "bascule/rank.powers" = some 2 := by kernel_rfl
theorem gTabType : (Tryd.prog.globals[2]?).map (·.type) = some 157 := by kernel_rfl
theorem cellsTab : Tryd.prog.cellsOf 157 = 15 := by kernel_rfl
theorem cellsRow : Tryd.prog.cellsOf 156 = 5 := by kernel_rfl
theorem cellsInt : Tryd.prog.cellsOf 3 = 1 := by kernel_rfl

def rowZ (i : Nat) : List Int := (List.range 5).map fun j => (((i + 2) ^ j : Nat) : Int)

theorem pw_of_pow {W : World} (h : VarIs W "bascule/rank.powers" Rows.laid_bascule_rank_powers) : Pw W := by
  obtain ⟨g', t', cs, fuel, p, hg', ht', hvar, hd⟩ := h
  obtain rfl := Option.some.inj (gTab.symm.trans hg')
  obtain rfl := Option.some.inj (gTabType.symm.trans ht')
  obtain ⟨xs, m, _, hx, hlen, hxl, hrow⟩ := DataW.trod_array Tryd.underlying157 hd
  rw [cellsTab] at hlen
  rw [cellsRow] at hrow
  have hxs : xs.map (·.1) = [Lib.tabData .i64 (rowZ 0), Lib.tabData .i64 (rowZ 1), Lib.tabData .i64 (rowZ 2)] := by
    have := DataW.agg.inj (congrArg Prod.fst hx)
    exact this.symm.trans rfl
  intro i hi j hj
  have hr := hrow i hi
  have hx0 : xs[i]? = some (Lib.tabData .i64 (rowZ i), (xs[i]'(by omega)).2) := by
    have h1 : (xs.map (·.1))[i]? = some (Lib.tabData .i64 (rowZ i)) := by
      rw [hxs]
      match i, hi with
      | 0, _ => rfl
      | 1, _ => rfl
      | 2, _ => rfl
    rw [List.getElem?_map, List.getElem?_eq_getElem (by omega)] at h1
    rw [List.getElem?_eq_getElem (by omega)]
    simp only [Option.map_some, Option.some.injEq] at h1
    rw [← h1]
  rw [hx0] at hr
  have hc := Lib.cells_of_tab Tryd.underlying156 Tryd.underlying3 cellsInt cellsRow hr
  have hcell := World.var?_cell gTab hvar (i * 5 + j)
  rw [hcell]
  have h2 : ((cs.toList.drop (i * 5)).take 5)[j]? = some (.int .i64 (((i + 2) ^ j : Nat) : Int)) := by
    rw [hc]
    simp [rowZ, hj]
  rw [List.getElem?_take, if_pos hj, List.getElem?_drop] at h2
  simpa using h2

theorem all_of_laid {W : World} (h : laidMetH Tryd.prog [("bascule/rank.powers", Rows.laid_bascule_rank_powers), ("bascule/op.objects", Rows.laid_bascule_op_objects), ("bascule/op.writers", Rows.laid_bascule_op_writers)] W) : Pw W ∧ Ob W ∧ Wr W := by
  obtain ⟨ps, hv, _⟩ := h
  obtain ⟨h1, q, h2⟩ := vars_cons hv
  obtain ⟨h3, q', h4⟩ := vars_cons h2
  exact ⟨pw_of_pow h1, ob_of_var h3, wr_of_var (vars_cons h4).1⟩
theorem pow_of_laid {W : World} (h : laidMetH Tryd.prog [("bascule/rank.powers", Rows.laid_bascule_rank_powers)] W) : Pw W := by
  obtain ⟨ps, hv, _⟩ := h
  exact pw_of_pow (vars_cons hv).1

end Go.Proofs.YtecjbgddjejjdaaDoor
