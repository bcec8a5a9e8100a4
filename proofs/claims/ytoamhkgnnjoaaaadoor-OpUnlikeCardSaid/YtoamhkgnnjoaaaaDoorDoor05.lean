/- What the row's list gives: the tables of kinds. -/
import Derived.Test.YtoamhkgnnjoaaaaDoorRows
import Derived.Test.YtoamhkgnnjoaaaaDoorOpC
import Derived.OpenShut
import Derived.ChangeArms
import Derived.Lib.LaidTab
namespace Go.Proofs.YtoamhkgnnjoaaaaDoor
open Go.RowKit

theorem gObj : Tryd.prog.globalNamed "bascule/op.objects" = some 0 := by kernel_rfl
theorem gObjType : (Tryd.prog.globals[0]?).map (·.type) = some 66 := by kernel_rfl
theorem gWri : Tryd.prog.globalNamed "bascule/op.writers" = some 1 := by kernel_rfl
theorem gWriType : (Tryd.prog.globals[1]?).map (·.type) = some 67 := by kernel_rfl
theorem cellsO : Tryd.prog.cellsOf 66 = 15 := by kernel_rfl
theorem cellsW : Tryd.prog.cellsOf 67 = 15 := by kernel_rfl
theorem cellsU8 : Tryd.prog.cellsOf 5 = 1 := by kernel_rfl
theorem cellsBl : Tryd.prog.cellsOf 4 = 1 := by kernel_rfl

/-- One listed variable's part. -/
def VarIs (W : World) (n : String) (d : DataW Unit) : Prop :=
  ∃ g t cs fuel p, Tryd.prog.globalNamed n = some g ∧ (Tryd.prog.globals[g]?).map (·.type) = some t ∧ W.var? Tryd.prog n = some cs ∧ DataW.trod (fun _ => ()) Tryd.prog W 0 (fun _ => true) false fuel t cs.toList = some (d, p)

theorem vars_cons {W : World} {n : String} {d : DataW Unit} {r : List (String × DataW Unit)} {ps : List MemPlace} (h : DataW.LaidVars Tryd.prog W ((n, d) :: r) ps) : VarIs W n d ∧ ∃ q, DataW.LaidVars Tryd.prog W r q := by
  obtain ⟨g, t, cs, fuel, p, q, hg, ht, hv, hd, hr, _⟩ := h
  exact ⟨⟨g, t, cs, fuel, p, hg, ht, hv, hd⟩, q, hr⟩

theorem ob_of_var {W : World} (h : VarIs W "bascule/op.objects" Rows.laid_bascule_op_objects) : Ob W := by
  obtain ⟨g', t', cs, fuel, p, hg', ht', hvar, hd⟩ := h
  obtain rfl := Option.some.inj (gObj.symm.trans hg')
  obtain rfl := Option.some.inj (gObjType.symm.trans ht')
  have hc := Lib.cells_of_tab (k := .u8) (zs := [0, 1, 1, 1, 2, 2, 2, 2, 2, 3, 3, 3, 4, 4, 4]) Tryd.underlying66 Tryd.underlying5 cellsU8 cellsO hd
  intro i hi
  rw [World.var?_cell gObj hvar i, ← Array.getElem?_toList, hc]
  match i, hi with
  | 0, _ => rfl
  | 1, _ => rfl
  | 2, _ => rfl
  | 3, _ => rfl
  | 4, _ => rfl
  | 5, _ => rfl
  | 6, _ => rfl
  | 7, _ => rfl
  | 8, _ => rfl
  | 9, _ => rfl
  | 10, _ => rfl
  | 11, _ => rfl
  | 12, _ => rfl
  | 13, _ => rfl
  | 14, _ => rfl

theorem wr_of_var {W : World} (h : VarIs W "bascule/op.writers" Rows.laid_bascule_op_writers) : Wr W := by
  obtain ⟨g', t', cs, fuel, p, hg', ht', hvar, hd⟩ := h
  obtain rfl := Option.some.inj (gWri.symm.trans hg')
  obtain rfl := Option.some.inj (gWriType.symm.trans ht')
  obtain ⟨xs, m, _, hx, hlen, hxl, hrow⟩ := DataW.trod_array Tryd.underlying67 hd
  have hxs : xs.map (·.1) = [.lit (.bool false), .lit (.bool true), .lit (.bool true), .lit (.bool false), .lit (.bool true), .lit (.bool true), .lit (.bool false), .lit (.bool false), .lit (.bool false), .lit (.bool true), .lit (.bool true), .lit (.bool false), .lit (.bool true), .lit (.bool true), .lit (.bool false)] := by
    have := DataW.agg.inj (congrArg Prod.fst hx)
    exact this.symm.trans rfl
  intro i hi
  have hr := hrow i hi
  rw [cellsBl, Nat.mul_one] at hr
  have hlt : i < xs.length := by omega
  rw [List.getElem?_eq_getElem hlt] at hr
  obtain ⟨b, hb, hb2⟩ := DataW.trod_bool Tryd.underlying4 hr
  rw [World.var?_cell gWri hvar i, ← Array.getElem?_toList]
  have h1 : cs.toList[i]? = some (.bool b) := by
    have h2 := congrArg (fun l => l[0]?) hb
    simp only [List.getElem?_take, List.getElem?_drop] at h2
    simpa using h2
  rw [h1]
  have h3 : (xs.map (·.1))[i]? = some (.lit (.bool b)) := by
    rw [List.getElem?_map, List.getElem?_eq_getElem hlt, hb2]
    rfl
  rw [hxs] at h3
  clear hr hb hb2 h1 hxs
  match i, hi with
  | 0, _ => simp at h3; subst h3; rfl
  | 1, _ => simp at h3; subst h3; rfl
  | 2, _ => simp at h3; subst h3; rfl
  | 3, _ => simp at h3; subst h3; rfl
  | 4, _ => simp at h3; subst h3; rfl
  | 5, _ => simp at h3; subst h3; rfl
  | 6, _ => simp at h3; subst h3; rfl
  | 7, _ => simp at h3; subst h3; rfl
  | 8, _ => simp at h3; subst h3; rfl
  | 9, _ => simp at h3; subst h3; rfl
  | 10, _ => simp at h3; subst h3; rfl
  | 11, _ => simp at h3; subst h3; rfl
  | 12, _ => simp at h3; subst h3; rfl
  | 13, _ => simp at h3; subst h3; rfl
  | 14, _ => simp at h3; subst h3; rfl

theorem ob_of_laid {W : World} (h : laidMetH Tryd.prog [("bascule/op.objects", Rows.laid_bascule_op_objects)] W) : Ob W := by
  obtain ⟨ps, hv, _⟩ := h
  exact ob_of_var (vars_cons hv).1
theorem ops_of_laid {W : World} (h : laidMetH Tryd.prog [("bascule/op.objects", Rows.laid_bascule_op_objects), ("bascule/op.writers", Rows.laid_bascule_op_writers)] W) : Ob W ∧ Wr W := by
  obtain ⟨ps, hv, _⟩ := h
  obtain ⟨h1, q, h2⟩ := vars_cons hv
  exact ⟨ob_of_var h1, wr_of_var (vars_cons h2).1⟩

end Go.Proofs.YtoamhkgnnjoaaaaDoor
