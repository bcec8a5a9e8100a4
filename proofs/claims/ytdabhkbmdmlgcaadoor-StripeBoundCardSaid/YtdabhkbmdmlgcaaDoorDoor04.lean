/- What the row's list gives: the table of powers. -/
import Derived.Test.YtdabhkbmdmlgcaaDoorRows
import Derived.Test.YtdabhkbmdmlgcaaDoorLev
import Derived.OpenShut
import Derived.Lib.LaidTab
namespace Go.Proofs.YtdabhkbmdmlgcaaDoor
open Go.RowKit

theorem gTab : Tryd.prog.globalNamed "bascule/rank.powers" = some 0 := by kernel_rfl
theorem gTabType : (Tryd.prog.globals[0]?).map (·.type) = some 112 := by kernel_rfl
theorem cellsTab : Tryd.prog.cellsOf 112 = 15 := by kernel_rfl
theorem cellsRow : Tryd.prog.cellsOf 111 = 5 := by kernel_rfl
theorem cellsInt : Tryd.prog.cellsOf 3 = 1 := by kernel_rfl

def rowZ (i : Nat) : List Int := (List.range 5).map fun j => (((i + 2) ^ j : Nat) : Int)

theorem pw_of_var {W : World} (h : laidMetH Tryd.prog [("bascule/rank.powers", Rows.laid_bascule_rank_powers)] W) : Pw W := by
  obtain ⟨ps, ⟨g', t', cs, fuel, p, q, hg', ht', hvar, hd, _, _⟩, _⟩ := h
  obtain rfl := Option.some.inj (gTab.symm.trans hg')
  obtain rfl := Option.some.inj (gTabType.symm.trans ht')
  obtain ⟨xs, m, _, hx, hlen, hxl, hrow⟩ := DataW.trod_array Tryd.underlying112 hd
  rw [cellsTab] at hlen
  rw [cellsRow] at hrow
  have hxs : xs.map (·.1) = [Lib.tabData .i64 (rowZ 0), Lib.tabData .i64 (rowZ 1), Lib.tabData .i64 (rowZ 2)] := by
    have := DataW.agg.inj (congrArg Prod.fst hx)
    exact this.symm.trans rfl
  intro i hi j hj
  have hr := hrow i hi
  have hx0 : xs[i]? = some (Lib.tabData .i64 (rowZ i), (xs[i]'(by omega)).2) := by
    have h1 : (xs.map (·.1))[i]? = some (Lib.tabData .i64 (rowZ i)) := by
      rw [hxs]
      match i, hi with
      | 0, _ => rfl
      | 1, _ => rfl
      | 2, _ => rfl
    rw [List.getElem?_map, List.getElem?_eq_getElem (by omega)] at h1
    rw [List.getElem?_eq_getElem (by omega)]
    simp only [Option.map_some, Option.some.injEq] at h1
    rw [← h1]
  rw [hx0] at hr
  have hc := Lib.cells_of_tab Tryd.underlying111 Tryd.underlying3 cellsInt cellsRow hr
  have hcell := World.var?_cell gTab hvar (i * 5 + j)
  rw [hcell]
  have h2 : ((cs.toList.drop (i * 5)).take 5)[j]? = some (.int .i64 (((i + 2) ^ j : Nat) : Int)) := by
    rw [hc]
    simp [rowZ, hj]
  rw [List.getElem?_take, if_pos hj, List.getElem?_drop] at h2
  simpa using h2

end Go.Proofs.YtdabhkbmdmlgcaaDoor
