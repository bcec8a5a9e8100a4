/- Plain: readers' marks. -/
import Derived.Test.YtecjbgddjejjdaaPlainPartB
import Derived.Test.YtecjbgddjejjdaaPlainCell
namespace Go.Proofs.Ytecjbgddjejjdaa

/-- The error of a version and a thread. -/
def mkE (c : Cfg) (v t : Int) : Int := if c.May ∧ c.kd = 1 then (if 0 ≤ v ∧ v < 2 ∧ 0 ≤ t ∧ t < c.thr then 0 else 2) else 40
theorem mkE_no {c : Cfg} (h : ¬ (c.May ∧ c.kd = 1)) (v t : Int) : mkE c v t = 40 := if_neg h
theorem mkE_in {c : Cfg} (h : c.May ∧ c.kd = 1) {v t : Int} (g : 0 ≤ v ∧ v < 2 ∧ 0 ≤ t ∧ t < c.thr) : mkE c v t = 0 := by unfold mkE; rw [if_pos h, if_pos g]
theorem mkE_out {c : Cfg} (h : c.May ∧ c.kd = 1) {v t : Int} (g : ¬ (0 ≤ v ∧ v < 2 ∧ 0 ≤ t ∧ t < c.thr)) : mkE c v t = 2 := by unfold mkE; rw [if_pos h, if_neg g]
/-- A mark that there is. -/
theorem mark_has {c : Cfg} (h : c.May ∧ c.kd = 1) {v t : Int} (g : 0 ≤ v ∧ v < 2 ∧ 0 ≤ t ∧ t < c.thr) : hasZ c.shp 6 v t = true := by
  refine hasZ_t.2 ⟨g.1, g.2.2.1, ?_⟩
  have hs : c.shp.slots = true := by simp [Cfg.shp, h.2]
  have ht : c.shp.thr = c.thr.toNat := rfl
  simp only [hasP, plZ, countsN, hs]
  simp
  omega
theorem mark_at {c : Cfg} (h : c.May ∧ c.kd = 1) {v t : Int} (g : 0 ≤ v ∧ v < 2 ∧ 0 ≤ t ∧ t < c.thr) : atV c 6 v t = (3 + 2 * c.shp.thr + v.toNat * c.shp.thr + t.toNat : Nat) := by
  rw [atV_in h.1 (mark_has h g)]
  simp [plZ, whereN]

def Acc.none : Acc := ⟨0, 0, .zero, .zero⟩
/-- An access to a mark. -/
def mkA (c : Cfg) (v t : Int) (x : Acc) : Acc := if mkE c v t = 0 then ⟨x.k, atV c 6 v t, x.old, x.new⟩ else .none

end Go.Proofs.Ytecjbgddjejjdaa
