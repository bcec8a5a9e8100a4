/- Chapter 4: a fresh memory. -/
import Derived.Test.YtecjbgddjejjdaaPartM
import Derived.Test.YtecjbgddjejjdaaZeros
import Derived.WalkSpells
namespace Go.Proofs.Ytecjbgddjejjdaa
open Go.RowKit



/-- A fresh memory. -/
def freshL (c : Cfg) : List Cel := (zerosL (allN c.shp)).set 2 ⟨c.shp.inst + 5, 0, 0, 0⟩
def frL (c : Cfg) : List Cel := if c.May then freshL c else []
theorem freshL_len (c : Cfg) : (freshL c).length = allN c.shp := by simp [freshL, zeros_len]
def FreshPost (c : Cfg) (w : World) (e : Ending) (w' : World) : Prop := ∃ a cap, e = .returned (.tuple #[.slice a (frL c).length cap, .int .i64 (checkE c)]) ∧ Rd w' a cap (frL c) ∧ Below w.heap.size w w'

end Go.Proofs.Ytecjbgddjejjdaa
