/- Chapter 4: part.Cells. -/
import Derived.Test.YtecjbgddjejjdaaPartF
import Derived.Test.YtecjbgddjejjdaaPartJ
namespace Go.Proofs.Ytecjbgddjejjdaa
open Go.RowKit



end Go.Proofs.Ytecjbgddjejjdaa
