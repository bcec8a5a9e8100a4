/- Contract of (*Mem).Do, where the access is at a place of the memory. -/
import Derived.Test.YtecjbgddjejjdaaCellDo
namespace Go.Proofs.Ytecjbgddjejjdaa
open Go.RowKit

end Go.Proofs.Ytecjbgddjejjdaa
