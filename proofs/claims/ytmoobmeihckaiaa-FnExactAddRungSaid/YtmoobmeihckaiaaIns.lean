/- slices.Insert at []int, laid at this program: the kit's own contracts over its shelf. -/
import Derived.Test.YtmoobmeihckaiaaProg
import Derived.Shelf.Spec.SlicesInsertGrow
import Derived.Shelf.Lay
import Derived.Ground.Names2Prog
namespace Go.Proofs
open Go.Shelf
shelf_lay Lays2.n21 Nm2 21 at Try as Try.lays21
end Go.Proofs
