/- The one table of the library's that the program's numbers read: the powers of ten. -/
import Derived.Test.YtmkanjcehhbmlaaGreatDoorProg
import Derived.WalkKit
import Derived.Lib.AppendIntMem
set_option linter.all false
section
namespace Go.Proofs.YtmkanjcehhbmlaaGreatDoor.Pr
open Go.RowKit
/-- The powers of ten lie where the program laid them. -/
def Tab (w : World) : Prop := Lib.TabIs Tryz.prog w "internal/strconv.uint64pow10" .u64 Lib.pow10Tab
theorem Tab.below {w w' : World} (h : Tab w) (hb : Below w.heap.size w w') : Tab w' := Lib.tabBelow_of_tabIs h w' hb
end Go.Proofs.YtmkanjcehhbmlaaGreatDoor.Pr
end
