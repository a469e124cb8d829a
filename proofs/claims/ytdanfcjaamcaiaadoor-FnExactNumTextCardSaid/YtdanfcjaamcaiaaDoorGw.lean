/- What the library's contracts ask of the world in which they are met: the table of powers of ten. It lasts, whatever is made behind the heap. -/
import Derived.Test.YtdanfcjaamcaiaaDoorShelf
import Derived.Below
import Derived.Lib.AppendIntMem
import Derived.Lib.ItoaMem
namespace Go.Proofs.YtdanfcjaamcaiaaDoor.P
open Go Go.RowKit
set_option linter.unusedVariables false
structure GW (w : World) : Prop where
  tab : Lib.TabIs Tryd.prog w "internal/strconv.uint64pow10" .u64 Lib.pow10Tab

theorem GW.below {w w' : World} (h : GW w) (hb : Below w.heap.size w w') : GW w' := ⟨Lib.tabBelow_of_tabIs h.tab _ hb⟩
end Go.Proofs.YtdanfcjaamcaiaaDoor.P
