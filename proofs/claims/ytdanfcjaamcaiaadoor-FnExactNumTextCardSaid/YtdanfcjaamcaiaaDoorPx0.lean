-- Written by xprint.py (by way of the kit's print program) out of the translation.
import Derived.Test.YtdanfcjaamcaiaaDoorProg
import Derived.Below
import Derived.Deep.Draws
import Derived.Deep.AppendLies
import Derived.Maps.AppendAt
import Derived.OwnWalk
import Derived.Laws.BytesArg
import Derived.Laws.MakeOwn
import Derived.Laws.OwnMore
import Derived.Deep.OwnRows
import Derived.Tactics
import Derived.Lib.ConvBytes
import Derived.Laws.Slices
import Derived.WalkKit
import Derived.KernelRfl
import Derived.RowKit3
import Derived.Deep.LoopGhost
import Derived.Deep.QuietTactic
import Derived.BigQuiet
import Derived.WideLaws
import Derived.Deep.DeepCutAuto
import Derived.Deep.CutBlock
import Derived.Deep.RegionHeld3
import Derived.Laws.Rows
import Derived.Lib.AppendStr
import Derived.ArgAppend
import Derived.Laws.IdiomCopy
import Derived.OrdersHeld
import Derived.Laws.BitsLemmas
import Derived.RowKit
import Derived.Lib.LazyBuf
import Derived.Test.YtdanfcjaamcaiaaDoorGw
import Derived.Test.YtdanfcjaamcaiaaDoorWWords
import Derived.Test.YtdanfcjaamcaiaaDoorWLast
import Derived.Test.YtdanfcjaamcaiaaDoorWTab
import Derived.Test.YtdanfcjaamcaiaaDoorWFour
import Derived.Test.YtdanfcjaamcaiaaDoorWQPut
import Derived.Test.YtdanfcjaamcaiaaDoorWApart
import Derived.Test.YtdanfcjaamcaiaaDoorWArr
import Derived.Test.YtdanfcjaamcaiaaDoorWZeros
import Derived.Test.YtdanfcjaamcaiaaDoorWFoot
import Derived.Test.YtdanfcjaamcaiaaDoorWKept
import Derived.Test.YtdanfcjaamcaiaaDoorWShare
import Derived.Test.YtdanfcjaamcaiaaDoorWN
import Derived.Test.YtdanfcjaamcaiaaDoorWFootNe
import Derived.Test.YtdanfcjaamcaiaaDoorWAt
import Derived.Test.YtdanfcjaamcaiaaDoorWEqStruct
import Derived.Test.YtdanfcjaamcaiaaDoorWRepsOne
import Derived.Test.YtdanfcjaamcaiaaDoorWInv
import Derived.Test.YtdanfcjaamcaiaaDoorWInvWords
import Derived.Test.YtdanfcjaamcaiaaDoorWGuard
import Derived.Test.YtdanfcjaamcaiaaDoorWNEv
import Derived.Test.YtdanfcjaamcaiaaDoorWMore
namespace Go.Proofs.YtdanfcjaamcaiaaDoor.P
open Go.RowKit Go.Proofs.YtdanfcjaamcaiaaDoorW.PrintWords Go.Proofs.YtdanfcjaamcaiaaDoorW.PrintLast Go.Proofs.YtdanfcjaamcaiaaDoorW.PrintMore
attribute [local go_sem] max2_int min2_int max_two min_two max_three min_three max_four min_four   -- for this text's walks alone
set_option linter.unusedVariables false
set_option linter.unusedSimpArgs false



def errW : Option Int → Value
  | none => .nilIface
  | some c => .iface 0 (.int .i64 c)
theorem errW_none : errW none = .nilIface := rfl
theorem errW_some (c : Int) : errW (some c) = .iface 0 (.int .i64 c) := rfl

theorem info5 : (Tryd.prog.info? 5).map (fun i => (i.zero, i.size, i.bytes)) = some (some (.int .u8 0), 1, 1) := by kernel_rfl
-- the values' own types

end Go.Proofs.YtdanfcjaamcaiaaDoor.P
