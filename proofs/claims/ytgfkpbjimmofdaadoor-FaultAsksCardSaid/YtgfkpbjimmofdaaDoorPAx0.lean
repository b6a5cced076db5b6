/- Contracts of Go functions as Lean functions, and rows of laws, written by the session's program gprint.py (the kit's printer, with functions given by hand). -/
import Derived.Test.YtgfkpbjimmofdaaDoorProg
import Derived.Below
import Derived.Deep.Draws
import Derived.Deep.AppendLies
import Derived.Maps.AppendAt
import Derived.OwnWalk
import Derived.Laws.BytesArg
import Derived.Laws.MakeOwn
import Derived.Laws.OwnMore
import Derived.Deep.OwnRows
import Derived.Tactics
import Derived.Lib.ConvBytes
import Derived.Laws.Slices
import Derived.WalkKit
import Derived.KernelRfl
import Derived.RowKit3
import Derived.Deep.LoopGhost
import Derived.Deep.QuietTactic
import Derived.BigQuiet
import Derived.WideLaws
import Derived.Deep.DeepCutAuto
import Derived.Deep.CutBlock
import Derived.Deep.RegionHeld3
import Derived.Laws.Rows
import Derived.Lib.AppendStr
import Derived.ArgAppend
import Derived.Laws.IdiomCopy
import Derived.OrdersHeld
import Derived.Laws.BitsLemmas
import Derived.RowKit
import Derived.Test.YtgfkpbjimmofdaaDoorGDigits
import Derived.Test.YtgfkpbjimmofdaaDoorWWords
import Derived.Test.YtgfkpbjimmofdaaDoorWLast
import Derived.Test.YtgfkpbjimmofdaaDoorWTab
import Derived.Test.YtgfkpbjimmofdaaDoorWFour
import Derived.Test.YtgfkpbjimmofdaaDoorWQPut
import Derived.Test.YtgfkpbjimmofdaaDoorWApart
import Derived.Test.YtgfkpbjimmofdaaDoorWArr
import Derived.Test.YtgfkpbjimmofdaaDoorWZeros
import Derived.Test.YtgfkpbjimmofdaaDoorWFoot
import Derived.Test.YtgfkpbjimmofdaaDoorWKept
import Derived.Test.YtgfkpbjimmofdaaDoorWShare
import Derived.Test.YtgfkpbjimmofdaaDoorWN
import Derived.Test.YtgfkpbjimmofdaaDoorWFootNe
import Derived.Test.YtgfkpbjimmofdaaDoorWAt
import Derived.Test.YtgfkpbjimmofdaaDoorWEqStruct
import Derived.Test.YtgfkpbjimmofdaaDoorWRepsOne
import Derived.Test.YtgfkpbjimmofdaaDoorWInv
import Derived.Test.YtgfkpbjimmofdaaDoorWInvWords
import Derived.Test.YtgfkpbjimmofdaaDoorWGuard
import Derived.Test.YtgfkpbjimmofdaaDoorWNEv
import Derived.Test.YtgfkpbjimmofdaaDoorWMore
namespace Go.Proofs.YtgfkpbjimmofdaaDoor.PA
open Go.RowKit Go.Proofs.YtgfkpbjimmofdaaDoorW.PrintWords Go.Proofs.YtgfkpbjimmofdaaDoorW.PrintLast Go.Proofs.YtgfkpbjimmofdaaDoorW.PrintMore
attribute [local go_sem] max2_int min2_int max_two min_two max_three min_three max_four min_four   -- for this text's walks alone
set_option linter.unusedVariables false
set_option linter.unusedSimpArgs false



def errW : Option Int → Value
  | none => .nilIface
  | some c => .iface 22 (.int .i64 c)
theorem errW_none : errW none = .nilIface := rfl
theorem errW_some (c : Int) : errW (some c) = .iface 22 (.int .i64 c) := rfl

theorem info3 : (Tryd.prog.info? 3).map (fun i => (i.zero, i.size, i.bytes)) = some (some (.int .i64 0), 1, 8) := by kernel_rfl
theorem info5 : (Tryd.prog.info? 5).map (fun i => (i.zero, i.size, i.bytes)) = some (some (.int .u8 0), 1, 1) := by kernel_rfl
-- the values' own types

end Go.Proofs.YtgfkpbjimmofdaaDoor.PA
