/- Contracts of Go functions as Lean functions, and rows of laws, written by the session's program gprint.py (the kit's printer, with functions given by hand). -/
import Derived.Test.YtdalplbgbgciiaaProg
import Derived.Below
import Derived.Deep.Draws
import Derived.Deep.AppendLies
import Derived.Maps.AppendAt
import Derived.OwnWalk
import Derived.Laws.BytesArg
import Derived.Laws.MakeOwn
import Derived.Laws.OwnMore
import Derived.Deep.OwnRows
import Derived.Tactics
import Derived.Lib.ConvBytes
import Derived.Laws.Slices
import Derived.WalkKit
import Derived.KernelRfl
import Derived.RowKit3
import Derived.Deep.LoopGhost
import Derived.Deep.QuietTactic
import Derived.BigQuiet
import Derived.WideLaws
import Derived.Deep.DeepCutAuto
import Derived.Deep.CutBlock
import Derived.Deep.RegionHeld3
import Derived.Laws.Rows
import Derived.Lib.AppendStr
import Derived.ArgAppend
import Derived.Laws.IdiomCopy
import Derived.OrdersHeld
import Derived.Laws.BitsLemmas
import Derived.RowKit
import Derived.Test.YtdalplbgbgciiaaGMake
import Derived.Test.YtdalplbgbgciiaaGLetters
import Derived.Test.YtdalplbgbgciiaaGOrder
import Derived.Test.YtdalplbgbgciiaaWWords
import Derived.Test.YtdalplbgbgciiaaWLast
import Derived.Test.YtdalplbgbgciiaaWTab
import Derived.Test.YtdalplbgbgciiaaWFour
import Derived.Test.YtdalplbgbgciiaaWQPut
import Derived.Test.YtdalplbgbgciiaaWApart
import Derived.Test.YtdalplbgbgciiaaWArr
import Derived.Test.YtdalplbgbgciiaaWZeros
import Derived.Test.YtdalplbgbgciiaaWFoot
import Derived.Test.YtdalplbgbgciiaaWKept
import Derived.Test.YtdalplbgbgciiaaWShare
import Derived.Test.YtdalplbgbgciiaaWN
import Derived.Test.YtdalplbgbgciiaaWFootNe
import Derived.Test.YtdalplbgbgciiaaWAt
import Derived.Test.YtdalplbgbgciiaaWEqStruct
import Derived.Test.YtdalplbgbgciiaaWRepsOne
import Derived.Test.YtdalplbgbgciiaaWInv
import Derived.Test.YtdalplbgbgciiaaWInvWords
import Derived.Test.YtdalplbgbgciiaaWGuard
import Derived.Test.YtdalplbgbgciiaaWNEv
import Derived.Test.YtdalplbgbgciiaaWMore
namespace Go.Proofs.Ytdalplbgbgciiaa.PA
open Go.RowKit Go.Proofs.YtdalplbgbgciiaaW.PrintWords Go.Proofs.YtdalplbgbgciiaaW.PrintLast Go.Proofs.YtdalplbgbgciiaaW.PrintMore
attribute [local go_sem] max2_int min2_int max_two min_two max_three min_three max_four min_four   -- for this text's walks alone
set_option linter.unusedVariables false
set_option linter.unusedSimpArgs false



def errW : Option Int → Value
  | none => .nilIface
  | some c => .iface 0 (.int .i64 c)
theorem errW_none : errW none = .nilIface := rfl
theorem errW_some (c : Int) : errW (some c) = .iface 0 (.int .i64 c) := rfl

theorem info5 : (Try.prog.info? 5).map (fun i => (i.zero, i.size, i.bytes)) = some (some (.int .u8 0), 1, 1) := by kernel_rfl
-- the values' own types

end Go.Proofs.Ytdalplbgbgciiaa.PA
