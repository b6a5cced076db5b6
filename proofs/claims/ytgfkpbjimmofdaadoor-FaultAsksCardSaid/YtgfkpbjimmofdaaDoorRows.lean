/-
  NARROWER THAN 'FOR EVERY INPUT', by the rows' own cells (each row's printed sentence says how): FaultAsks: laid · FaultKept: laid · FaultOuter: laid · FaultFound: laid · FaultHas: laid · FaultBare: laid.
  DERIVED. THE GIVEN ROWS OF THIS SEAT. 6 by the template 'for every input the law returns true; each argument reads behind the call as it read before'; 0 by the template 'total and deterministic' (their statements: YtgfkpbjimmofdaaDoorTotals.lean).
  GIVEN WITH THE SEED: the statements are not yours to turn. If you find one false, say at which input.
  Laid BY PROGRAM, IN A SANDBOX (cutbox-rows.mjs): the forced cells as the released guide's own fill.sh prints them over the translation d92b5291436a060a… (all of the seat's roots in one cut). By AI agents, Wed Nov 11 2026. No macro, syntax, notation, axiom, sorry.
-/
import Derived.Test.YtgfkpbjimmofdaaDoorChecked
import GoSem.Claim
import GoSem.ClaimJoined
import GoSem.ClaimMapViews
import Derived.JoinedTies
import Derived.KernelRfl
namespace Go.Proofs.YtgfkpbjimmofdaaDoor
/- THE CELL 'sum', in the pinned program and in every row, IS THE sha256 OF THE DUMP (.gsa) THAT YtgfkpbjimmofdaaDoorProg.lean LOADS. Nothing in Lean hashes anything: it is a label: what it is worth is what the hold of that sum in a sandbox is worth. -/
noncomputable def Tryd.pinned : Pinned := { name := "ytgfkpbjimmofdaadoor", sum := "d92b5291436a060aed97dae829a4cecf0e9b99c2d93d52fdfe8eaccb0d9804f8", checked := Tryd.checked }
namespace Rows
def none {H : Type} : Left H := { results := [], args := [] }

/- WHAT THE LISTED PACKAGE-LEVEL VARIABLES READ AS WHEN THE CALL BEGINS. Each datum BY PROGRAM (the guide's laid-datum.mjs) off the statement by which the dump's own 'gosem.cut.vars' lays the variable. In a bare row this is a premise. The card (YtgfkpbjimmofdaaDoorCards.lean) ties it to the program's text. -/
def laid_errors_errorType {H : Type} : DataW H := .iface "internal/reflectlite.rtype" (.agg [.ptr (.lit (.string [101, 114, 114, 111, 114]))])

/-- 'placketlaw04.FaultAsks': WHATEVER THE INPUT: true; the input reads as it did. -/
def faultAsksSpec : ChangeSpec := { name := "faultAsks", fn := fun _ => fun
  | [d1, d2, d3] => { results := [.lit (.bool true)], args := [d1, d2, d3] }
  | _ => none }
def faultAsksRow : OpenClaim := { program := "ytgfkpbjimmofdaadoor", sum := "d92b5291436a060aed97dae829a4cecf0e9b99c2d93d52fdfe8eaccb0d9804f8", func := "placket/placketlaw04.FaultAsks", spec := "faultAsks", inPlace := ["internal/reflectlite.ValueOf", "(internal/reflectlite.Value).Type", "(internal/reflectlite.Value).IsNil", "internal/reflectlite.TypeOf", "(internal/reflectlite.Value).Elem", "(internal/reflectlite.Value).Set"], unfollowed := true, recurses := true, named := ["errors.errorType"], apart := false, laid := [("errors.errorType", laid_errors_errorType)] }
def FaultAsksSaid : Prop := faultAsksRow.holds Tryd.pinned (OpenSpec.ofChange faultAsksSpec)

/-- ITS FALSE NEIGHBOUR: 'it returns false'. Refute it at one input. -/
def faultAsksWrong : ChangeSpec := { name := "faultAsks", fn := fun _ => fun
  | [d1, d2, d3] => { results := [.lit (.bool false)], args := [d1, d2, d3] }
  | _ => none }
def FaultAsksWrongFalsely : Prop := faultAsksRow.holds Tryd.pinned (OpenSpec.ofChange faultAsksWrong)

/-- 'placketlaw04.FaultKept': WHATEVER THE INPUT: true; the input reads as it did. -/
def faultKeptSpec : ChangeSpec := { name := "faultKept", fn := fun _ => fun
  | [d1, d2, d3] => { results := [.lit (.bool true)], args := [d1, d2, d3] }
  | _ => none }
def faultKeptRow : OpenClaim := { program := "ytgfkpbjimmofdaadoor", sum := "d92b5291436a060aed97dae829a4cecf0e9b99c2d93d52fdfe8eaccb0d9804f8", func := "placket/placketlaw04.FaultKept", spec := "faultKept", inPlace := ["internal/reflectlite.ValueOf", "(internal/reflectlite.Value).Type", "(internal/reflectlite.Value).IsNil", "internal/reflectlite.TypeOf", "(internal/reflectlite.Value).Elem", "(internal/reflectlite.Value).Set"], unfollowed := true, recurses := true, named := ["errors.errorType"], apart := false, laid := [("errors.errorType", laid_errors_errorType)] }
def FaultKeptSaid : Prop := faultKeptRow.holds Tryd.pinned (OpenSpec.ofChange faultKeptSpec)

/-- ITS FALSE NEIGHBOUR: 'it returns false'. Refute it at one input. -/
def faultKeptWrong : ChangeSpec := { name := "faultKept", fn := fun _ => fun
  | [d1, d2, d3] => { results := [.lit (.bool false)], args := [d1, d2, d3] }
  | _ => none }
def FaultKeptWrongFalsely : Prop := faultKeptRow.holds Tryd.pinned (OpenSpec.ofChange faultKeptWrong)

/-- 'placketlaw04.FaultOuter': WHATEVER THE INPUT: true; the input reads as it did. -/
def faultOuterSpec : ChangeSpec := { name := "faultOuter", fn := fun _ => fun
  | [d1, d2, d3, d4] => { results := [.lit (.bool true)], args := [d1, d2, d3, d4] }
  | _ => none }
def faultOuterRow : OpenClaim := { program := "ytgfkpbjimmofdaadoor", sum := "d92b5291436a060aed97dae829a4cecf0e9b99c2d93d52fdfe8eaccb0d9804f8", func := "placket/placketlaw04.FaultOuter", spec := "faultOuter", inPlace := ["internal/reflectlite.ValueOf", "(internal/reflectlite.Value).Type", "(internal/reflectlite.Value).IsNil", "internal/reflectlite.TypeOf", "(internal/reflectlite.Value).Elem", "(internal/reflectlite.Value).Set"], unfollowed := true, recurses := true, named := ["errors.errorType"], apart := false, laid := [("errors.errorType", laid_errors_errorType)] }
def FaultOuterSaid : Prop := faultOuterRow.holds Tryd.pinned (OpenSpec.ofChange faultOuterSpec)

/-- ITS FALSE NEIGHBOUR: 'it returns false'. Refute it at one input. -/
def faultOuterWrong : ChangeSpec := { name := "faultOuter", fn := fun _ => fun
  | [d1, d2, d3, d4] => { results := [.lit (.bool false)], args := [d1, d2, d3, d4] }
  | _ => none }
def FaultOuterWrongFalsely : Prop := faultOuterRow.holds Tryd.pinned (OpenSpec.ofChange faultOuterWrong)

/-- 'placketlaw04.FaultFound': WHATEVER THE INPUT: true; the input reads as it did. -/
def faultFoundSpec : ChangeSpec := { name := "faultFound", fn := fun _ => fun
  | [d1, d2, d3, d4] => { results := [.lit (.bool true)], args := [d1, d2, d3, d4] }
  | _ => none }
def faultFoundRow : OpenClaim := { program := "ytgfkpbjimmofdaadoor", sum := "d92b5291436a060aed97dae829a4cecf0e9b99c2d93d52fdfe8eaccb0d9804f8", func := "placket/placketlaw04.FaultFound", spec := "faultFound", inPlace := ["internal/reflectlite.ValueOf", "(internal/reflectlite.Value).Type", "(internal/reflectlite.Value).IsNil", "internal/reflectlite.TypeOf", "(internal/reflectlite.Value).Elem", "(internal/reflectlite.Value).Set"], unfollowed := true, recurses := true, named := ["errors.errorType"], apart := false, laid := [("errors.errorType", laid_errors_errorType)] }
def FaultFoundSaid : Prop := faultFoundRow.holds Tryd.pinned (OpenSpec.ofChange faultFoundSpec)

/-- ITS FALSE NEIGHBOUR: 'it returns false'. Refute it at one input. -/
def faultFoundWrong : ChangeSpec := { name := "faultFound", fn := fun _ => fun
  | [d1, d2, d3, d4] => { results := [.lit (.bool false)], args := [d1, d2, d3, d4] }
  | _ => none }
def FaultFoundWrongFalsely : Prop := faultFoundRow.holds Tryd.pinned (OpenSpec.ofChange faultFoundWrong)

/-- 'placketlaw04.FaultHas': WHATEVER THE INPUT: true; the input reads as it did. -/
def faultHasSpec : ChangeSpec := { name := "faultHas", fn := fun _ => fun
  | [d1, d2, d3, d4] => { results := [.lit (.bool true)], args := [d1, d2, d3, d4] }
  | _ => none }
def faultHasRow : OpenClaim := { program := "ytgfkpbjimmofdaadoor", sum := "d92b5291436a060aed97dae829a4cecf0e9b99c2d93d52fdfe8eaccb0d9804f8", func := "placket/placketlaw04.FaultHas", spec := "faultHas", inPlace := ["internal/reflectlite.ValueOf", "(internal/reflectlite.Value).Type", "(internal/reflectlite.Value).IsNil", "internal/reflectlite.TypeOf", "(internal/reflectlite.Value).Elem", "(internal/reflectlite.Value).Set"], unfollowed := true, recurses := true, named := ["errors.errorType"], apart := false, laid := [("errors.errorType", laid_errors_errorType)] }
def FaultHasSaid : Prop := faultHasRow.holds Tryd.pinned (OpenSpec.ofChange faultHasSpec)

/-- ITS FALSE NEIGHBOUR: 'it returns false'. Refute it at one input. -/
def faultHasWrong : ChangeSpec := { name := "faultHas", fn := fun _ => fun
  | [d1, d2, d3, d4] => { results := [.lit (.bool false)], args := [d1, d2, d3, d4] }
  | _ => none }
def FaultHasWrongFalsely : Prop := faultHasRow.holds Tryd.pinned (OpenSpec.ofChange faultHasWrong)

/-- 'placketlaw04.FaultBare': WHATEVER THE INPUT: true; the input reads as it did. -/
def faultBareSpec : ChangeSpec := { name := "faultBare", fn := fun _ => fun
  | [d1, d2] => { results := [.lit (.bool true)], args := [d1, d2] }
  | _ => none }
def faultBareRow : OpenClaim := { program := "ytgfkpbjimmofdaadoor", sum := "d92b5291436a060aed97dae829a4cecf0e9b99c2d93d52fdfe8eaccb0d9804f8", func := "placket/placketlaw04.FaultBare", spec := "faultBare", inPlace := ["internal/reflectlite.ValueOf", "(internal/reflectlite.Value).Type", "(internal/reflectlite.Value).IsNil", "internal/reflectlite.TypeOf", "(internal/reflectlite.Value).Elem", "(internal/reflectlite.Value).Set"], unfollowed := true, recurses := true, named := ["errors.errorType"], apart := false, laid := [("errors.errorType", laid_errors_errorType)] }
def FaultBareSaid : Prop := faultBareRow.holds Tryd.pinned (OpenSpec.ofChange faultBareSpec)

/-- ITS FALSE NEIGHBOUR: 'it returns false'. Refute it at one input. -/
def faultBareWrong : ChangeSpec := { name := "faultBare", fn := fun _ => fun
  | [d1, d2] => { results := [.lit (.bool false)], args := [d1, d2] }
  | _ => none }
def FaultBareWrongFalsely : Prop := faultBareRow.holds Tryd.pinned (OpenSpec.ofChange faultBareWrong)

/- THE SECOND FORM. 'bulk': how many values and letters a reading holds, each counted each time it is reached (what is shared counts as often as it is met; a slice's spare places count too). A statement '..UptoSaid' is the law's where the arguments, and the package variables that the reading takes, are together of bulk at most 1048576: NARROWER than '..Said'. Prove '..Said' where nothing that the law and all that it calls make is longer than what came in: it says more and counts as full. Else prove '..UptoSaid'. A law counts once. -/
mutual
def uptoBulk {H : Type} : DataW H → Nat
  | .lit (.string bytes) => bytes.length + 1
  | .lit _ => 1
  | .nil => 1
  | .ptr d => uptoBulk d + 1
  | .slice elems spare => uptoBulkAll elems + uptoBulkAll spare + 1
  | .agg parts => uptoBulkAll parts + 1
  | .iface _ d => uptoBulk d + 1
  | .map entries => uptoBulkEntries entries + 1
  | .held _ => 1
def uptoBulkAll {H : Type} : List (DataW H) → Nat
  | [] => 0
  | d :: r => uptoBulk d + uptoBulkAll r
def uptoBulkEntries {H : Type} : List (Lit × DataW H) → Nat
  | [] => 0
  | x :: r => uptoBulkEntry x + uptoBulkEntries r
def uptoBulkEntry {H : Type} : Lit × DataW H → Nat
  | (.string bytes, d) => bytes.length + uptoBulk d + 1
  | (_, d) => uptoBulk d + 1
 end
def uptoSmall : (H : Type) → List (DataW H) → Bool := fun _ ds => decide (uptoBulkAll ds ≤ 1048576)
def OpenSpec.upto (s : _root_.Go.ChangeSpec) : _root_.Go.OpenSpec := { _root_.Go.OpenSpec.ofChange s with cond := some uptoSmall }

/-- 'placketlaw04.FaultAsks', WHERE WHAT IT READS IS OF BULK AT MOST 1048576: true; the input reads as it did. -/
def faultAsksUptoRow : OpenClaim := { program := "ytgfkpbjimmofdaadoor", sum := "d92b5291436a060aed97dae829a4cecf0e9b99c2d93d52fdfe8eaccb0d9804f8", func := "placket/placketlaw04.FaultAsks", spec := "faultAsks", inPlace := ["internal/reflectlite.ValueOf", "(internal/reflectlite.Value).Type", "(internal/reflectlite.Value).IsNil", "internal/reflectlite.TypeOf", "(internal/reflectlite.Value).Elem", "(internal/reflectlite.Value).Set"], unfollowed := true, recurses := true, named := ["errors.errorType"], apart := false, laid := [("errors.errorType", laid_errors_errorType)], narrowed := true }
def FaultAsksUptoSaid : Prop := faultAsksUptoRow.holds Tryd.pinned (OpenSpec.upto faultAsksSpec)

/-- 'placketlaw04.FaultKept', WHERE WHAT IT READS IS OF BULK AT MOST 1048576: true; the input reads as it did. -/
def faultKeptUptoRow : OpenClaim := { program := "ytgfkpbjimmofdaadoor", sum := "d92b5291436a060aed97dae829a4cecf0e9b99c2d93d52fdfe8eaccb0d9804f8", func := "placket/placketlaw04.FaultKept", spec := "faultKept", inPlace := ["internal/reflectlite.ValueOf", "(internal/reflectlite.Value).Type", "(internal/reflectlite.Value).IsNil", "internal/reflectlite.TypeOf", "(internal/reflectlite.Value).Elem", "(internal/reflectlite.Value).Set"], unfollowed := true, recurses := true, named := ["errors.errorType"], apart := false, laid := [("errors.errorType", laid_errors_errorType)], narrowed := true }
def FaultKeptUptoSaid : Prop := faultKeptUptoRow.holds Tryd.pinned (OpenSpec.upto faultKeptSpec)

/-- 'placketlaw04.FaultOuter', WHERE WHAT IT READS IS OF BULK AT MOST 1048576: true; the input reads as it did. -/
def faultOuterUptoRow : OpenClaim := { program := "ytgfkpbjimmofdaadoor", sum := "d92b5291436a060aed97dae829a4cecf0e9b99c2d93d52fdfe8eaccb0d9804f8", func := "placket/placketlaw04.FaultOuter", spec := "faultOuter", inPlace := ["internal/reflectlite.ValueOf", "(internal/reflectlite.Value).Type", "(internal/reflectlite.Value).IsNil", "internal/reflectlite.TypeOf", "(internal/reflectlite.Value).Elem", "(internal/reflectlite.Value).Set"], unfollowed := true, recurses := true, named := ["errors.errorType"], apart := false, laid := [("errors.errorType", laid_errors_errorType)], narrowed := true }
def FaultOuterUptoSaid : Prop := faultOuterUptoRow.holds Tryd.pinned (OpenSpec.upto faultOuterSpec)

/-- 'placketlaw04.FaultFound', WHERE WHAT IT READS IS OF BULK AT MOST 1048576: true; the input reads as it did. -/
def faultFoundUptoRow : OpenClaim := { program := "ytgfkpbjimmofdaadoor", sum := "d92b5291436a060aed97dae829a4cecf0e9b99c2d93d52fdfe8eaccb0d9804f8", func := "placket/placketlaw04.FaultFound", spec := "faultFound", inPlace := ["internal/reflectlite.ValueOf", "(internal/reflectlite.Value).Type", "(internal/reflectlite.Value).IsNil", "internal/reflectlite.TypeOf", "(internal/reflectlite.Value).Elem", "(internal/reflectlite.Value).Set"], unfollowed := true, recurses := true, named := ["errors.errorType"], apart := false, laid := [("errors.errorType", laid_errors_errorType)], narrowed := true }
def FaultFoundUptoSaid : Prop := faultFoundUptoRow.holds Tryd.pinned (OpenSpec.upto faultFoundSpec)

/-- 'placketlaw04.FaultHas', WHERE WHAT IT READS IS OF BULK AT MOST 1048576: true; the input reads as it did. -/
def faultHasUptoRow : OpenClaim := { program := "ytgfkpbjimmofdaadoor", sum := "d92b5291436a060aed97dae829a4cecf0e9b99c2d93d52fdfe8eaccb0d9804f8", func := "placket/placketlaw04.FaultHas", spec := "faultHas", inPlace := ["internal/reflectlite.ValueOf", "(internal/reflectlite.Value).Type", "(internal/reflectlite.Value).IsNil", "internal/reflectlite.TypeOf", "(internal/reflectlite.Value).Elem", "(internal/reflectlite.Value).Set"], unfollowed := true, recurses := true, named := ["errors.errorType"], apart := false, laid := [("errors.errorType", laid_errors_errorType)], narrowed := true }
def FaultHasUptoSaid : Prop := faultHasUptoRow.holds Tryd.pinned (OpenSpec.upto faultHasSpec)

/-- 'placketlaw04.FaultBare', WHERE WHAT IT READS IS OF BULK AT MOST 1048576: true; the input reads as it did. -/
def faultBareUptoRow : OpenClaim := { program := "ytgfkpbjimmofdaadoor", sum := "d92b5291436a060aed97dae829a4cecf0e9b99c2d93d52fdfe8eaccb0d9804f8", func := "placket/placketlaw04.FaultBare", spec := "faultBare", inPlace := ["internal/reflectlite.ValueOf", "(internal/reflectlite.Value).Type", "(internal/reflectlite.Value).IsNil", "internal/reflectlite.TypeOf", "(internal/reflectlite.Value).Elem", "(internal/reflectlite.Value).Set"], unfollowed := true, recurses := true, named := ["errors.errorType"], apart := false, laid := [("errors.errorType", laid_errors_errorType)], narrowed := true }
def FaultBareUptoSaid : Prop := faultBareUptoRow.holds Tryd.pinned (OpenSpec.upto faultBareSpec)

end Rows
end Go.Proofs.YtgfkpbjimmofdaaDoor
