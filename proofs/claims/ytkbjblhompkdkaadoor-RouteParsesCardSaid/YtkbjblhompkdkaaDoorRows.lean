/-
  NARROWER THAN 'FOR EVERY INPUT', by the rows' own cells (each row's printed sentence says how): LexNext: laid · LexAll: laid · LexFollow: laid · LexMany: laid · LexBack: laid · LexWords: laid · RouteFilters: laid · RouteBack: laid · RouteTold: laid · RouteAgain: laid · RouteChecks: laid · RouteParses: laid.
  DERIVED. THE GIVEN ROWS OF THIS SEAT. 12 by the template 'for every input the law returns true; each argument reads behind the call as it read before'; 0 by the template 'total and deterministic' (their statements: YtkbjblhompkdkaaDoorTotals.lean).
  GIVEN WITH THE SEED: the statements are not yours to turn. If you find one false, say at which input.
  Laid BY PROGRAM, IN A SANDBOX (cutbox-rows.mjs): the forced cells as the released guide's own fill.sh prints them over the translation a98d934b6c7ba6f3… (all of the seat's roots in one cut). By AI agents, Wed Nov 11 2026. No macro, syntax, notation, axiom, sorry.
-/
import Derived.Test.YtkbjblhompkdkaaDoorChecked
import GoSem.Claim
import GoSem.ClaimJoined
import GoSem.ClaimMapViews
import Derived.JoinedTies
import Derived.KernelRfl
namespace Go.Proofs.YtkbjblhompkdkaaDoor
/- THE CELL 'sum', in the pinned program and in every row, IS THE sha256 OF THE DUMP (.gsa) THAT YtkbjblhompkdkaaDoorProg.lean LOADS. Nothing in Lean hashes anything: it is a label: what it is worth is what the hold of that sum in a sandbox is worth. -/
noncomputable def Tryd.pinned : Pinned := { name := "ytkbjblhompkdkaadoor", sum := "a98d934b6c7ba6f3695cd7fdbc43d82cb5c0596d34bec7b0a1f333ebdb1b5402", checked := Tryd.checked }
namespace Rows
def none {H : Type} : Left H := { results := [], args := [] }

/- WHAT THE LISTED PACKAGE-LEVEL VARIABLES READ AS WHEN THE CALL BEGINS. Each datum BY PROGRAM (the guide's laid-datum.mjs) off the statement by which the dump's own 'gosem.cut.vars' lays the variable. In a bare row this is a premise. The card (YtkbjblhompkdkaaDoorCards.lean) ties it to the program's text. -/
def laid_errors_errorType {H : Type} : DataW H := .iface "internal/reflectlite.rtype" (.agg [.ptr (.lit (.string [101, 114, 114, 111, 114]))])
def laid_placket_lex_signs {H : Type} : DataW H := .agg [.lit (.string [46, 46]), .lit (.string [61, 61]), .lit (.string [33, 61]), .lit (.string [60, 61]), .lit (.string [62, 61]), .lit (.string [38, 38]), .lit (.string [124, 124]), .lit (.string [91]), .lit (.string [93]), .lit (.string [123]), .lit (.string [125]), .lit (.string [60]), .lit (.string [62]), .lit (.string [40]), .lit (.string [41]), .lit (.string [44]), .lit (.string [58]), .lit (.string [46]), .lit (.string [42]), .lit (.string [63]), .lit (.string [33]), .lit (.string [36]), .lit (.string [64])]

/-- 'placketlaw13.LexNext': WHATEVER THE INPUT: true; the input reads as it did. -/
def lexNextSpec : ChangeSpec := { name := "lexNext", fn := fun _ => fun
  | [d1, d2] => { results := [.lit (.bool true)], args := [d1, d2] }
  | _ => none }
def lexNextRow : OpenClaim := { program := "ytkbjblhompkdkaadoor", sum := "a98d934b6c7ba6f3695cd7fdbc43d82cb5c0596d34bec7b0a1f333ebdb1b5402", func := "placket/placketlaw13.LexNext", spec := "lexNext", inPlace := ["internal/reflectlite.ValueOf", "(internal/reflectlite.Value).Type", "(internal/reflectlite.Value).IsNil", "internal/reflectlite.TypeOf", "(internal/reflectlite.Value).Elem", "(internal/reflectlite.Value).Set"], unfollowed := true, recurses := true, named := ["placket/lex.signs", "errors.errorType"], apart := false, laid := [("errors.errorType", laid_errors_errorType), ("placket/lex.signs", laid_placket_lex_signs)] }
def LexNextSaid : Prop := lexNextRow.holds Tryd.pinned (OpenSpec.ofChange lexNextSpec)

/-- ITS FALSE NEIGHBOUR: 'it returns false'. Refute it at one input. -/
def lexNextWrong : ChangeSpec := { name := "lexNext", fn := fun _ => fun
  | [d1, d2] => { results := [.lit (.bool false)], args := [d1, d2] }
  | _ => none }
def LexNextWrongFalsely : Prop := lexNextRow.holds Tryd.pinned (OpenSpec.ofChange lexNextWrong)

/-- 'placketlaw13.LexAll': WHATEVER THE INPUT: true; the input reads as it did. -/
def lexAllSpec : ChangeSpec := { name := "lexAll", fn := fun _ => fun
  | [d] => { results := [.lit (.bool true)], args := [d] }
  | _ => none }
def lexAllRow : OpenClaim := { program := "ytkbjblhompkdkaadoor", sum := "a98d934b6c7ba6f3695cd7fdbc43d82cb5c0596d34bec7b0a1f333ebdb1b5402", func := "placket/placketlaw13.LexAll", spec := "lexAll", inPlace := ["internal/reflectlite.ValueOf", "(internal/reflectlite.Value).Type", "(internal/reflectlite.Value).IsNil", "internal/reflectlite.TypeOf", "(internal/reflectlite.Value).Elem", "(internal/reflectlite.Value).Set"], unfollowed := true, recurses := true, named := ["placket/lex.signs", "errors.errorType"], apart := false, laid := [("errors.errorType", laid_errors_errorType), ("placket/lex.signs", laid_placket_lex_signs)] }
def LexAllSaid : Prop := lexAllRow.holds Tryd.pinned (OpenSpec.ofChange lexAllSpec)

/-- ITS FALSE NEIGHBOUR: 'it returns false'. Refute it at one input. -/
def lexAllWrong : ChangeSpec := { name := "lexAll", fn := fun _ => fun
  | [d] => { results := [.lit (.bool false)], args := [d] }
  | _ => none }
def LexAllWrongFalsely : Prop := lexAllRow.holds Tryd.pinned (OpenSpec.ofChange lexAllWrong)

/-- 'placketlaw13.LexFollow': WHATEVER THE INPUT: true; the input reads as it did. -/
def lexFollowSpec : ChangeSpec := { name := "lexFollow", fn := fun _ => fun
  | [d] => { results := [.lit (.bool true)], args := [d] }
  | _ => none }
def lexFollowRow : OpenClaim := { program := "ytkbjblhompkdkaadoor", sum := "a98d934b6c7ba6f3695cd7fdbc43d82cb5c0596d34bec7b0a1f333ebdb1b5402", func := "placket/placketlaw13.LexFollow", spec := "lexFollow", inPlace := ["internal/reflectlite.ValueOf", "(internal/reflectlite.Value).Type", "(internal/reflectlite.Value).IsNil", "internal/reflectlite.TypeOf", "(internal/reflectlite.Value).Elem", "(internal/reflectlite.Value).Set"], unfollowed := true, recurses := true, named := ["placket/lex.signs", "errors.errorType"], apart := false, laid := [("errors.errorType", laid_errors_errorType), ("placket/lex.signs", laid_placket_lex_signs)] }
def LexFollowSaid : Prop := lexFollowRow.holds Tryd.pinned (OpenSpec.ofChange lexFollowSpec)

/-- ITS FALSE NEIGHBOUR: 'it returns false'. Refute it at one input. -/
def lexFollowWrong : ChangeSpec := { name := "lexFollow", fn := fun _ => fun
  | [d] => { results := [.lit (.bool false)], args := [d] }
  | _ => none }
def LexFollowWrongFalsely : Prop := lexFollowRow.holds Tryd.pinned (OpenSpec.ofChange lexFollowWrong)

/-- 'placketlaw13.LexMany': WHATEVER THE INPUT: true; the input reads as it did. -/
def lexManySpec : ChangeSpec := { name := "lexMany", fn := fun _ => fun
  | [d] => { results := [.lit (.bool true)], args := [d] }
  | _ => none }
def lexManyRow : OpenClaim := { program := "ytkbjblhompkdkaadoor", sum := "a98d934b6c7ba6f3695cd7fdbc43d82cb5c0596d34bec7b0a1f333ebdb1b5402", func := "placket/placketlaw13.LexMany", spec := "lexMany", inPlace := ["internal/reflectlite.ValueOf", "(internal/reflectlite.Value).Type", "(internal/reflectlite.Value).IsNil", "internal/reflectlite.TypeOf", "(internal/reflectlite.Value).Elem", "(internal/reflectlite.Value).Set"], unfollowed := true, recurses := true, named := ["placket/lex.signs", "errors.errorType"], apart := false, laid := [("errors.errorType", laid_errors_errorType), ("placket/lex.signs", laid_placket_lex_signs)] }
def LexManySaid : Prop := lexManyRow.holds Tryd.pinned (OpenSpec.ofChange lexManySpec)

/-- ITS FALSE NEIGHBOUR: 'it returns false'. Refute it at one input. -/
def lexManyWrong : ChangeSpec := { name := "lexMany", fn := fun _ => fun
  | [d] => { results := [.lit (.bool false)], args := [d] }
  | _ => none }
def LexManyWrongFalsely : Prop := lexManyRow.holds Tryd.pinned (OpenSpec.ofChange lexManyWrong)

/-- 'placketlaw13.LexBack': WHATEVER THE INPUT: true; the input reads as it did. -/
def lexBackSpec : ChangeSpec := { name := "lexBack", fn := fun _ => fun
  | [d] => { results := [.lit (.bool true)], args := [d] }
  | _ => none }
def lexBackRow : OpenClaim := { program := "ytkbjblhompkdkaadoor", sum := "a98d934b6c7ba6f3695cd7fdbc43d82cb5c0596d34bec7b0a1f333ebdb1b5402", func := "placket/placketlaw13.LexBack", spec := "lexBack", inPlace := ["internal/reflectlite.ValueOf", "(internal/reflectlite.Value).Type", "(internal/reflectlite.Value).IsNil", "internal/reflectlite.TypeOf", "(internal/reflectlite.Value).Elem", "(internal/reflectlite.Value).Set"], unfollowed := true, recurses := true, named := ["placket/lex.signs", "errors.errorType"], apart := false, laid := [("errors.errorType", laid_errors_errorType), ("placket/lex.signs", laid_placket_lex_signs)] }
def LexBackSaid : Prop := lexBackRow.holds Tryd.pinned (OpenSpec.ofChange lexBackSpec)

/-- ITS FALSE NEIGHBOUR: 'it returns false'. Refute it at one input. -/
def lexBackWrong : ChangeSpec := { name := "lexBack", fn := fun _ => fun
  | [d] => { results := [.lit (.bool false)], args := [d] }
  | _ => none }
def LexBackWrongFalsely : Prop := lexBackRow.holds Tryd.pinned (OpenSpec.ofChange lexBackWrong)

/-- 'placketlaw13.LexWords': WHATEVER THE INPUT: true; the input reads as it did. -/
def lexWordsSpec : ChangeSpec := { name := "lexWords", fn := fun _ => fun
  | [d1, d2] => { results := [.lit (.bool true)], args := [d1, d2] }
  | _ => none }
def lexWordsRow : OpenClaim := { program := "ytkbjblhompkdkaadoor", sum := "a98d934b6c7ba6f3695cd7fdbc43d82cb5c0596d34bec7b0a1f333ebdb1b5402", func := "placket/placketlaw13.LexWords", spec := "lexWords", inPlace := ["internal/reflectlite.ValueOf", "(internal/reflectlite.Value).Type", "(internal/reflectlite.Value).IsNil", "internal/reflectlite.TypeOf", "(internal/reflectlite.Value).Elem", "(internal/reflectlite.Value).Set"], unfollowed := true, recurses := true, named := ["placket/lex.signs", "errors.errorType"], apart := false, laid := [("errors.errorType", laid_errors_errorType), ("placket/lex.signs", laid_placket_lex_signs)] }
def LexWordsSaid : Prop := lexWordsRow.holds Tryd.pinned (OpenSpec.ofChange lexWordsSpec)

/-- ITS FALSE NEIGHBOUR: 'it returns false'. Refute it at one input. -/
def lexWordsWrong : ChangeSpec := { name := "lexWords", fn := fun _ => fun
  | [d1, d2] => { results := [.lit (.bool false)], args := [d1, d2] }
  | _ => none }
def LexWordsWrongFalsely : Prop := lexWordsRow.holds Tryd.pinned (OpenSpec.ofChange lexWordsWrong)

/-- 'placketlaw16.RouteFilters': WHATEVER THE INPUT: true; the input reads as it did. -/
def routeFiltersSpec : ChangeSpec := { name := "routeFilters", fn := fun _ => fun
  | [d] => { results := [.lit (.bool true)], args := [d] }
  | _ => none }
def routeFiltersRow : OpenClaim := { program := "ytkbjblhompkdkaadoor", sum := "a98d934b6c7ba6f3695cd7fdbc43d82cb5c0596d34bec7b0a1f333ebdb1b5402", func := "placket/placketlaw16.RouteFilters", spec := "routeFilters", recurses := true, named := ["placket/lex.signs"], apart := false, laid := [("placket/lex.signs", laid_placket_lex_signs)] }
def RouteFiltersSaid : Prop := routeFiltersRow.holds Tryd.pinned (OpenSpec.ofChange routeFiltersSpec)

/-- ITS FALSE NEIGHBOUR: 'it returns false'. Refute it at one input. -/
def routeFiltersWrong : ChangeSpec := { name := "routeFilters", fn := fun _ => fun
  | [d] => { results := [.lit (.bool false)], args := [d] }
  | _ => none }
def RouteFiltersWrongFalsely : Prop := routeFiltersRow.holds Tryd.pinned (OpenSpec.ofChange routeFiltersWrong)

/-- 'placketlaw16.RouteBack': WHATEVER THE INPUT: true; the input reads as it did. -/
def routeBackSpec : ChangeSpec := { name := "routeBack", fn := fun _ => fun
  | [d] => { results := [.lit (.bool true)], args := [d] }
  | _ => none }
def routeBackRow : OpenClaim := { program := "ytkbjblhompkdkaadoor", sum := "a98d934b6c7ba6f3695cd7fdbc43d82cb5c0596d34bec7b0a1f333ebdb1b5402", func := "placket/placketlaw16.RouteBack", spec := "routeBack", named := ["placket/lex.signs"], apart := false, laid := [("placket/lex.signs", laid_placket_lex_signs)] }
def RouteBackSaid : Prop := routeBackRow.holds Tryd.pinned (OpenSpec.ofChange routeBackSpec)

/-- ITS FALSE NEIGHBOUR: 'it returns false'. Refute it at one input. -/
def routeBackWrong : ChangeSpec := { name := "routeBack", fn := fun _ => fun
  | [d] => { results := [.lit (.bool false)], args := [d] }
  | _ => none }
def RouteBackWrongFalsely : Prop := routeBackRow.holds Tryd.pinned (OpenSpec.ofChange routeBackWrong)

/-- 'placketlaw16.RouteTold': WHATEVER THE INPUT: true; the input reads as it did. -/
def routeToldSpec : ChangeSpec := { name := "routeTold", fn := fun _ => fun
  | [d] => { results := [.lit (.bool true)], args := [d] }
  | _ => none }
def routeToldRow : OpenClaim := { program := "ytkbjblhompkdkaadoor", sum := "a98d934b6c7ba6f3695cd7fdbc43d82cb5c0596d34bec7b0a1f333ebdb1b5402", func := "placket/placketlaw16.RouteTold", spec := "routeTold", named := ["placket/lex.signs"], apart := false, laid := [("placket/lex.signs", laid_placket_lex_signs)] }
def RouteToldSaid : Prop := routeToldRow.holds Tryd.pinned (OpenSpec.ofChange routeToldSpec)

/-- ITS FALSE NEIGHBOUR: 'it returns false'. Refute it at one input. -/
def routeToldWrong : ChangeSpec := { name := "routeTold", fn := fun _ => fun
  | [d] => { results := [.lit (.bool false)], args := [d] }
  | _ => none }
def RouteToldWrongFalsely : Prop := routeToldRow.holds Tryd.pinned (OpenSpec.ofChange routeToldWrong)

/-- 'placketlaw16.RouteAgain': WHATEVER THE INPUT: true; the input reads as it did. -/
def routeAgainSpec : ChangeSpec := { name := "routeAgain", fn := fun _ => fun
  | [d] => { results := [.lit (.bool true)], args := [d] }
  | _ => none }
def routeAgainRow : OpenClaim := { program := "ytkbjblhompkdkaadoor", sum := "a98d934b6c7ba6f3695cd7fdbc43d82cb5c0596d34bec7b0a1f333ebdb1b5402", func := "placket/placketlaw16.RouteAgain", spec := "routeAgain", inPlace := ["internal/reflectlite.ValueOf", "(internal/reflectlite.Value).Type", "(internal/reflectlite.Value).IsNil", "internal/reflectlite.TypeOf", "(internal/reflectlite.Value).Elem", "(internal/reflectlite.Value).Set"], unfollowed := true, recurses := true, named := ["placket/lex.signs", "errors.errorType"], apart := false, laid := [("errors.errorType", laid_errors_errorType), ("placket/lex.signs", laid_placket_lex_signs)] }
def RouteAgainSaid : Prop := routeAgainRow.holds Tryd.pinned (OpenSpec.ofChange routeAgainSpec)

/-- ITS FALSE NEIGHBOUR: 'it returns false'. Refute it at one input. -/
def routeAgainWrong : ChangeSpec := { name := "routeAgain", fn := fun _ => fun
  | [d] => { results := [.lit (.bool false)], args := [d] }
  | _ => none }
def RouteAgainWrongFalsely : Prop := routeAgainRow.holds Tryd.pinned (OpenSpec.ofChange routeAgainWrong)

/-- 'placketlaw16.RouteChecks': WHATEVER THE INPUT: true; the input reads as it did. -/
def routeChecksSpec : ChangeSpec := { name := "routeChecks", fn := fun _ => fun
  | [d] => { results := [.lit (.bool true)], args := [d] }
  | _ => none }
def routeChecksRow : OpenClaim := { program := "ytkbjblhompkdkaadoor", sum := "a98d934b6c7ba6f3695cd7fdbc43d82cb5c0596d34bec7b0a1f333ebdb1b5402", func := "placket/placketlaw16.RouteChecks", spec := "routeChecks", inPlace := ["internal/reflectlite.ValueOf", "(internal/reflectlite.Value).Type", "(internal/reflectlite.Value).IsNil", "internal/reflectlite.TypeOf", "(internal/reflectlite.Value).Elem", "(internal/reflectlite.Value).Set"], unfollowed := true, recurses := true, named := ["placket/lex.signs", "errors.errorType"], apart := false, laid := [("errors.errorType", laid_errors_errorType), ("placket/lex.signs", laid_placket_lex_signs)] }
def RouteChecksSaid : Prop := routeChecksRow.holds Tryd.pinned (OpenSpec.ofChange routeChecksSpec)

/-- ITS FALSE NEIGHBOUR: 'it returns false'. Refute it at one input. -/
def routeChecksWrong : ChangeSpec := { name := "routeChecks", fn := fun _ => fun
  | [d] => { results := [.lit (.bool false)], args := [d] }
  | _ => none }
def RouteChecksWrongFalsely : Prop := routeChecksRow.holds Tryd.pinned (OpenSpec.ofChange routeChecksWrong)

/-- 'placketlaw16.RouteParses': WHATEVER THE INPUT: true; the input reads as it did. -/
def routeParsesSpec : ChangeSpec := { name := "routeParses", fn := fun _ => fun
  | [d] => { results := [.lit (.bool true)], args := [d] }
  | _ => none }
def routeParsesRow : OpenClaim := { program := "ytkbjblhompkdkaadoor", sum := "a98d934b6c7ba6f3695cd7fdbc43d82cb5c0596d34bec7b0a1f333ebdb1b5402", func := "placket/placketlaw16.RouteParses", spec := "routeParses", inPlace := ["internal/reflectlite.ValueOf", "(internal/reflectlite.Value).Type", "(internal/reflectlite.Value).IsNil", "internal/reflectlite.TypeOf", "(internal/reflectlite.Value).Elem", "(internal/reflectlite.Value).Set"], unfollowed := true, recurses := true, named := ["placket/lex.signs", "errors.errorType"], apart := false, laid := [("errors.errorType", laid_errors_errorType), ("placket/lex.signs", laid_placket_lex_signs)] }
def RouteParsesSaid : Prop := routeParsesRow.holds Tryd.pinned (OpenSpec.ofChange routeParsesSpec)

/-- ITS FALSE NEIGHBOUR: 'it returns false'. Refute it at one input. -/
def routeParsesWrong : ChangeSpec := { name := "routeParses", fn := fun _ => fun
  | [d] => { results := [.lit (.bool false)], args := [d] }
  | _ => none }
def RouteParsesWrongFalsely : Prop := routeParsesRow.holds Tryd.pinned (OpenSpec.ofChange routeParsesWrong)

/- THE SECOND FORM. 'bulk': how many values and letters a reading holds, each counted each time it is reached (what is shared counts as often as it is met; a slice's spare places count too). A statement '..UptoSaid' is the law's where the arguments, and the package variables that the reading takes, are together of bulk at most 1048576: NARROWER than '..Said'. Prove '..Said' where nothing that the law and all that it calls make is longer than what came in: it says more and counts as full. Else prove '..UptoSaid'. A law counts once. -/
mutual
def uptoBulk {H : Type} : DataW H → Nat
  | .lit (.string bytes) => bytes.length + 1
  | .lit _ => 1
  | .nil => 1
  | .ptr d => uptoBulk d + 1
  | .slice elems spare => uptoBulkAll elems + uptoBulkAll spare + 1
  | .agg parts => uptoBulkAll parts + 1
  | .iface _ d => uptoBulk d + 1
  | .map entries => uptoBulkEntries entries + 1
  | .held _ => 1
def uptoBulkAll {H : Type} : List (DataW H) → Nat
  | [] => 0
  | d :: r => uptoBulk d + uptoBulkAll r
def uptoBulkEntries {H : Type} : List (Lit × DataW H) → Nat
  | [] => 0
  | x :: r => uptoBulkEntry x + uptoBulkEntries r
def uptoBulkEntry {H : Type} : Lit × DataW H → Nat
  | (.string bytes, d) => bytes.length + uptoBulk d + 1
  | (_, d) => uptoBulk d + 1
 end
def uptoSmall : (H : Type) → List (DataW H) → Bool := fun _ ds => decide (uptoBulkAll ds ≤ 1048576)
def OpenSpec.upto (s : _root_.Go.ChangeSpec) : _root_.Go.OpenSpec := { _root_.Go.OpenSpec.ofChange s with cond := some uptoSmall }

/-- 'placketlaw13.LexNext', WHERE WHAT IT READS IS OF BULK AT MOST 1048576: true; the input reads as it did. -/
def lexNextUptoRow : OpenClaim := { program := "ytkbjblhompkdkaadoor", sum := "a98d934b6c7ba6f3695cd7fdbc43d82cb5c0596d34bec7b0a1f333ebdb1b5402", func := "placket/placketlaw13.LexNext", spec := "lexNext", inPlace := ["internal/reflectlite.ValueOf", "(internal/reflectlite.Value).Type", "(internal/reflectlite.Value).IsNil", "internal/reflectlite.TypeOf", "(internal/reflectlite.Value).Elem", "(internal/reflectlite.Value).Set"], unfollowed := true, recurses := true, named := ["placket/lex.signs", "errors.errorType"], apart := false, laid := [("errors.errorType", laid_errors_errorType), ("placket/lex.signs", laid_placket_lex_signs)], narrowed := true }
def LexNextUptoSaid : Prop := lexNextUptoRow.holds Tryd.pinned (OpenSpec.upto lexNextSpec)

/-- 'placketlaw13.LexAll', WHERE WHAT IT READS IS OF BULK AT MOST 1048576: true; the input reads as it did. -/
def lexAllUptoRow : OpenClaim := { program := "ytkbjblhompkdkaadoor", sum := "a98d934b6c7ba6f3695cd7fdbc43d82cb5c0596d34bec7b0a1f333ebdb1b5402", func := "placket/placketlaw13.LexAll", spec := "lexAll", inPlace := ["internal/reflectlite.ValueOf", "(internal/reflectlite.Value).Type", "(internal/reflectlite.Value).IsNil", "internal/reflectlite.TypeOf", "(internal/reflectlite.Value).Elem", "(internal/reflectlite.Value).Set"], unfollowed := true, recurses := true, named := ["placket/lex.signs", "errors.errorType"], apart := false, laid := [("errors.errorType", laid_errors_errorType), ("placket/lex.signs", laid_placket_lex_signs)], narrowed := true }
def LexAllUptoSaid : Prop := lexAllUptoRow.holds Tryd.pinned (OpenSpec.upto lexAllSpec)

/-- 'placketlaw13.LexFollow', WHERE WHAT IT READS IS OF BULK AT MOST 1048576: true; the input reads as it did. -/
def lexFollowUptoRow : OpenClaim := { program := "ytkbjblhompkdkaadoor", sum := "a98d934b6c7ba6f3695cd7fdbc43d82cb5c0596d34bec7b0a1f333ebdb1b5402", func := "placket/placketlaw13.LexFollow", spec := "lexFollow", inPlace := ["internal/reflectlite.ValueOf", "(internal/reflectlite.Value).Type", "(internal/reflectlite.Value).IsNil", "internal/reflectlite.TypeOf", "(internal/reflectlite.Value).Elem", "(internal/reflectlite.Value).Set"], unfollowed := true, recurses := true, named := ["placket/lex.signs", "errors.errorType"], apart := false, laid := [("errors.errorType", laid_errors_errorType), ("placket/lex.signs", laid_placket_lex_signs)], narrowed := true }
def LexFollowUptoSaid : Prop := lexFollowUptoRow.holds Tryd.pinned (OpenSpec.upto lexFollowSpec)

/-- 'placketlaw13.LexMany', WHERE WHAT IT READS IS OF BULK AT MOST 1048576: true; the input reads as it did. -/
def lexManyUptoRow : OpenClaim := { program := "ytkbjblhompkdkaadoor", sum := "a98d934b6c7ba6f3695cd7fdbc43d82cb5c0596d34bec7b0a1f333ebdb1b5402", func := "placket/placketlaw13.LexMany", spec := "lexMany", inPlace := ["internal/reflectlite.ValueOf", "(internal/reflectlite.Value).Type", "(internal/reflectlite.Value).IsNil", "internal/reflectlite.TypeOf", "(internal/reflectlite.Value).Elem", "(internal/reflectlite.Value).Set"], unfollowed := true, recurses := true, named := ["placket/lex.signs", "errors.errorType"], apart := false, laid := [("errors.errorType", laid_errors_errorType), ("placket/lex.signs", laid_placket_lex_signs)], narrowed := true }
def LexManyUptoSaid : Prop := lexManyUptoRow.holds Tryd.pinned (OpenSpec.upto lexManySpec)

/-- 'placketlaw13.LexBack', WHERE WHAT IT READS IS OF BULK AT MOST 1048576: true; the input reads as it did. -/
def lexBackUptoRow : OpenClaim := { program := "ytkbjblhompkdkaadoor", sum := "a98d934b6c7ba6f3695cd7fdbc43d82cb5c0596d34bec7b0a1f333ebdb1b5402", func := "placket/placketlaw13.LexBack", spec := "lexBack", inPlace := ["internal/reflectlite.ValueOf", "(internal/reflectlite.Value).Type", "(internal/reflectlite.Value).IsNil", "internal/reflectlite.TypeOf", "(internal/reflectlite.Value).Elem", "(internal/reflectlite.Value).Set"], unfollowed := true, recurses := true, named := ["placket/lex.signs", "errors.errorType"], apart := false, laid := [("errors.errorType", laid_errors_errorType), ("placket/lex.signs", laid_placket_lex_signs)], narrowed := true }
def LexBackUptoSaid : Prop := lexBackUptoRow.holds Tryd.pinned (OpenSpec.upto lexBackSpec)

/-- 'placketlaw13.LexWords', WHERE WHAT IT READS IS OF BULK AT MOST 1048576: true; the input reads as it did. -/
def lexWordsUptoRow : OpenClaim := { program := "ytkbjblhompkdkaadoor", sum := "a98d934b6c7ba6f3695cd7fdbc43d82cb5c0596d34bec7b0a1f333ebdb1b5402", func := "placket/placketlaw13.LexWords", spec := "lexWords", inPlace := ["internal/reflectlite.ValueOf", "(internal/reflectlite.Value).Type", "(internal/reflectlite.Value).IsNil", "internal/reflectlite.TypeOf", "(internal/reflectlite.Value).Elem", "(internal/reflectlite.Value).Set"], unfollowed := true, recurses := true, named := ["placket/lex.signs", "errors.errorType"], apart := false, laid := [("errors.errorType", laid_errors_errorType), ("placket/lex.signs", laid_placket_lex_signs)], narrowed := true }
def LexWordsUptoSaid : Prop := lexWordsUptoRow.holds Tryd.pinned (OpenSpec.upto lexWordsSpec)

/-- 'placketlaw16.RouteFilters', WHERE WHAT IT READS IS OF BULK AT MOST 1048576: true; the input reads as it did. -/
def routeFiltersUptoRow : OpenClaim := { program := "ytkbjblhompkdkaadoor", sum := "a98d934b6c7ba6f3695cd7fdbc43d82cb5c0596d34bec7b0a1f333ebdb1b5402", func := "placket/placketlaw16.RouteFilters", spec := "routeFilters", recurses := true, named := ["placket/lex.signs"], apart := false, laid := [("placket/lex.signs", laid_placket_lex_signs)], narrowed := true }
def RouteFiltersUptoSaid : Prop := routeFiltersUptoRow.holds Tryd.pinned (OpenSpec.upto routeFiltersSpec)

/-- 'placketlaw16.RouteBack', WHERE WHAT IT READS IS OF BULK AT MOST 1048576: true; the input reads as it did. -/
def routeBackUptoRow : OpenClaim := { program := "ytkbjblhompkdkaadoor", sum := "a98d934b6c7ba6f3695cd7fdbc43d82cb5c0596d34bec7b0a1f333ebdb1b5402", func := "placket/placketlaw16.RouteBack", spec := "routeBack", named := ["placket/lex.signs"], apart := false, laid := [("placket/lex.signs", laid_placket_lex_signs)], narrowed := true }
def RouteBackUptoSaid : Prop := routeBackUptoRow.holds Tryd.pinned (OpenSpec.upto routeBackSpec)

/-- 'placketlaw16.RouteTold', WHERE WHAT IT READS IS OF BULK AT MOST 1048576: true; the input reads as it did. -/
def routeToldUptoRow : OpenClaim := { program := "ytkbjblhompkdkaadoor", sum := "a98d934b6c7ba6f3695cd7fdbc43d82cb5c0596d34bec7b0a1f333ebdb1b5402", func := "placket/placketlaw16.RouteTold", spec := "routeTold", named := ["placket/lex.signs"], apart := false, laid := [("placket/lex.signs", laid_placket_lex_signs)], narrowed := true }
def RouteToldUptoSaid : Prop := routeToldUptoRow.holds Tryd.pinned (OpenSpec.upto routeToldSpec)

/-- 'placketlaw16.RouteAgain', WHERE WHAT IT READS IS OF BULK AT MOST 1048576: true; the input reads as it did. -/
def routeAgainUptoRow : OpenClaim := { program := "ytkbjblhompkdkaadoor", sum := "a98d934b6c7ba6f3695cd7fdbc43d82cb5c0596d34bec7b0a1f333ebdb1b5402", func := "placket/placketlaw16.RouteAgain", spec := "routeAgain", inPlace := ["internal/reflectlite.ValueOf", "(internal/reflectlite.Value).Type", "(internal/reflectlite.Value).IsNil", "internal/reflectlite.TypeOf", "(internal/reflectlite.Value).Elem", "(internal/reflectlite.Value).Set"], unfollowed := true, recurses := true, named := ["placket/lex.signs", "errors.errorType"], apart := false, laid := [("errors.errorType", laid_errors_errorType), ("placket/lex.signs", laid_placket_lex_signs)], narrowed := true }
def RouteAgainUptoSaid : Prop := routeAgainUptoRow.holds Tryd.pinned (OpenSpec.upto routeAgainSpec)

/-- 'placketlaw16.RouteChecks', WHERE WHAT IT READS IS OF BULK AT MOST 1048576: true; the input reads as it did. -/
def routeChecksUptoRow : OpenClaim := { program := "ytkbjblhompkdkaadoor", sum := "a98d934b6c7ba6f3695cd7fdbc43d82cb5c0596d34bec7b0a1f333ebdb1b5402", func := "placket/placketlaw16.RouteChecks", spec := "routeChecks", inPlace := ["internal/reflectlite.ValueOf", "(internal/reflectlite.Value).Type", "(internal/reflectlite.Value).IsNil", "internal/reflectlite.TypeOf", "(internal/reflectlite.Value).Elem", "(internal/reflectlite.Value).Set"], unfollowed := true, recurses := true, named := ["placket/lex.signs", "errors.errorType"], apart := false, laid := [("errors.errorType", laid_errors_errorType), ("placket/lex.signs", laid_placket_lex_signs)], narrowed := true }
def RouteChecksUptoSaid : Prop := routeChecksUptoRow.holds Tryd.pinned (OpenSpec.upto routeChecksSpec)

/-- 'placketlaw16.RouteParses', WHERE WHAT IT READS IS OF BULK AT MOST 1048576: true; the input reads as it did. -/
def routeParsesUptoRow : OpenClaim := { program := "ytkbjblhompkdkaadoor", sum := "a98d934b6c7ba6f3695cd7fdbc43d82cb5c0596d34bec7b0a1f333ebdb1b5402", func := "placket/placketlaw16.RouteParses", spec := "routeParses", inPlace := ["internal/reflectlite.ValueOf", "(internal/reflectlite.Value).Type", "(internal/reflectlite.Value).IsNil", "internal/reflectlite.TypeOf", "(internal/reflectlite.Value).Elem", "(internal/reflectlite.Value).Set"], unfollowed := true, recurses := true, named := ["placket/lex.signs", "errors.errorType"], apart := false, laid := [("errors.errorType", laid_errors_errorType), ("placket/lex.signs", laid_placket_lex_signs)], narrowed := true }
def RouteParsesUptoSaid : Prop := routeParsesUptoRow.holds Tryd.pinned (OpenSpec.upto routeParsesSpec)

end Rows
end Go.Proofs.YtkbjblhompkdkaaDoor
