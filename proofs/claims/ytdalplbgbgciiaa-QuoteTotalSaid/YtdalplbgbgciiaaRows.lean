/-
  No cell of these rows narrows 'for every input' (looked for: loops, veiled, ifaces, maps, wideKeys, modest, calm, conditions, laid).
  DERIVED. THE GIVEN ROWS OF THIS SEAT. 7 by the template 'for every input the law returns true; each argument reads behind the call as it read before'; 0 by the template 'total and deterministic' (their statements: YtdalplbgbgciiaaTotals.lean).
  GIVEN WITH THE SEED: the statements are not yours to turn. If you find one false, say at which input.
  Laid BY PROGRAM, IN A SANDBOX (cutbox-rows.mjs): the forced cells as the released guide's own fill.sh prints them over the translation af63e0f3270d09b6… (all of the seat's roots in one cut). By AI agents, Wed Nov 11 2026. No macro, syntax, notation, axiom, sorry.
-/
import Derived.Test.YtdalplbgbgciiaaChecked
import GoSem.Claim
import GoSem.ClaimJoined
import GoSem.ClaimMapViews
import Derived.JoinedTies
import Derived.KernelRfl
namespace Go.Proofs.Ytdalplbgbgciiaa
/- THE CELL 'sum', in the pinned program and in every row, IS THE sha256 OF THE DUMP (.gsa) THAT YtdalplbgbgciiaaProg.lean LOADS. Nothing in Lean hashes anything: it is a label: what it is worth is what the hold of that sum in a sandbox is worth. -/
noncomputable def Try.pinned : Pinned := { name := "ytdalplbgbgciiaa", sum := "af63e0f3270d09b627f9673f064ffd59b3b9f034be2a23333e5063d996a560d4", checked := Try.checked }
namespace Rows
def none {H : Type} : Left H := { results := [], args := [] }

/-- 'placketlaw02.QuoteOrders': WHATEVER THE INPUT: true; the input reads as it did. -/
def quoteOrdersSpec : ChangeSpec := { name := "quoteOrders", fn := fun _ => fun
  | [d1, d2] => { results := [.lit (.bool true)], args := [d1, d2] }
  | _ => none }
def quoteOrdersRow : OpenClaim := { program := "ytdalplbgbgciiaa", sum := "af63e0f3270d09b627f9673f064ffd59b3b9f034be2a23333e5063d996a560d4", func := "placket/placketlaw02.QuoteOrders", spec := "quoteOrders", apart := false }
def QuoteOrdersSaid : Prop := quoteOrdersRow.holds Try.pinned (OpenSpec.ofChange quoteOrdersSpec)

/-- ITS FALSE NEIGHBOUR: 'it returns false'. Refute it at one input. -/
def quoteOrdersWrong : ChangeSpec := { name := "quoteOrders", fn := fun _ => fun
  | [d1, d2] => { results := [.lit (.bool false)], args := [d1, d2] }
  | _ => none }
def QuoteOrdersWrongFalsely : Prop := quoteOrdersRow.holds Try.pinned (OpenSpec.ofChange quoteOrdersWrong)

/-- 'placketlaw02.QuoteTotal': WHATEVER THE INPUT: true; the input reads as it did. -/
def quoteTotalSpec : ChangeSpec := { name := "quoteTotal", fn := fun _ => fun
  | [d1, d2, d3] => { results := [.lit (.bool true)], args := [d1, d2, d3] }
  | _ => none }
def quoteTotalRow : OpenClaim := { program := "ytdalplbgbgciiaa", sum := "af63e0f3270d09b627f9673f064ffd59b3b9f034be2a23333e5063d996a560d4", func := "placket/placketlaw02.QuoteTotal", spec := "quoteTotal", apart := false }
def QuoteTotalSaid : Prop := quoteTotalRow.holds Try.pinned (OpenSpec.ofChange quoteTotalSpec)

/-- ITS FALSE NEIGHBOUR: 'it returns false'. Refute it at one input. -/
def quoteTotalWrong : ChangeSpec := { name := "quoteTotal", fn := fun _ => fun
  | [d1, d2, d3] => { results := [.lit (.bool false)], args := [d1, d2, d3] }
  | _ => none }
def QuoteTotalWrongFalsely : Prop := quoteTotalRow.holds Try.pinned (OpenSpec.ofChange quoteTotalWrong)

/-- 'placketlaw02.QuoteQuotes': WHATEVER THE INPUT: true; the input reads as it did. -/
def quoteQuotesSpec : ChangeSpec := { name := "quoteQuotes", fn := fun _ => fun
  | [d] => { results := [.lit (.bool true)], args := [d] }
  | _ => none }
def quoteQuotesRow : OpenClaim := { program := "ytdalplbgbgciiaa", sum := "af63e0f3270d09b627f9673f064ffd59b3b9f034be2a23333e5063d996a560d4", func := "placket/placketlaw02.QuoteQuotes", spec := "quoteQuotes", apart := false }
def QuoteQuotesSaid : Prop := quoteQuotesRow.holds Try.pinned (OpenSpec.ofChange quoteQuotesSpec)

/-- ITS FALSE NEIGHBOUR: 'it returns false'. Refute it at one input. -/
def quoteQuotesWrong : ChangeSpec := { name := "quoteQuotes", fn := fun _ => fun
  | [d] => { results := [.lit (.bool false)], args := [d] }
  | _ => none }
def QuoteQuotesWrongFalsely : Prop := quoteQuotesRow.holds Try.pinned (OpenSpec.ofChange quoteQuotesWrong)

/-- 'placketlaw02.QuoteReads': WHATEVER THE INPUT: true; the input reads as it did. -/
def quoteReadsSpec : ChangeSpec := { name := "quoteReads", fn := fun _ => fun
  | [d] => { results := [.lit (.bool true)], args := [d] }
  | _ => none }
def quoteReadsRow : OpenClaim := { program := "ytdalplbgbgciiaa", sum := "af63e0f3270d09b627f9673f064ffd59b3b9f034be2a23333e5063d996a560d4", func := "placket/placketlaw02.QuoteReads", spec := "quoteReads", apart := false }
def QuoteReadsSaid : Prop := quoteReadsRow.holds Try.pinned (OpenSpec.ofChange quoteReadsSpec)

/-- ITS FALSE NEIGHBOUR: 'it returns false'. Refute it at one input. -/
def quoteReadsWrong : ChangeSpec := { name := "quoteReads", fn := fun _ => fun
  | [d] => { results := [.lit (.bool false)], args := [d] }
  | _ => none }
def QuoteReadsWrongFalsely : Prop := quoteReadsRow.holds Try.pinned (OpenSpec.ofChange quoteReadsWrong)

/-- 'placketlaw02.QuoteNames': WHATEVER THE INPUT: true; the input reads as it did. -/
def quoteNamesSpec : ChangeSpec := { name := "quoteNames", fn := fun _ => fun
  | [d] => { results := [.lit (.bool true)], args := [d] }
  | _ => none }
def quoteNamesRow : OpenClaim := { program := "ytdalplbgbgciiaa", sum := "af63e0f3270d09b627f9673f064ffd59b3b9f034be2a23333e5063d996a560d4", func := "placket/placketlaw02.QuoteNames", spec := "quoteNames", apart := false }
def QuoteNamesSaid : Prop := quoteNamesRow.holds Try.pinned (OpenSpec.ofChange quoteNamesSpec)

/-- ITS FALSE NEIGHBOUR: 'it returns false'. Refute it at one input. -/
def quoteNamesWrong : ChangeSpec := { name := "quoteNames", fn := fun _ => fun
  | [d] => { results := [.lit (.bool false)], args := [d] }
  | _ => none }
def QuoteNamesWrongFalsely : Prop := quoteNamesRow.holds Try.pinned (OpenSpec.ofChange quoteNamesWrong)

/-- 'placketlaw02.QuoteBack': WHATEVER THE INPUT: true; the input reads as it did. -/
def quoteBackSpec : ChangeSpec := { name := "quoteBack", fn := fun _ => fun
  | [d1, d2] => { results := [.lit (.bool true)], args := [d1, d2] }
  | _ => none }
def quoteBackRow : OpenClaim := { program := "ytdalplbgbgciiaa", sum := "af63e0f3270d09b627f9673f064ffd59b3b9f034be2a23333e5063d996a560d4", func := "placket/placketlaw02.QuoteBack", spec := "quoteBack", apart := false }
def QuoteBackSaid : Prop := quoteBackRow.holds Try.pinned (OpenSpec.ofChange quoteBackSpec)

/-- ITS FALSE NEIGHBOUR: 'it returns false'. Refute it at one input. -/
def quoteBackWrong : ChangeSpec := { name := "quoteBack", fn := fun _ => fun
  | [d1, d2] => { results := [.lit (.bool false)], args := [d1, d2] }
  | _ => none }
def QuoteBackWrongFalsely : Prop := quoteBackRow.holds Try.pinned (OpenSpec.ofChange quoteBackWrong)

/-- 'placketlaw02.QuoteApart': WHATEVER THE INPUT: true; the input reads as it did. -/
def quoteApartSpec : ChangeSpec := { name := "quoteApart", fn := fun _ => fun
  | [d1, d2, d3] => { results := [.lit (.bool true)], args := [d1, d2, d3] }
  | _ => none }
def quoteApartRow : OpenClaim := { program := "ytdalplbgbgciiaa", sum := "af63e0f3270d09b627f9673f064ffd59b3b9f034be2a23333e5063d996a560d4", func := "placket/placketlaw02.QuoteApart", spec := "quoteApart", apart := false }
def QuoteApartSaid : Prop := quoteApartRow.holds Try.pinned (OpenSpec.ofChange quoteApartSpec)

/-- ITS FALSE NEIGHBOUR: 'it returns false'. Refute it at one input. -/
def quoteApartWrong : ChangeSpec := { name := "quoteApart", fn := fun _ => fun
  | [d1, d2, d3] => { results := [.lit (.bool false)], args := [d1, d2, d3] }
  | _ => none }
def QuoteApartWrongFalsely : Prop := quoteApartRow.holds Try.pinned (OpenSpec.ofChange quoteApartWrong)

/- THE SECOND FORM. 'bulk': how many values and letters a reading holds, each counted each time it is reached (what is shared counts as often as it is met; a slice's spare places count too). A statement '..UptoSaid' is the law's where the arguments, and the package variables that the reading takes, are together of bulk at most 1048576: NARROWER than '..Said'. Prove '..Said' where nothing that the law and all that it calls make is longer than what came in: it says more and counts as full. Else prove '..UptoSaid'. A law counts once. -/
mutual
def uptoBulk {H : Type} : DataW H → Nat
  | .lit (.string bytes) => bytes.length + 1
  | .lit _ => 1
  | .nil => 1
  | .ptr d => uptoBulk d + 1
  | .slice elems spare => uptoBulkAll elems + uptoBulkAll spare + 1
  | .agg parts => uptoBulkAll parts + 1
  | .iface _ d => uptoBulk d + 1
  | .map entries => uptoBulkEntries entries + 1
  | .held _ => 1
def uptoBulkAll {H : Type} : List (DataW H) → Nat
  | [] => 0
  | d :: r => uptoBulk d + uptoBulkAll r
def uptoBulkEntries {H : Type} : List (Lit × DataW H) → Nat
  | [] => 0
  | x :: r => uptoBulkEntry x + uptoBulkEntries r
def uptoBulkEntry {H : Type} : Lit × DataW H → Nat
  | (.string bytes, d) => bytes.length + uptoBulk d + 1
  | (_, d) => uptoBulk d + 1
 end
def uptoSmall : (H : Type) → List (DataW H) → Bool := fun _ ds => decide (uptoBulkAll ds ≤ 1048576)
def OpenSpec.upto (s : _root_.Go.ChangeSpec) : _root_.Go.OpenSpec := { _root_.Go.OpenSpec.ofChange s with cond := some uptoSmall }

/-- 'placketlaw02.QuoteOrders', WHERE WHAT IT READS IS OF BULK AT MOST 1048576: true; the input reads as it did. -/
def quoteOrdersUptoRow : OpenClaim := { program := "ytdalplbgbgciiaa", sum := "af63e0f3270d09b627f9673f064ffd59b3b9f034be2a23333e5063d996a560d4", func := "placket/placketlaw02.QuoteOrders", spec := "quoteOrders", apart := false, narrowed := true }
def QuoteOrdersUptoSaid : Prop := quoteOrdersUptoRow.holds Try.pinned (OpenSpec.upto quoteOrdersSpec)

/-- 'placketlaw02.QuoteTotal', WHERE WHAT IT READS IS OF BULK AT MOST 1048576: true; the input reads as it did. -/
def quoteTotalUptoRow : OpenClaim := { program := "ytdalplbgbgciiaa", sum := "af63e0f3270d09b627f9673f064ffd59b3b9f034be2a23333e5063d996a560d4", func := "placket/placketlaw02.QuoteTotal", spec := "quoteTotal", apart := false, narrowed := true }
def QuoteTotalUptoSaid : Prop := quoteTotalUptoRow.holds Try.pinned (OpenSpec.upto quoteTotalSpec)

/-- 'placketlaw02.QuoteQuotes', WHERE WHAT IT READS IS OF BULK AT MOST 1048576: true; the input reads as it did. -/
def quoteQuotesUptoRow : OpenClaim := { program := "ytdalplbgbgciiaa", sum := "af63e0f3270d09b627f9673f064ffd59b3b9f034be2a23333e5063d996a560d4", func := "placket/placketlaw02.QuoteQuotes", spec := "quoteQuotes", apart := false, narrowed := true }
def QuoteQuotesUptoSaid : Prop := quoteQuotesUptoRow.holds Try.pinned (OpenSpec.upto quoteQuotesSpec)

/-- 'placketlaw02.QuoteReads', WHERE WHAT IT READS IS OF BULK AT MOST 1048576: true; the input reads as it did. -/
def quoteReadsUptoRow : OpenClaim := { program := "ytdalplbgbgciiaa", sum := "af63e0f3270d09b627f9673f064ffd59b3b9f034be2a23333e5063d996a560d4", func := "placket/placketlaw02.QuoteReads", spec := "quoteReads", apart := false, narrowed := true }
def QuoteReadsUptoSaid : Prop := quoteReadsUptoRow.holds Try.pinned (OpenSpec.upto quoteReadsSpec)

/-- 'placketlaw02.QuoteNames', WHERE WHAT IT READS IS OF BULK AT MOST 1048576: true; the input reads as it did. -/
def quoteNamesUptoRow : OpenClaim := { program := "ytdalplbgbgciiaa", sum := "af63e0f3270d09b627f9673f064ffd59b3b9f034be2a23333e5063d996a560d4", func := "placket/placketlaw02.QuoteNames", spec := "quoteNames", apart := false, narrowed := true }
def QuoteNamesUptoSaid : Prop := quoteNamesUptoRow.holds Try.pinned (OpenSpec.upto quoteNamesSpec)

/-- 'placketlaw02.QuoteBack', WHERE WHAT IT READS IS OF BULK AT MOST 1048576: true; the input reads as it did. -/
def quoteBackUptoRow : OpenClaim := { program := "ytdalplbgbgciiaa", sum := "af63e0f3270d09b627f9673f064ffd59b3b9f034be2a23333e5063d996a560d4", func := "placket/placketlaw02.QuoteBack", spec := "quoteBack", apart := false, narrowed := true }
def QuoteBackUptoSaid : Prop := quoteBackUptoRow.holds Try.pinned (OpenSpec.upto quoteBackSpec)

/-- 'placketlaw02.QuoteApart', WHERE WHAT IT READS IS OF BULK AT MOST 1048576: true; the input reads as it did. -/
def quoteApartUptoRow : OpenClaim := { program := "ytdalplbgbgciiaa", sum := "af63e0f3270d09b627f9673f064ffd59b3b9f034be2a23333e5063d996a560d4", func := "placket/placketlaw02.QuoteApart", spec := "quoteApart", apart := false, narrowed := true }
def QuoteApartUptoSaid : Prop := quoteApartUptoRow.holds Try.pinned (OpenSpec.upto quoteApartSpec)

end Rows
end Go.Proofs.Ytdalplbgbgciiaa
