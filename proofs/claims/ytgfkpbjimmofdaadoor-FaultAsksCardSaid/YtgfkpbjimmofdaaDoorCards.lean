/-
  DERIVED. GIVEN WITH THE SEED: THE CARDS: each row of YtgfkpbjimmofdaaDoorRows.lean that lists a variable, with what it lists TIED to the program's text (the seventh form; the later family's looks); each row that meets fmt, with fmt's text TOLD by the authors' own Lean function (tested against real Go, not proved from fmt's source: count such statements apart). THE CARD IS WHAT COUNTS. Prove the row's statement (the work); the ties are given (YtgfkpbjimmofdaaDoorTie.lean); close each card by the builder's one call (the guide's Derived/Test/ToyasCard.lean, 'card_holds'). Laid BY PROGRAM, IN A SANDBOX (cutbox-door.mjs). By AI agents, Wed Nov 11 2026. No macro, syntax, notation, axiom, sorry.
-/
import Derived.Test.YtgfkpbjimmofdaaDoorRows
import GoSem.ClaimSeven
namespace Go.Proofs.YtgfkpbjimmofdaaDoor
namespace Rows

/-- THE TIED CARD OF 'placketlaw04.FaultAsks'. -/
def faultAsksCard : Claim7 := { stood := { row := faultAsksRow, standIns := [], harness := (true, "176ab19659f5b7ce010d4916b34c1d9d12c7aa6e5b7041b9f3626cf0a36a9345"), looks := true }, kinds := [], alts := [], laidByText := true, laidKinds := [.handle], laidTests := true, laidLooks := .later }
def FaultAsksCardSaid : Prop := Claim7.holds Tryd.pinned (.plain (OpenSpec.ofChange faultAsksSpec)) faultAsksCard

/-- THE TIED CARD OF 'placketlaw04.FaultKept'. -/
def faultKeptCard : Claim7 := { stood := { row := faultKeptRow, standIns := [], harness := (true, "176ab19659f5b7ce010d4916b34c1d9d12c7aa6e5b7041b9f3626cf0a36a9345"), looks := true }, kinds := [], alts := [], laidByText := true, laidKinds := [.handle], laidTests := true, laidLooks := .later }
def FaultKeptCardSaid : Prop := Claim7.holds Tryd.pinned (.plain (OpenSpec.ofChange faultKeptSpec)) faultKeptCard

/-- THE TIED CARD OF 'placketlaw04.FaultOuter'. -/
def faultOuterCard : Claim7 := { stood := { row := faultOuterRow, standIns := [], harness := (true, "176ab19659f5b7ce010d4916b34c1d9d12c7aa6e5b7041b9f3626cf0a36a9345"), looks := true }, kinds := [], alts := [], laidByText := true, laidKinds := [.handle], laidTests := true, laidLooks := .later }
def FaultOuterCardSaid : Prop := Claim7.holds Tryd.pinned (.plain (OpenSpec.ofChange faultOuterSpec)) faultOuterCard

/-- THE TIED CARD OF 'placketlaw04.FaultFound'. -/
def faultFoundCard : Claim7 := { stood := { row := faultFoundRow, standIns := [], harness := (true, "176ab19659f5b7ce010d4916b34c1d9d12c7aa6e5b7041b9f3626cf0a36a9345"), looks := true }, kinds := [], alts := [], laidByText := true, laidKinds := [.handle], laidTests := true, laidLooks := .later }
def FaultFoundCardSaid : Prop := Claim7.holds Tryd.pinned (.plain (OpenSpec.ofChange faultFoundSpec)) faultFoundCard

/-- THE TIED CARD OF 'placketlaw04.FaultHas'. -/
def faultHasCard : Claim7 := { stood := { row := faultHasRow, standIns := [], harness := (true, "176ab19659f5b7ce010d4916b34c1d9d12c7aa6e5b7041b9f3626cf0a36a9345"), looks := true }, kinds := [], alts := [], laidByText := true, laidKinds := [.handle], laidTests := true, laidLooks := .later }
def FaultHasCardSaid : Prop := Claim7.holds Tryd.pinned (.plain (OpenSpec.ofChange faultHasSpec)) faultHasCard

/-- THE TIED CARD OF 'placketlaw04.FaultBare'. -/
def faultBareCard : Claim7 := { stood := { row := faultBareRow, standIns := [], harness := (true, "176ab19659f5b7ce010d4916b34c1d9d12c7aa6e5b7041b9f3626cf0a36a9345"), looks := true }, kinds := [], alts := [], laidByText := true, laidKinds := [.handle], laidTests := true, laidLooks := .later }
def FaultBareCardSaid : Prop := Claim7.holds Tryd.pinned (.plain (OpenSpec.ofChange faultBareSpec)) faultBareCard

/-- THE SECOND FORM's CARD OF 'placketlaw04.FaultAsks'. -/
def faultAsksUptoCard : Claim7 := { stood := { row := faultAsksUptoRow, standIns := [], harness := (true, "176ab19659f5b7ce010d4916b34c1d9d12c7aa6e5b7041b9f3626cf0a36a9345"), looks := true }, kinds := [], alts := [], laidByText := true, laidKinds := [.handle], laidTests := true, laidLooks := .later }
def FaultAsksUptoCardSaid : Prop := Claim7.holds Tryd.pinned (.plain (OpenSpec.upto faultAsksSpec)) faultAsksUptoCard

/-- THE SECOND FORM's CARD OF 'placketlaw04.FaultKept'. -/
def faultKeptUptoCard : Claim7 := { stood := { row := faultKeptUptoRow, standIns := [], harness := (true, "176ab19659f5b7ce010d4916b34c1d9d12c7aa6e5b7041b9f3626cf0a36a9345"), looks := true }, kinds := [], alts := [], laidByText := true, laidKinds := [.handle], laidTests := true, laidLooks := .later }
def FaultKeptUptoCardSaid : Prop := Claim7.holds Tryd.pinned (.plain (OpenSpec.upto faultKeptSpec)) faultKeptUptoCard

/-- THE SECOND FORM's CARD OF 'placketlaw04.FaultOuter'. -/
def faultOuterUptoCard : Claim7 := { stood := { row := faultOuterUptoRow, standIns := [], harness := (true, "176ab19659f5b7ce010d4916b34c1d9d12c7aa6e5b7041b9f3626cf0a36a9345"), looks := true }, kinds := [], alts := [], laidByText := true, laidKinds := [.handle], laidTests := true, laidLooks := .later }
def FaultOuterUptoCardSaid : Prop := Claim7.holds Tryd.pinned (.plain (OpenSpec.upto faultOuterSpec)) faultOuterUptoCard

/-- THE SECOND FORM's CARD OF 'placketlaw04.FaultFound'. -/
def faultFoundUptoCard : Claim7 := { stood := { row := faultFoundUptoRow, standIns := [], harness := (true, "176ab19659f5b7ce010d4916b34c1d9d12c7aa6e5b7041b9f3626cf0a36a9345"), looks := true }, kinds := [], alts := [], laidByText := true, laidKinds := [.handle], laidTests := true, laidLooks := .later }
def FaultFoundUptoCardSaid : Prop := Claim7.holds Tryd.pinned (.plain (OpenSpec.upto faultFoundSpec)) faultFoundUptoCard

/-- THE SECOND FORM's CARD OF 'placketlaw04.FaultHas'. -/
def faultHasUptoCard : Claim7 := { stood := { row := faultHasUptoRow, standIns := [], harness := (true, "176ab19659f5b7ce010d4916b34c1d9d12c7aa6e5b7041b9f3626cf0a36a9345"), looks := true }, kinds := [], alts := [], laidByText := true, laidKinds := [.handle], laidTests := true, laidLooks := .later }
def FaultHasUptoCardSaid : Prop := Claim7.holds Tryd.pinned (.plain (OpenSpec.upto faultHasSpec)) faultHasUptoCard

/-- THE SECOND FORM's CARD OF 'placketlaw04.FaultBare'. -/
def faultBareUptoCard : Claim7 := { stood := { row := faultBareUptoRow, standIns := [], harness := (true, "176ab19659f5b7ce010d4916b34c1d9d12c7aa6e5b7041b9f3626cf0a36a9345"), looks := true }, kinds := [], alts := [], laidByText := true, laidKinds := [.handle], laidTests := true, laidLooks := .later }
def FaultBareUptoCardSaid : Prop := Claim7.holds Tryd.pinned (.plain (OpenSpec.upto faultBareSpec)) faultBareUptoCard
end Rows
end Go.Proofs.YtgfkpbjimmofdaaDoor
