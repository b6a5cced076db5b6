/-
  DERIVED. GIVEN WITH THE SEED: THE CARDS: each row of YtkbjblhompkdkaaDoorRows.lean that lists a variable, with what it lists TIED to the program's text (the seventh form; the later family's looks); each row that meets fmt, with fmt's text TOLD by the authors' own Lean function (tested against real Go, not proved from fmt's source: count such statements apart). THE CARD IS WHAT COUNTS. Prove the row's statement (the work); the ties are given (YtkbjblhompkdkaaDoorTie.lean); close each card by the builder's one call (the guide's Derived/Test/ToyasCard.lean, 'card_holds'). Laid BY PROGRAM, IN A SANDBOX (cutbox-door.mjs). By AI agents, Wed Nov 11 2026. No macro, syntax, notation, axiom, sorry.
-/
import Derived.Test.YtkbjblhompkdkaaDoorRows
import GoSem.ClaimSeven
namespace Go.Proofs.YtkbjblhompkdkaaDoor
namespace Rows

/-- THE TIED CARD OF 'placketlaw13.LexNext'. -/
def lexNextCard : Claim7 := { stood := { row := lexNextRow, standIns := [], harness := (true, "edcbbcd970a0f93c54c5d8bd4b7b7f91c6e5e73c78f36d4bf8626c668a52f856"), looks := true }, kinds := [], alts := [], laidByText := true, laidKinds := [.handle, .data], laidTests := true, laidLooks := .later }
def LexNextCardSaid : Prop := Claim7.holds Tryd.pinned (.plain (OpenSpec.ofChange lexNextSpec)) lexNextCard

/-- THE TIED CARD OF 'placketlaw13.LexAll'. -/
def lexAllCard : Claim7 := { stood := { row := lexAllRow, standIns := [], harness := (true, "edcbbcd970a0f93c54c5d8bd4b7b7f91c6e5e73c78f36d4bf8626c668a52f856"), looks := true }, kinds := [], alts := [], laidByText := true, laidKinds := [.handle, .data], laidTests := true, laidLooks := .later }
def LexAllCardSaid : Prop := Claim7.holds Tryd.pinned (.plain (OpenSpec.ofChange lexAllSpec)) lexAllCard

/-- THE TIED CARD OF 'placketlaw13.LexFollow'. -/
def lexFollowCard : Claim7 := { stood := { row := lexFollowRow, standIns := [], harness := (true, "edcbbcd970a0f93c54c5d8bd4b7b7f91c6e5e73c78f36d4bf8626c668a52f856"), looks := true }, kinds := [], alts := [], laidByText := true, laidKinds := [.handle, .data], laidTests := true, laidLooks := .later }
def LexFollowCardSaid : Prop := Claim7.holds Tryd.pinned (.plain (OpenSpec.ofChange lexFollowSpec)) lexFollowCard

/-- THE TIED CARD OF 'placketlaw13.LexMany'. -/
def lexManyCard : Claim7 := { stood := { row := lexManyRow, standIns := [], harness := (true, "edcbbcd970a0f93c54c5d8bd4b7b7f91c6e5e73c78f36d4bf8626c668a52f856"), looks := true }, kinds := [], alts := [], laidByText := true, laidKinds := [.handle, .data], laidTests := true, laidLooks := .later }
def LexManyCardSaid : Prop := Claim7.holds Tryd.pinned (.plain (OpenSpec.ofChange lexManySpec)) lexManyCard

/-- THE TIED CARD OF 'placketlaw13.LexBack'. -/
def lexBackCard : Claim7 := { stood := { row := lexBackRow, standIns := [], harness := (true, "edcbbcd970a0f93c54c5d8bd4b7b7f91c6e5e73c78f36d4bf8626c668a52f856"), looks := true }, kinds := [], alts := [], laidByText := true, laidKinds := [.handle, .data], laidTests := true, laidLooks := .later }
def LexBackCardSaid : Prop := Claim7.holds Tryd.pinned (.plain (OpenSpec.ofChange lexBackSpec)) lexBackCard

/-- THE TIED CARD OF 'placketlaw13.LexWords'. -/
def lexWordsCard : Claim7 := { stood := { row := lexWordsRow, standIns := [], harness := (true, "edcbbcd970a0f93c54c5d8bd4b7b7f91c6e5e73c78f36d4bf8626c668a52f856"), looks := true }, kinds := [], alts := [], laidByText := true, laidKinds := [.handle, .data], laidTests := true, laidLooks := .later }
def LexWordsCardSaid : Prop := Claim7.holds Tryd.pinned (.plain (OpenSpec.ofChange lexWordsSpec)) lexWordsCard

/-- THE TIED CARD OF 'placketlaw16.RouteFilters'. -/
def routeFiltersCard : Claim7 := { stood := { row := routeFiltersRow, standIns := [], harness := (true, "edcbbcd970a0f93c54c5d8bd4b7b7f91c6e5e73c78f36d4bf8626c668a52f856"), looks := true }, kinds := [], alts := [], laidByText := true, laidKinds := [.data], laidTests := true, laidLooks := .later }
def RouteFiltersCardSaid : Prop := Claim7.holds Tryd.pinned (.plain (OpenSpec.ofChange routeFiltersSpec)) routeFiltersCard

/-- THE TIED CARD OF 'placketlaw16.RouteBack'. -/
def routeBackCard : Claim7 := { stood := { row := routeBackRow, standIns := [], harness := (true, "edcbbcd970a0f93c54c5d8bd4b7b7f91c6e5e73c78f36d4bf8626c668a52f856"), looks := true }, kinds := [], alts := [], laidByText := true, laidKinds := [.data], laidTests := true, laidLooks := .later }
def RouteBackCardSaid : Prop := Claim7.holds Tryd.pinned (.plain (OpenSpec.ofChange routeBackSpec)) routeBackCard

/-- THE TIED CARD OF 'placketlaw16.RouteTold'. -/
def routeToldCard : Claim7 := { stood := { row := routeToldRow, standIns := [], harness := (true, "edcbbcd970a0f93c54c5d8bd4b7b7f91c6e5e73c78f36d4bf8626c668a52f856"), looks := true }, kinds := [], alts := [], laidByText := true, laidKinds := [.data], laidTests := true, laidLooks := .later }
def RouteToldCardSaid : Prop := Claim7.holds Tryd.pinned (.plain (OpenSpec.ofChange routeToldSpec)) routeToldCard

/-- THE TIED CARD OF 'placketlaw16.RouteAgain'. -/
def routeAgainCard : Claim7 := { stood := { row := routeAgainRow, standIns := [], harness := (true, "edcbbcd970a0f93c54c5d8bd4b7b7f91c6e5e73c78f36d4bf8626c668a52f856"), looks := true }, kinds := [], alts := [], laidByText := true, laidKinds := [.handle, .data], laidTests := true, laidLooks := .later }
def RouteAgainCardSaid : Prop := Claim7.holds Tryd.pinned (.plain (OpenSpec.ofChange routeAgainSpec)) routeAgainCard

/-- THE TIED CARD OF 'placketlaw16.RouteChecks'. -/
def routeChecksCard : Claim7 := { stood := { row := routeChecksRow, standIns := [], harness := (true, "edcbbcd970a0f93c54c5d8bd4b7b7f91c6e5e73c78f36d4bf8626c668a52f856"), looks := true }, kinds := [], alts := [], laidByText := true, laidKinds := [.handle, .data], laidTests := true, laidLooks := .later }
def RouteChecksCardSaid : Prop := Claim7.holds Tryd.pinned (.plain (OpenSpec.ofChange routeChecksSpec)) routeChecksCard

/-- THE TIED CARD OF 'placketlaw16.RouteParses'. -/
def routeParsesCard : Claim7 := { stood := { row := routeParsesRow, standIns := [], harness := (true, "edcbbcd970a0f93c54c5d8bd4b7b7f91c6e5e73c78f36d4bf8626c668a52f856"), looks := true }, kinds := [], alts := [], laidByText := true, laidKinds := [.handle, .data], laidTests := true, laidLooks := .later }
def RouteParsesCardSaid : Prop := Claim7.holds Tryd.pinned (.plain (OpenSpec.ofChange routeParsesSpec)) routeParsesCard

/-- THE SECOND FORM's CARD OF 'placketlaw13.LexNext'. -/
def lexNextUptoCard : Claim7 := { stood := { row := lexNextUptoRow, standIns := [], harness := (true, "edcbbcd970a0f93c54c5d8bd4b7b7f91c6e5e73c78f36d4bf8626c668a52f856"), looks := true }, kinds := [], alts := [], laidByText := true, laidKinds := [.handle, .data], laidTests := true, laidLooks := .later }
def LexNextUptoCardSaid : Prop := Claim7.holds Tryd.pinned (.plain (OpenSpec.upto lexNextSpec)) lexNextUptoCard

/-- THE SECOND FORM's CARD OF 'placketlaw13.LexAll'. -/
def lexAllUptoCard : Claim7 := { stood := { row := lexAllUptoRow, standIns := [], harness := (true, "edcbbcd970a0f93c54c5d8bd4b7b7f91c6e5e73c78f36d4bf8626c668a52f856"), looks := true }, kinds := [], alts := [], laidByText := true, laidKinds := [.handle, .data], laidTests := true, laidLooks := .later }
def LexAllUptoCardSaid : Prop := Claim7.holds Tryd.pinned (.plain (OpenSpec.upto lexAllSpec)) lexAllUptoCard

/-- THE SECOND FORM's CARD OF 'placketlaw13.LexFollow'. -/
def lexFollowUptoCard : Claim7 := { stood := { row := lexFollowUptoRow, standIns := [], harness := (true, "edcbbcd970a0f93c54c5d8bd4b7b7f91c6e5e73c78f36d4bf8626c668a52f856"), looks := true }, kinds := [], alts := [], laidByText := true, laidKinds := [.handle, .data], laidTests := true, laidLooks := .later }
def LexFollowUptoCardSaid : Prop := Claim7.holds Tryd.pinned (.plain (OpenSpec.upto lexFollowSpec)) lexFollowUptoCard

/-- THE SECOND FORM's CARD OF 'placketlaw13.LexMany'. -/
def lexManyUptoCard : Claim7 := { stood := { row := lexManyUptoRow, standIns := [], harness := (true, "edcbbcd970a0f93c54c5d8bd4b7b7f91c6e5e73c78f36d4bf8626c668a52f856"), looks := true }, kinds := [], alts := [], laidByText := true, laidKinds := [.handle, .data], laidTests := true, laidLooks := .later }
def LexManyUptoCardSaid : Prop := Claim7.holds Tryd.pinned (.plain (OpenSpec.upto lexManySpec)) lexManyUptoCard

/-- THE SECOND FORM's CARD OF 'placketlaw13.LexBack'. -/
def lexBackUptoCard : Claim7 := { stood := { row := lexBackUptoRow, standIns := [], harness := (true, "edcbbcd970a0f93c54c5d8bd4b7b7f91c6e5e73c78f36d4bf8626c668a52f856"), looks := true }, kinds := [], alts := [], laidByText := true, laidKinds := [.handle, .data], laidTests := true, laidLooks := .later }
def LexBackUptoCardSaid : Prop := Claim7.holds Tryd.pinned (.plain (OpenSpec.upto lexBackSpec)) lexBackUptoCard

/-- THE SECOND FORM's CARD OF 'placketlaw13.LexWords'. -/
def lexWordsUptoCard : Claim7 := { stood := { row := lexWordsUptoRow, standIns := [], harness := (true, "edcbbcd970a0f93c54c5d8bd4b7b7f91c6e5e73c78f36d4bf8626c668a52f856"), looks := true }, kinds := [], alts := [], laidByText := true, laidKinds := [.handle, .data], laidTests := true, laidLooks := .later }
def LexWordsUptoCardSaid : Prop := Claim7.holds Tryd.pinned (.plain (OpenSpec.upto lexWordsSpec)) lexWordsUptoCard

/-- THE SECOND FORM's CARD OF 'placketlaw16.RouteFilters'. -/
def routeFiltersUptoCard : Claim7 := { stood := { row := routeFiltersUptoRow, standIns := [], harness := (true, "edcbbcd970a0f93c54c5d8bd4b7b7f91c6e5e73c78f36d4bf8626c668a52f856"), looks := true }, kinds := [], alts := [], laidByText := true, laidKinds := [.data], laidTests := true, laidLooks := .later }
def RouteFiltersUptoCardSaid : Prop := Claim7.holds Tryd.pinned (.plain (OpenSpec.upto routeFiltersSpec)) routeFiltersUptoCard

/-- THE SECOND FORM's CARD OF 'placketlaw16.RouteBack'. -/
def routeBackUptoCard : Claim7 := { stood := { row := routeBackUptoRow, standIns := [], harness := (true, "edcbbcd970a0f93c54c5d8bd4b7b7f91c6e5e73c78f36d4bf8626c668a52f856"), looks := true }, kinds := [], alts := [], laidByText := true, laidKinds := [.data], laidTests := true, laidLooks := .later }
def RouteBackUptoCardSaid : Prop := Claim7.holds Tryd.pinned (.plain (OpenSpec.upto routeBackSpec)) routeBackUptoCard

/-- THE SECOND FORM's CARD OF 'placketlaw16.RouteTold'. -/
def routeToldUptoCard : Claim7 := { stood := { row := routeToldUptoRow, standIns := [], harness := (true, "edcbbcd970a0f93c54c5d8bd4b7b7f91c6e5e73c78f36d4bf8626c668a52f856"), looks := true }, kinds := [], alts := [], laidByText := true, laidKinds := [.data], laidTests := true, laidLooks := .later }
def RouteToldUptoCardSaid : Prop := Claim7.holds Tryd.pinned (.plain (OpenSpec.upto routeToldSpec)) routeToldUptoCard

/-- THE SECOND FORM's CARD OF 'placketlaw16.RouteAgain'. -/
def routeAgainUptoCard : Claim7 := { stood := { row := routeAgainUptoRow, standIns := [], harness := (true, "edcbbcd970a0f93c54c5d8bd4b7b7f91c6e5e73c78f36d4bf8626c668a52f856"), looks := true }, kinds := [], alts := [], laidByText := true, laidKinds := [.handle, .data], laidTests := true, laidLooks := .later }
def RouteAgainUptoCardSaid : Prop := Claim7.holds Tryd.pinned (.plain (OpenSpec.upto routeAgainSpec)) routeAgainUptoCard

/-- THE SECOND FORM's CARD OF 'placketlaw16.RouteChecks'. -/
def routeChecksUptoCard : Claim7 := { stood := { row := routeChecksUptoRow, standIns := [], harness := (true, "edcbbcd970a0f93c54c5d8bd4b7b7f91c6e5e73c78f36d4bf8626c668a52f856"), looks := true }, kinds := [], alts := [], laidByText := true, laidKinds := [.handle, .data], laidTests := true, laidLooks := .later }
def RouteChecksUptoCardSaid : Prop := Claim7.holds Tryd.pinned (.plain (OpenSpec.upto routeChecksSpec)) routeChecksUptoCard

/-- THE SECOND FORM's CARD OF 'placketlaw16.RouteParses'. -/
def routeParsesUptoCard : Claim7 := { stood := { row := routeParsesUptoRow, standIns := [], harness := (true, "edcbbcd970a0f93c54c5d8bd4b7b7f91c6e5e73c78f36d4bf8626c668a52f856"), looks := true }, kinds := [], alts := [], laidByText := true, laidKinds := [.handle, .data], laidTests := true, laidLooks := .later }
def RouteParsesUptoCardSaid : Prop := Claim7.holds Tryd.pinned (.plain (OpenSpec.upto routeParsesSpec)) routeParsesUptoCard
end Rows
end Go.Proofs.YtkbjblhompkdkaaDoor
