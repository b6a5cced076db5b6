/- What the rows of the laws on tokens share: the table of signs and the variable's cell out of the row's condition, a world that meets it, a slice of numbers as the walks read it. -/
import Derived.Test.YtkbjblhompkdkaaDoorRows
import Derived.Test.YtkbjblhompkdkaaDoorCards
import Derived.Test.YtkbjblhompkdkaaDoorTie
import Derived.Test.YtkbjblhompkdkaaDoorWSized
import Derived.Test.YtkbjblhompkdkaaDoorLexAllW
import Derived.FnData
import Derived.WalkKit
import Derived.ProofKit
import Derived.OpenShut
import Derived.ShutString
import Derived.ChangeOld
import Derived.Below
import Derived.SizedLaws
import Derived.ChangeSame
import Derived.ChangeVars
import Derived.JoinedOf
import Derived.RowKitTokens
import Derived.LaidLaws
import Derived.LaidHandle
import Derived.Stop.Joined
import Derived.SevenTiedAt
namespace Go.Proofs.YtkbjblhompkdkaaDoor.LexRow
open Go Go.ChangeShapes Go.WideShapes Go.ChangeAt Go.RowKit Go.Proofs.YtkbjblhompkdkaaDoor Go.Proofs.YtkbjblhompkdkaaDoorW.PrintWords Go.Proofs.YtkbjblhompkdkaaDoorW.PrintLast
set_option linter.unusedVariables false

def laid : List (String × DataW Unit) := [("errors.errorType", Rows.laid_errors_errorType), ("placket/lex.signs", Rows.laid_placket_lex_signs)]
def laidS : List (String × DataW Unit) := [("placket/lex.signs", Rows.laid_placket_lex_signs)]
theorem own : ownKnob Tryd.prog.godebug = none := by kernel_rfl
theorem laidOut : laidOutB Tryd.prog = true := by kernel_rfl
theorem et : Tryd.prog.globalNamed "errors.errorType" = some 1 := by kernel_rfl
theorem rt : (Tryd.prog.cutTypes.find? (·.1 == "internal/reflectlite.rtype")).map (·.2) = some 137 := by kernel_rfl
theorem oneRow : ((List.range 180).filter fun t => Tryd.prog.rowNamed t [101, 114, 114, 111, 114]) = [26] := by kernel_rfl
theorem size : Tryd.prog.types.size = 180 := by kernel_rfl

theorem handle_of_laid {W : World} (h : laidMetH Tryd.prog laid W) : Laid W := by
  have h' : laidMet Tryd.prog laidS W ∧ handlesMet Tryd.prog [("errors.errorType", Rows.laid_errors_errorType)] W := h
  obtain ⟨name, u, ty, e1, e2, e3, e4, e5⟩ := h'.2 _ (List.mem_singleton.2 rfl)
  have en : name = [101, 114, 114, 111, 114] := (Option.some.inj e1).symm
  subst en
  obtain rfl := Option.some.inj (rt.symm.trans e2)
  have hm : ty ∈ (List.range 180).filter fun t => Tryd.prog.rowNamed t [101, 114, 114, 111, 114] := List.mem_filter.2 ⟨List.mem_range.2 (by rw [← size]; exact e3), e4⟩
  rw [oneRow] at hm
  obtain rfl := List.mem_singleton.1 hm
  have hh : typeHandle Tryd.prog 26 = .pointer (some ⟨2, 26, none⟩) := by kernel_rfl
  rw [hh] at e5
  unfold Laid
  simpa using World.var?_cell et e5 0

theorem st : Tryd.prog.globalNamed "placket/lex.signs" = some 0 := by kernel_rfl
theorem st2 : (Tryd.prog.globals[(0 : Nat)]?).map (·.type) = some 81 := by kernel_rfl
theorem signs_data : Rows.laid_placket_lex_signs = (DataW.agg (signsB.map fun x => .lit (.string x.data.toList)) : DataW Unit) := by kernel_rfl
theorem cells9 : Tryd.prog.cellsOf 9 = 1 := by kernel_rfl
set_option maxRecDepth 100000 in
theorem signs_of_trod {W : World} {cs : Array Value} {fuel : Nat} {p : List MemPlace} (hv : W.var? Tryd.prog "placket/lex.signs" = some cs)
    (h : DataW.trod (fun _ => ()) Tryd.prog W 0 (fun _ => true) false fuel 81 cs.toList = some (Rows.laid_placket_lex_signs, p)) : Signs W := by
  obtain ⟨xs, m, rfl, hx, hlen, hxl, hel⟩ := DataW.trod_array Tryd.underlying81 h
  intro i x hi
  have hi23 : i < 23 := by
    have := (List.getElem?_eq_some_iff.1 hi).1
    simpa [signsB] using this
  have e := hel i hi23
  rw [cells9, Nat.mul_one] at e
  have hdat : xs.map (·.1) = signsB.map fun x => (DataW.lit (.string x.data.toList) : DataW Unit) := by
    have := congrArg Prod.fst hx
    rw [signs_data] at this
    injection this with h1
    exact h1.symm
  obtain ⟨y, hy⟩ : ∃ y, xs[i]? = some y := ⟨_, List.getElem?_eq_getElem (show i < xs.length by omega)⟩
  have hy1 : y.1 = .lit (.string x.data.toList) := by
    have := congrArg (·[i]?) hdat
    simp only [List.getElem?_map, hy, hi, Option.map_some, Option.some.injEq] at this
    exact this
  rw [hy] at e
  obtain ⟨s, hs, hys, -⟩ := DataW.trod_string Tryd.underlying9 e
  have hsx : s = x := by
    rw [hys] at hy1
    injection hy1 with h1
    injection h1 with h2
    exact ByteArray.ext (Array.toList_inj.1 h2)
  subst hsx
  rw [World.var?_cell st hv i, ← Array.getElem?_toList]
  have h0 := congrArg (·[0]?) hs
  simp only [List.getElem?_take, List.getElem?_drop] at h0
  simpa using h0
theorem signs_of_met {W : World} (h : laidMet Tryd.prog laidS W) : Signs W := by
  obtain ⟨ps, ⟨g, t, cs, fuel, p, q, h1, h2, h3, h4, -⟩, -⟩ := h
  obtain rfl := Option.some.inj (st.symm.trans h1)
  obtain rfl := Option.some.inj (st2.symm.trans h2)
  exact signs_of_trod h3 h4
theorem signs_of_laid {W : World} (h : laidMetH Tryd.prog laid W) : Signs W := by
  have h' : laidMet Tryd.prog laidS W ∧ handlesMet Tryd.prog [("errors.errorType", Rows.laid_errors_errorType)] W := h
  exact signs_of_met h'.1

noncomputable def laidWorld (os : Os) : World :=
  let w0 := World.holding Tryd.prog os ⟨#[], #[], []⟩
  { w0 with heap := (w0.heap.modify 1 fun
      | .cells _ t frozen => .cells #[.iface 137 (.agg #[.pointer (some ⟨2, 26, none⟩)])] t frozen
      | o => o).modify 0 fun
      | .cells _ t frozen => .cells tableV.cells t frozen
      | o => o }
theorem laidWorld_signs (os : Os) (args : Array Value) : laidMet Tryd.prog laidS ((laidWorld os).forCall (fun _ _ => 0) ⟨#[], args, []⟩).memory :=
  laidMet_of_run' 8 (by kernel_rfl) (by kernel_rfl)
theorem laidWorld_met (os : Os) (args : Array Value) : laidMetH Tryd.prog laid ((laidWorld os).forCall (fun _ _ => 0) ⟨#[], args, []⟩).memory :=
  laidMetH_of_parts (laidWorld_signs os args) (by kernel_rfl)

end Go.Proofs.YtkbjblhompkdkaaDoor.LexRow
