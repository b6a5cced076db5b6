/- Where and want, by contracts that open their lists. -/
import Derived.Test.YtgfkpbjimmofdaaDoorFaultLive
namespace Go.Proofs.YtgfkpbjimmofdaaDoor
open Go.RowKit Go.Proofs.YtgfkpbjimmofdaaDoor.PA Go.Proofs.YtgfkpbjimmofdaaDoorW.PrintWords Go.Proofs.YtgfkpbjimmofdaaDoorW.PrintLast Go.Proofs.YtgfkpbjimmofdaaDoorW.PrintMore
set_option linter.unusedVariables false

theorem want_calls {k : Nat} {code at_ : Int} {A : Option Addr} {cap : Nat} {l : List Int} {r1 : Bool} {r2 : Int} {r3 : List Int} {w : World} (hc : Kd.C (Kd.int .i64) w A l.length l) (hcap : l.length ≤ cap) (h : placketlaw04_want.f k code at_ l = some (r1, r2, r3)) :
    Calls Tryd.prog 11 #[.int .i64 code, .int .i64 at_, .slice A l.length cap] w fun e w' => ∃ B cb, e = .returned (.agg #[.bool r1, .int .i64 r2, .slice B r3.length cb]) ∧ r3.length ≤ cb ∧ Kd.C (Kd.int .i64) w' B r3.length r3 ∧ Below w.heap.size w w' := by
  refine (placketlaw04_want.calls k code at_ A cap l r1 r2 r3 w hc hcap h).mono ?_
  rintro e w' ⟨v, rfl, hR, hb⟩
  obtain ⟨B, cb, rfl, h1, h2⟩ := Kd.R_reads hR
  exact ⟨B, cb, rfl, h1, h2, hb⟩
theorem where_c (l : List Int) (c : Option Int) (v : Value) (w : World) (hg : Laid w) (he : Err w v l c) (hlen : l.length < 17592186044416) :
    Calls Tryd.prog 16 #[v] w fun e w' => ∃ B cb, e = .returned (.slice B l.length cb) ∧ l.length ≤ cb ∧ Kd.C (Kd.int .i64) w' B l.length l ∧ Below w.heap.size w w' := by
  refine (where_calls l c v w hg he hlen).mono ?_
  rintro e w' ⟨v, rfl, hR, hb⟩
  obtain ⟨B, cb, rfl, h1, h2⟩ := Kd.R_reads hR
  exact ⟨B, cb, rfl, h1, h2, hb⟩

end Go.Proofs.YtgfkpbjimmofdaaDoor
