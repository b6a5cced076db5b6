/- NumDigits is true of all numbers and texts: digits and parsing are the document's. -/
import Derived.Test.YtncmkbmggflloaaRefNum
namespace Go.Proofs.Ytncmkbmggflloaa.Pure
open Go.RowKit Go.Proofs.Ytncmkbmggflloaa.PA Go.Proofs.YtncmkbmggflloaaW.PrintWords Go.Proofs.YtncmkbmggflloaaW.PrintLast

theorem NumDigits : placketlaw01_NumDigits.Pure := by
  intro n s wn hs
  obtain ⟨h0, h1⟩ := i64_wf wn
  apply Ev.rounds
  unfold placketlaw01_NumDigits.f
  refine Ev.bind live_ev ?_
  by_cases hb : (s.size : Int) > 200
  · refine Ev.step (f := fun k => (placketlaw01_live.f k).bind fun t => some t) (fun k => ?_) (Ev.bind live_ev (Ev.now _))
    rw [if_pos rfl, decide_eq_true hb]
    simp only [placketlaw01_NumDigits.j0]
    rw [if_pos trivial]
  · refine Ev.step (f := fun k => (num_Parse.f k s).bind fun a => (placketref01_Parse.f k s).bind fun b => (placketref01_Digits.f k n).bind fun d => if (strOfNums (digL n)).toList = d.toList then (if a.1 = b.1 then some (a.2 == b.2) else some false) else some false) (fun k => ?_) ?_
    · rw [if_pos rfl, decide_eq_false hb]
      simp only [placketlaw01_NumDigits.j0]
      rw [if_neg (by simp)]
      unfold num_Digits.f
      rw [if_pos ⟨h0, h1⟩]
      simp only [Option.bind_some]
    · refine Ev.bind (num_Parse_ev s hs) (Ev.bind (refParse_ev s hs) (Ev.bind (refDigits_ev n h0 h1) ?_))
      refine Ev.congr (f := fun _ => some true) (fun k => ?_) (Ev.now _)
      simp

end Go.Proofs.Ytncmkbmggflloaa.Pure
