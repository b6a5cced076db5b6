/- QuoteNames is true of all texts: which are names, and what digits say, is the document's. -/
import Derived.Test.YtdalplbgbgciiaaHexPure
import Derived.Test.YtdalplbgbgciiaaRefName
import Derived.Test.YtdalplbgbgciiaaQuoteLive
namespace Go.Proofs.Ytdalplbgbgciiaa.Pure
set_option linter.unusedSimpArgs false
open Go.RowKit Go.Proofs.Ytdalplbgbgciiaa.PA Go.Proofs.YtdalplbgbgciiaaW.PrintWords Go.Proofs.YtdalplbgbgciiaaW.PrintLast
theorem QuoteNames : placketlaw02_QuoteNames.Pure := by
  intro s hs
  apply Ev.rounds
  unfold placketlaw02_QuoteNames.f
  refine Ev.bind live_ev ?_
  refine Ev.succ ?_
  by_cases hb : (s.size : Int) > 2000
  · simp only [hb, decide_true, if_true, placketlaw02_QuoteNames.j0]
    exact live_only
  · simp only [hb, decide_false, if_true, placketlaw02_QuoteNames.j0, Bool.false_eq_true, if_false]
    have hu := unhex_both s (by omega)
    refine Ev.bind hu.1 (Ev.bind hu.2 (Ev.bind (name_ev s (by omega)) (Ev.bind (refname_ev s (by omega)) ?_)))
    exact Ev.const (by simp)
end Go.Proofs.Ytdalplbgbgciiaa.Pure
