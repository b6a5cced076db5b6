/- QuoteReads is true of all texts: what bytes say in quotes, and which are canonical, is the document's. -/
import Derived.Test.YtdalplbgbgciiaaRefQuote
import Derived.Test.YtdalplbgbgciiaaQuoteLive
namespace Go.Proofs.Ytdalplbgbgciiaa.Pure
set_option linter.unusedSimpArgs false
open Go.RowKit Go.Proofs.Ytdalplbgbgciiaa.PA Go.Proofs.YtdalplbgbgciiaaW.PrintWords Go.Proofs.YtdalplbgbgciiaaW.PrintLast

theorem QuoteReads : placketlaw02_QuoteReads.Pure := by
  intro s hs
  apply Ev.rounds
  unfold placketlaw02_QuoteReads.f
  refine Ev.bind live_ev ?_
  refine Ev.succ ?_
  by_cases hb : (s.size : Int) > 2000
  · simp only [hb, decide_true, if_true, placketlaw02_QuoteReads.j0]
    exact live_only
  · simp only [hb, decide_false, if_true, placketlaw02_QuoteReads.j0, Bool.false_eq_true, if_false]
    refine Ev.bind (unquote_ev s (by omega)) (Ev.bind (refunquote_ev s (by omega)) ?_)
    simp only [if_true]
    refine Ev.bind (canon_ev s (by omega)) (Ev.bind (refcanon_ev s (by omega)) ?_)
    exact Ev.const (by simp)

end Go.Proofs.Ytdalplbgbgciiaa.Pure
