/- QuoteQuotes is true of all texts: quotations and digits are the document's. -/
import Derived.Test.YtdalplbgbgciiaaHexPure
import Derived.Test.YtdalplbgbgciiaaQuoteLive
namespace Go.Proofs.Ytdalplbgbgciiaa.Pure
set_option linter.unusedSimpArgs false
open Go.RowKit Go.Proofs.Ytdalplbgbgciiaa.PA Go.Proofs.YtdalplbgbgciiaaW.PrintWords Go.Proofs.YtdalplbgbgciiaaW.PrintLast
theorem QuoteQuotes : placketlaw02_QuoteQuotes.Pure := by
  intro s hs
  apply Ev.rounds
  unfold placketlaw02_QuoteQuotes.f
  refine Ev.bind live_ev ?_
  refine Ev.succ ?_
  by_cases hb : (s.size : Int) > 2000
  · simp only [hb, decide_true, if_true, placketlaw02_QuoteQuotes.j0]
    exact live_only
  · simp only [hb, decide_false, if_true, placketlaw02_QuoteQuotes.j0, Bool.false_eq_true, if_false]
    refine Ev.bind (quote_ev s (by omega)) (Ev.bind (refquote_ev s (by omega)) ?_)
    simp only [if_true]
    refine Ev.bind (hex_ev s (by omega)) (Ev.bind (refhex_ev s (by omega)) ?_)
    exact Ev.const (by simp)
end Go.Proofs.Ytdalplbgbgciiaa.Pure
