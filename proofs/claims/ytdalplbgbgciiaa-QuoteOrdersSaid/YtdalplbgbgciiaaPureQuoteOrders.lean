/- QuoteOrders is true of all texts: which is ahead, and the common beginning, are the document's. -/
import Derived.Test.YtdalplbgbgciiaaOrderPure
import Derived.Test.YtdalplbgbgciiaaQuoteLive
namespace Go.Proofs.Ytdalplbgbgciiaa.Pure
set_option linter.unusedSimpArgs false
open Go.RowKit Go.Proofs.Ytdalplbgbgciiaa.PA Go.Proofs.YtdalplbgbgciiaaW.PrintWords Go.Proofs.YtdalplbgbgciiaaW.PrintLast
theorem QuoteOrders : placketlaw02_QuoteOrders.Pure := by
  intro s t hs ht
  apply Ev.rounds
  unfold placketlaw02_QuoteOrders.f
  refine Ev.bind live_ev ?_
  refine Ev.succ ?_
  by_cases hb : (s.size : Int) > 2000
  · simp only [hb, if_true, placketlaw02_QuoteOrders.j0]
    exact live_only
  by_cases hb2 : (t.size : Int) > 2000
  · simp only [hb, hb2, decide_true, if_true, if_false, placketlaw02_QuoteOrders.j0]
    exact live_only
  simp only [hb, hb2, decide_false, if_true, if_false, placketlaw02_QuoteOrders.j0, Bool.false_eq_true, order_some, Option.bind_some]
  refine Ev.bind (reforder_ev s t hs ht) ?_
  simp only [if_true]
  refine Ev.bind (common_ev s t hs ht) (Ev.bind (refcommon_ev s t hs ht) ?_)
  exact Ev.const (by simp)
end Go.Proofs.Ytdalplbgbgciiaa.Pure
