/- QuoteApart is true of all texts: unlike texts are quoted unlike, and cut off anywhere what is quoted is no whole quotation. -/
import Derived.Test.YtdalplbgbgciiaaPureQuoteBack
namespace Go.Proofs.Ytdalplbgbgciiaa.Pure
set_option linter.unusedSimpArgs false
open Go.RowKit Go.Proofs.Ytdalplbgbgciiaa.PA Go.Proofs.YtdalplbgbgciiaaW.PrintWords Go.Proofs.YtdalplbgbgciiaaW.PrintLast

theorem QuoteApart : placketlaw02_QuoteApart.Pure := by
  intro s t c hs ht hc
  apply Ev.rounds
  unfold placketlaw02_QuoteApart.f
  refine Ev.bind live_ev ?_
  refine Ev.succ ?_
  by_cases hb : (s.size : Int) > 2000
  · simp only [hb, if_true, placketlaw02_QuoteApart.j0]
    exact live_only
  by_cases hb2 : (t.size : Int) > 2000
  · simp only [hb, hb2, decide_true, if_true, if_false, placketlaw02_QuoteApart.j0]
    exact live_only
  simp only [hb, hb2, decide_false, if_true, if_false, placketlaw02_QuoteApart.j0, Bool.false_eq_true]
  have hbs := bytesOf_range s
  have hbt := bytesOf_range t
  have hq := quoteL_length (bytesOf s)
  rw [bytesOf_length] at hq
  refine Ev.bind (quote_ev s (by omega)) (Ev.bind (quote_ev t (by omega)) ?_)
  have e1 : ((strOfNums (quoteL (bytesOf s))).toList == (strOfNums (quoteL (bytesOf t))).toList) = (s.toList == t.toList) := by
    rw [Bool.eq_iff_iff, beq_iff_eq, beq_iff_eq, toList_inj, toList_inj]
    constructor
    · intro e
      have e2 := congrArg bytesOf e
      rw [bytesOf_strOfNums _ (quoteL_bytes _ hbs), bytesOf_strOfNums _ (quoteL_bytes _ hbt)] at e2
      exact bytesOf_inj (quoteL_inj hbs hbt e2)
    · intro e
      rw [e]
  rw [e1]
  simp only [bne_self_eq_false, Bool.false_eq_true, if_false, strOfNums_size]
  by_cases h0 : c < 0
  · simp only [h0, if_true]
    exact Ev.now _
  by_cases h1 : c ≥ ((quoteL (bytesOf s)).length : Int)
  · simp only [h0, h1, if_true, if_false]
    exact Ev.now _
  simp only [h0, h1, if_false, show 0 ≤ c by omega, show c ≤ ((quoteL (bytesOf s)).length : Int) by omega, if_true]
  have hu := unquote_ev ((strOfNums (quoteL (bytesOf s))).extract 0 c.toNat) (by
    have h2 : (bytesOf ((strOfNums (quoteL (bytesOf s))).extract 0 c.toNat)).length ≤ (quoteL (bytesOf s)).length := by
      rw [bytesOf_take, bytesOf_strOfNums _ (quoteL_bytes _ hbs), List.length_take]
      omega
    rw [bytesOf_length] at h2
    omega)
  rw [bytesOf_take, bytesOf_strOfNums _ (quoteL_bytes _ hbs)] at hu
  refine Ev.bind hu ?_
  have hcut := unquote_cut (bytesOf s) hbs c.toNat (by omega)
  simp only [resU, hcut, if_true]
  refine Ev.const ?_
  congr 1
  rw [beq_iff_eq]
  omega

end Go.Proofs.Ytdalplbgbgciiaa.Pure
