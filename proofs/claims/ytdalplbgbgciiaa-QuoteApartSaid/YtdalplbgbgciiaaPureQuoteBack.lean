/- QuoteBack is true of all texts: what is quoted is unquoted, whatever stands behind, and what is written as digits is read. -/
import Derived.Test.YtdalplbgbgciiaaHexPure
import Derived.Test.YtdalplbgbgciiaaQuoteLive
namespace Go.Proofs.Ytdalplbgbgciiaa.Pure
set_option linter.unusedSimpArgs false
open Go.RowKit Go.Proofs.Ytdalplbgbgciiaa.PA Go.Proofs.YtdalplbgbgciiaaW.PrintWords Go.Proofs.YtdalplbgbgciiaaW.PrintLast

theorem quoteL_length (l : List Int) : (quoteL l).length ≤ 4 * l.length + 2 := by
  have := qbody_length l
  simp [quoteL]
  omega
theorem canon_quote (l : List Int) (hb : ∀ x ∈ l, 0 ≤ x ∧ x ≤ 255) : canonL (quoteL l) = true := by
  have := unquote_quote l [] hb
  rw [List.append_nil] at this
  unfold canonL
  rw [this]
  simp

theorem QuoteBack : placketlaw02_QuoteBack.Pure := by
  intro s t hs ht
  apply Ev.rounds
  unfold placketlaw02_QuoteBack.f
  refine Ev.bind live_ev ?_
  refine Ev.succ ?_
  by_cases hb : (s.size : Int) > 2000
  · simp only [hb, if_true, placketlaw02_QuoteBack.j0]
    exact live_only
  by_cases hb2 : (t.size : Int) > 2000
  · simp only [hb, hb2, decide_true, if_true, if_false, placketlaw02_QuoteBack.j0]
    exact live_only
  simp only [hb, hb2, decide_false, if_true, if_false, placketlaw02_QuoteBack.j0, Bool.false_eq_true]
  have hbs := bytesOf_range s
  have hq := quoteL_length (bytesOf s)
  rw [bytesOf_length] at hq
  refine Ev.bind (quote_ev s (by omega)) ?_
  have hqs : (strOfNums (quoteL (bytesOf s))).size = (quoteL (bytesOf s)).length := strOfNums_size _
  simp only [show (strOfNums (quoteL (bytesOf s))).size + t.size ≤ 9223372036854775807 by omega, if_true]
  have hu := unquote_ev (strOfNums (quoteL (bytesOf s)) ++ t) (by rw [ByteArray.size_append]; omega)
  rw [bytesOf_append, bytesOf_strOfNums _ (quoteL_bytes _ hbs), unquote_quote _ _ hbs] at hu
  refine Ev.bind hu ?_
  simp only [resU, strOfNums_bytesOf]
  refine Ev.bind (hex_ev s (by omega)) ?_
  have hx := unhex_ev (strOfNums (hexL (bytesOf s))) (by rw [strOfNums_size, hexL_length, bytesOf_length]; omega)
  rw [bytesOf_strOfNums _ (hexL_bytes _ hbs), unhex_hex _ hbs] at hx
  refine Ev.bind hx ?_
  simp only [resH, strOfNums_bytesOf, hqs, if_true]
  have hc := canon_ev (strOfNums (quoteL (bytesOf s))) (by omega)
  rw [bytesOf_strOfNums _ (quoteL_bytes _ hbs), canon_quote _ hbs] at hc
  exact Ev.bind hc (Ev.now _)

end Go.Proofs.Ytdalplbgbgciiaa.Pure
