/- The document's quotations come to the same as the program's: laws on lists of bytes. -/
import Derived.Test.YtdalplbgbgciiaaUnquotePure
namespace Go.Proofs.Ytdalplbgbgciiaa.Pure
set_option linter.unusedSimpArgs false
open Go.RowKit Go.Proofs.Ytdalplbgbgciiaa.PA Go.Proofs.YtdalplbgbgciiaaW.PrintWords Go.Proofs.YtdalplbgbgciiaaW.PrintLast

theorem refdigit_some (x : Int) (h0 : 0 ≤ x) (h1 : x < 16) : placketref02_digit.f x = some (hexD x) := by
  unfold placketref02_digit.f hexD
  split <;> (congr 1; omega)
theorem letter_34 : letterS 34 = 34 := by simp [letterS]
theorem letter_92 : letterS 92 = 92 := by simp [letterS]
theorem letter_10 : letterS 10 = 110 := by simp [letterS]
theorem letter_9 : letterS 9 = 116 := by simp [letterS]
theorem letter_13 : letterS 13 = 114 := by simp [letterS]
theorem letter_no {c : Int} (h1 : c ≠ 34) (h2 : c ≠ 92) (h3 : c ≠ 10) (h4 : c ≠ 9) (h5 : c ≠ 13) : letterS c = 0 := by simp [letterS, h1, h2, h3, h4, h5]
theorem refone_some (k : Nat) (c : Int) (h0 : 0 ≤ c) (h1 : c ≤ 255) : placketref02_one.f (k + 2) c = some (qone c) := by
  unfold placketref02_one.f qone
  by_cases e1 : c = 34
  · subst e1
    simp [placketref02_one.j0, letter_34]
  by_cases e2 : c = 92
  · subst e2
    simp [placketref02_one.j0, letter_92]
  simp only [e1, if_false, show (c == 92) = false from beq_eq_false_iff_ne.2 e2, placketref02_one.j0, show ¬ (false = true) by simp]
  by_cases e3 : c = 10
  · subst e3
    simp [letter_10]
  by_cases e4 : c = 9
  · subst e4
    simp [letter_9]
  by_cases e5 : c = 13
  · subst e5
    simp [letter_13]
  simp only [e3, e4, e5, if_false, letter_no e1 e2 e3 e4 e5, show ¬ ((0 : Int) > 0) by omega]
  have hx : placketref02_one.j1 (k + 1) c true = some [92, 120, hexD (c / 16), hexD (c % 16)] := by
    simp only [placketref02_one.j1, if_true]
    rw [Int.tdiv_eq_ediv_of_nonneg h0, Int.tmod_eq_emod_of_nonneg h0, show c / 16 % 256 = c / 16 by omega, refdigit_some _ (by omega) (by omega), refdigit_some _ (by omega) (by omega)]
    rfl
  by_cases e6 : c < 32
  · simp only [e6, if_true, true_or]
    exact hx
  · simp only [e6, if_false, false_or]
    by_cases e7 : c > 126
    · simp only [e7, decide_true, if_true]
      exact hx
    · simp only [e7, decide_false, if_false, placketref02_one.j1, Bool.false_eq_true]

section
variable (s : ByteArray)
theorem refquote_loop (hs : s.size ≤ 35184372088830) (d : Nat) : ∀ (i : Nat) (acc : List Int), i ≤ s.size → s.size - i = d → acc.length ≤ 4 * i + 1 →
    Ev (fun k => placketref02_Quote.l0 k s acc (s.size : Int) (i : Int)) (strOfNums (acc ++ qbody ((bytesOf s).drop i) ++ [34])) := by
  induction d with
  | zero =>
    intro i acc hi hd ha
    rw [bytes_end s (by omega)]
    refine Ev.succ ?_
    simp only [placketref02_Quote.l0, show ¬ ((i : Int) < (s.size : Int)) by omega, show acc.length < 140737488355328 by omega, if_true, if_false]
    simp only [qbody, List.flatMap_nil, List.append_nil]
    exact Ev.now _
  | succ d ih =>
    intro i acc hi hd ha
    have hlt : i < s.size := by omega
    have hb := bt_range s (i : Int)
    have hn := i_next hlt (by omega)
    rw [bytes_drop s hlt]
    have e : qbody (bt s (i : Int) :: (bytesOf s).drop (i + 1)) = qone (bt s (i : Int)) ++ qbody ((bytesOf s).drop (i + 1)) := by simp [qbody]
    rw [e, ← List.append_assoc]
    have hql := qone_length (bt s (i : Int))
    have ih := ih (i + 1) (acc ++ qone (bt s (i : Int))) (by omega) (by omega) (by rw [List.length_append]; omega)
    refine Ev.succ (Ev.succ (Ev.succ ?_))
    simp only [placketref02_Quote.l0, show (i : Int) < (s.size : Int) by omega, show (0 : Int) ≤ (i : Int) by omega, if_true, hn, refone_some _ _ hb.1 hb.2, Option.bind_some, show acc.length + (qone (bt s (i : Int))).length < 140737488355328 by omega]
    exact Ev.add ih 2
theorem refquote_ev (hs : s.size ≤ 35184372088830) : Ev (fun k => placketref02_Quote.f k s) (strOfNums (quoteL (bytesOf s))) := by
  have := refquote_loop s hs s.size 0 [34] (by omega) (by omega) (by simp)
  rw [List.drop_zero] at this
  exact this

theorem refvalue_some (k : Nat) (g : Bool) (c : Int) (h0 : 0 ≤ c) (h1 : c ≤ 255) : placketref02_value.f (k + 2) c g = some ((hexV g c).getD 16) := by
  unfold placketref02_value.f
  simp only [placketref02_value.j0, placketref02_value.j1, decide_eq_true_eq]
  by_cases a : 48 ≤ c ∧ c ≤ 57
  · rw [hexV_dig a, if_pos a.1, if_pos a.2, show (c - 48) % 256 = c - 48 by omega]
    rfl
  · by_cases b : 97 ≤ c ∧ c ≤ 102
    · rw [hexV_low b, if_pos (by omega), if_neg (by omega), if_pos b.1, if_pos b.2, show (c - 97 + 10) % 256 = c - 87 by omega]
      rfl
    · have hmain : (if g = true then (if c ≥ 65 then (if c ≤ 70 then some ((c - 65 + 10) % 256) else some 16) else some 16) else some 16) = some ((hexV g c).getD 16) := by
        cases g with
        | false => rw [hexV_not a b]; rfl
        | true =>
          by_cases d : 65 ≤ c ∧ c ≤ 70
          · rw [hexV_great d, if_pos rfl, if_pos d.1, if_pos d.2, show (c - 65 + 10) % 256 = c - 55 by omega]
            rfl
          · rw [hexV_nott a b d, if_pos rfl]
            repeat' split
            all_goals first | rfl | (exfalso; omega)
      rw [← hmain]
      by_cases c1 : c ≥ 48
      · rw [if_pos c1, if_neg (by omega)]
        by_cases c2 : c ≥ 97
        · rw [if_pos c2, if_neg (by omega)]
        · rw [if_neg c2, if_neg (by simp)]
      · rw [if_neg c1, if_neg (by simp), if_neg (by omega), if_neg (by simp)]
theorem refescape_some (k : Nat) (c : Int) : placketref02_escape.f (k + 1) c = some (byLetterS c) := by
  unfold placketref02_escape.f byLetterS
  simp only [placketref02_escape.j0]
  by_cases a : c = 47
  · subst a; simp
  by_cases b : c = 34
  · subst b; simp
  by_cases d : c = 92
  · subst d; simp
  by_cases e : c = 110
  · subst e; simp
  by_cases f : c = 116
  · subst f; simp
  by_cases g : c = 114
  · subst g; simp
  simp [a, b, d, e, f, g]

variable (hs : s.size ≤ 140737488351232)
include hs
/-- The two digits behind 'backslash x', in the document's loop: from the first one on. -/
theorem refpair (i : Nat) (acc : List Int) (hi : i < s.size) (hacc : acc.length < 140737488355328) (R : ByteArray × Int × Int)
    (hR : ∀ x, pairL s.size ((bytesOf s).drop (i + 1)) (i + 1) = .inl x → Ev (fun k => placketref02_Unquote.l0 k s (acc ++ [x]) ((i + 3 : Nat) : Int)) R)
    (hE : ∀ p e, pairL s.size ((bytesOf s).drop (i + 1)) (i + 1) = .inr (p, e) → R = (⟨#[]⟩, (p : Int), e)) :
    Ev (fun k => placketref02_Unquote.l1 k s acc (i : Int) 0 1) R := by
  have w1 : wrap64 ((i : Int) + 1) = ((i + 1 : Nat) : Int) := i_next hi hs
  have w2 : wrap64 ((i : Int) + 2) = ((i + 2 : Nat) : Int) := by rw [w64 (by omega) (by omega)]; omega
  have w3 : wrap64 ((i : Int) + 3) = ((i + 3 : Nat) : Int) := by rw [w64 (by omega) (by omega)]; omega
  have u1 : wrap64 ((1 : Int) + 1) = 2 := by rw [w64 (by omega) (by omega)]; omega
  have u2 : wrap64 ((2 : Int) + 1) = 3 := by rw [w64 (by omega) (by omega)]; omega
  refine Ev.succ (Ev.succ (Ev.succ ?_))
  simp only [placketref02_Unquote.l1, show (1 : Int) < 3 by omega, if_true, w1]
  by_cases h1 : i + 1 < s.size
  · rw [bytes_drop s h1] at hR hE
    have hb1 := bt_range s ((i + 1 : Nat) : Int)
    simp only [show ¬ ((i + 1 : Nat) : Int) ≥ (s.size : Int) by omega, if_false, show (0 : Int) ≤ ((i + 1 : Nat) : Int) by omega, show ((i + 1 : Nat) : Int) < (s.size : Int) by omega, if_true, refvalue_some _ _ _ hb1.1 hb1.2, Option.bind_some, u1]
    cases hx : hexV true (bt s ((i + 1 : Nat) : Int)) with
    | none =>
      simp only [Option.getD_none, show (16 : Int) > 15 by omega, if_true]
      refine Ev.const ?_
      rw [hE (i + 1) 2]
      rcases hl : (bytesOf s).drop (i + 1 + 1) with _ | ⟨b, r⟩ <;> simp only [pairL, hx]
    | some x =>
      have hxr := hexV_range hx
      simp only [Option.getD_some, show ¬ x > 15 by omega, if_false, show ((16 * 0 + x) % 256 : Int) = x by omega, show (2 : Int) < 3 by omega, w2, if_true]
      by_cases h2 : i + 2 < s.size
      · have hd2 := bytes_drop s h2
        rw [show i + 2 = i + 1 + 1 from rfl] at hd2
        rw [hd2] at hR hE
        have hb2 := bt_range s ((i + 2 : Nat) : Int)
        refine Ev.succ ?_
        simp only [show ¬ ((i + 2 : Nat) : Int) ≥ (s.size : Int) by omega, if_false, show (0 : Int) ≤ ((i + 2 : Nat) : Int) by omega, show ((i + 2 : Nat) : Int) < (s.size : Int) by omega, if_true, refvalue_some _ _ _ hb2.1 hb2.2, Option.bind_some, u2]
        cases hy : hexV true (bt s ((i + 2 : Nat) : Int)) with
        | none =>
          simp only [Option.getD_none, show (16 : Int) > 15 by omega, if_true]
          refine Ev.const ?_
          rw [hE (i + 1 + 1) 2]
          simp only [pairL, hx, show ((i + 1 + 1 : Nat) : Int) = ((i + 2 : Nat) : Int) from rfl, hy]
        | some y =>
          have hyr := hexV_range hy
          simp only [Option.getD_some, show ¬ y > 15 by omega, if_false, show ((16 * x + y) % 256 : Int) = 16 * x + y by omega, placketref02_Unquote.l1, show ¬ ((3 : Int) < 3) by omega, hacc, if_true, w3]
          have := hR (16 * x + y) (by simp only [pairL, hx, show ((i + 1 + 1 : Nat) : Int) = ((i + 2 : Nat) : Int) from rfl, hy])
          exact Ev.add this 1
      · rw [bytes_end s (show s.size ≤ i + 1 + 1 by omega)] at hE
        simp only [show ((i + 2 : Nat) : Int) ≥ (s.size : Int) by omega, if_true]
        refine Ev.const ?_
        rw [hE s.size 10 (by simp only [pairL, hx])]
  · rw [bytes_end s (show s.size ≤ i + 1 by omega)] at hE
    simp only [show ((i + 1 : Nat) : Int) ≥ (s.size : Int) by omega, if_true]
    refine Ev.const ?_
    rw [hE s.size 10 rfl]

theorem refunquote_loop (d : Nat) : ∀ (i : Nat) (acc : List Int), i ≤ s.size → s.size - i = d → acc.length ≤ i →
    Ev (fun k => placketref02_Unquote.l0 k s acc (i : Int)) (resU (unqL s.size ((bytesOf s).drop i) i acc)) := by
  induction d using Nat.strongRecOn with
  | _ d ih =>
  intro i acc hi hd ha
  by_cases hlt : i < s.size
  · have hb := bt_range s (i : Int)
    have hn := i_next hlt hs
    rw [bytes_drop s hlt]
    refine Ev.succ ?_
    simp only [placketref02_Unquote.l0, show (i : Int) < (s.size : Int) by omega, show (0 : Int) ≤ (i : Int) by omega, if_true, hn, show acc.length < 140737488355328 by omega]
    by_cases h34 : bt s (i : Int) = 34
    · rw [h34, unqL_mark]
      simp only [if_true]
      exact Ev.now _
    simp only [h34, if_false]
    by_cases h32 : bt s (i : Int) < 32
    · rw [unqL_low _ _ _ _ h32]
      simp only [h32, if_true]
      exact Ev.now _
    simp only [h32, if_false]
    by_cases h92 : bt s (i : Int) = 92
    · rw [h92]
      simp only [if_true]
      by_cases h1 : i + 1 < s.size
      · have hb1 := bt_range s ((i + 1 : Nat) : Int)
        rw [bytes_drop s h1]
        simp only [show ¬ ((i + 1 : Nat) : Int) = (s.size : Int) by omega, show (0 : Int) ≤ ((i + 1 : Nat) : Int) by omega, show ((i + 1 : Nat) : Int) < (s.size : Int) by omega, if_true, if_false, i_next h1 hs]
        by_cases h120 : bt s ((i + 1 : Nat) : Int) = 120
        · rw [h120, unqL_hex]
          simp only [if_true]
          refine refpair s hs (i + 1) acc h1 (by omega) _ ?_ ?_
          · intro x hp
            have hp' : pairL s.size ((bytesOf s).drop (i + 1 + 1)) (i + 2) = .inl x := hp
            simp only [hp']
            have hsz : i + 4 ≤ s.size := by
              rcases Nat.lt_or_ge s.size (i + 4) with h | h
              · exfalso
                by_cases h2 : i + 2 < s.size
                · rw [bytes_drop s h2, bytes_end s (show s.size ≤ i + 1 + 1 + 1 by omega)] at hp
                  simp only [pairL] at hp
                  split at hp <;> cases hp
                · rw [bytes_end s (by omega)] at hp
                  cases hp
              · exact h
            have := ih (s.size - (i + 4)) (by omega) (i + 4) (acc ++ [x]) hsz rfl (by simp; omega)
            rw [List.drop_drop]
            exact this
          · intro p e hp
            have hp' : pairL s.size ((bytesOf s).drop (i + 1 + 1)) (i + 2) = .inr (p, e) := hp
            simp only [hp']
            rfl
        · rw [unqL_let _ _ _ _ h120]
          refine Ev.succ ?_
          simp only [h120, if_false, refescape_some, Option.bind_some]
          by_cases hl : (byLetterS (bt s ((i + 1 : Nat) : Int))).2 = true
          · simp only [hl, if_true]
            exact Ev.add (ih (s.size - (i + 2)) (by omega) (i + 2) (acc ++ [(byLetterS (bt s ((i + 1 : Nat) : Int))).1]) (by omega) rfl (by simp; omega)) 1
          · simp only [hl, if_false]
            exact Ev.now _
      · rw [bytes_end s (show s.size ≤ i + 1 by omega), unqL_end]
        simp only [show ((i + 1 : Nat) : Int) = (s.size : Int) by omega, if_true]
        exact Ev.now _
    · rw [unqL_plain _ _ _ _ h34 h32 h92]
      simp only [h92, if_false]
      exact ih (s.size - (i + 1)) (by omega) (i + 1) (acc ++ [bt s (i : Int)]) (by omega) rfl (by simp; omega)
  · rw [bytes_end s (by omega), unqL_nil]
    refine Ev.succ ?_
    simp only [placketref02_Unquote.l0, show ¬ (i : Int) < (s.size : Int) by omega, if_false]
    exact Ev.now _
theorem refunquote_ev : Ev (fun k => placketref02_Unquote.f k s) (resU (unquoteL (bytesOf s))) := by
  unfold placketref02_Unquote.f
  by_cases h0 : s.size = 0
  · rw [bytes_nil h0]
    simp only [show (s.size : Int) = 0 by omega, if_true]
    exact Ev.now _
  · have hd := bytes_drop s (show 0 < s.size by omega)
    rw [List.drop_zero] at hd
    simp only [show ¬ (s.size : Int) = 0 by omega, if_false, show (0 : Int) < (s.size : Int) by omega, if_true]
    unfold unquoteL
    rw [hd]
    simp only []
    by_cases h34 : bt s ((0 : Nat) : Int) = 34
    · simp only [h34, show bt s 0 = 34 from h34, if_true]
      have := refunquote_loop s hs (s.size - 1) 1 [] (by omega) rfl (by simp)
      have el : ((bytesOf s).drop (0 + 1)).length + 1 = s.size := by rw [List.length_drop, bytesOf_length]; omega
      rw [el]
      exact this
    · simp only [h34, show ¬ bt s 0 = 34 from h34, if_false]
      exact Ev.now _
end
theorem refcanon_ev (s : ByteArray) (hs : s.size ≤ 35184372088830) : Ev (fun k => placketref02_Canon.f k s) (canonL (bytesOf s)) := by
  unfold placketref02_Canon.f
  refine Ev.bind (refunquote_ev s (by omega)) ?_
  unfold canonL resU
  simp only [bytesOf_length]
  obtain ⟨hb, hl⟩ := unquoteL_bytes (bytesOf s) (bytesOf_range s)
  rw [bytesOf_length] at hl
  by_cases h1 : (unquoteL (bytesOf s)).2.2 = 0
  · by_cases h2 : (unquoteL (bytesOf s)).2.1 = s.size
    · simp only [h1, h2, if_true, decide_true, Bool.true_and]
      refine Ev.bind (refquote_ev (strOfNums (unquoteL (bytesOf s)).1) (by rw [strOfNums_size]; omega)) ?_
      rw [bytesOf_strOfNums _ hb]
      refine Ev.const ?_
      congr 1
      rw [Bool.eq_iff_iff, beq_iff_eq, toList_inj, decide_eq_true_iff]
      constructor
      · intro e
        have := congrArg bytesOf e
        rwa [bytesOf_strOfNums _ (quoteL_bytes _ hb)] at this
      · intro e
        rw [e, strOfNums_bytesOf]
    · simp only [h1, if_true, show ¬ ((unquoteL (bytesOf s)).2.1 : Int) = (s.size : Int) by omega, if_false, h2, decide_false, Bool.and_false, Bool.false_and]
      exact Ev.now _
  · simp only [h1, if_false, decide_false, Bool.false_and]
    exact Ev.now _

end Go.Proofs.Ytdalplbgbgciiaa.Pure
