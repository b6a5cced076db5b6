/- The document's Print comes to what the plain law says. -/
import Derived.Test.YtkbjblhompkdkaaDoorPAx12
import Derived.Test.YtkbjblhompkdkaaDoorLexPrint
import Derived.Test.YtkbjblhompkdkaaDoorLexBackP
import Derived.Test.YtkbjblhompkdkaaDoorLexAllW
namespace Go.Proofs.YtkbjblhompkdkaaDoor.Pure
set_option linter.unusedSimpArgs false
open Go.RowKit Go.Proofs.YtkbjblhompkdkaaDoor.PA Go.Proofs.YtkbjblhompkdkaaDoorW.PrintWords Go.Proofs.YtkbjblhompkdkaaDoorW.PrintLast

theorem refDigits_pos (u : Nat) (h : u ≤ 9223372036854775807) : Ev (fun k => placketref01_Digits.f k (u : Int)) (strOfNums (decL u)) := by
  induction u using Nat.strongRecOn with
  | _ u ih =>
  by_cases hu : u < 10
  · refine Ev.step (f := fun _ => some (strOfNums [48 + (u : Int)])) (fun k => ?_) ?_
    · simp only [placketref01_Digits.f]
      rw [if_neg (by omega), if_neg (by omega), if_pos (by omega), w64 (by omega) (by omega), show (48 + (u : Int)) % 256 = 48 + (u : Int) by omega]
    · rw [decL_small hu]
      exact Ev.now _
  · have ih := ih (u / 10) (by omega) (by omega)
    refine Ev.step (f := fun k => (placketref01_Digits.f k ((u / 10 : Nat) : Int)).bind fun t => if t.size + (strOfNums [48 + (u : Int) % 10]).size ≤ 9223372036854775807 then some (t ++ strOfNums [48 + (u : Int) % 10]) else none) (fun k => ?_) ?_
    · simp only [placketref01_Digits.f]
      rw [if_neg (by omega), if_neg (by omega), if_neg (by omega), Int.tdiv_eq_ediv_of_nonneg (by omega), Int.tmod_eq_emod_of_nonneg (by omega), w64 (by omega) (by omega), w64 (by omega) (by omega), show (48 + (u : Int) % 10) % 256 = 48 + (u : Int) % 10 by omega]
      rw [show (u : Int) / 10 = ((u / 10 : Nat) : Int) by omega]
      simp only [Option.bind_some]
    · rw [decL_big hu, strOfNums_append]
      refine Ev.bind ih ?_
      refine Ev.congr (f := fun _ => some (strOfNums (decL (u / 10)) ++ strOfNums [48 + (u : Int) % 10])) (fun k => ?_) (Ev.now _)
      have := decL_len (u / 10) (by omega)
      rw [if_pos]
      rw [strOfNums_size, strOfNums_size]
      simp
      omega

theorem refDigits_ev (n : Int) (h0 : -9223372036854775808 ≤ n) (h1 : n ≤ 9223372036854775807) : Ev (fun k => placketref01_Digits.f k n) (strOfNums (digL n)) := by
  unfold digL
  by_cases hl : n = -9223372036854775808
  · subst hl
    refine Ev.step (f := fun _ => some (⟨#[45, 57, 50, 50, 51, 51, 55, 50, 48, 51, 54, 56, 53, 52, 55, 55, 53, 56, 48, 56]⟩ : ByteArray)) (fun k => ?_) ?_
    · simp only [placketref01_Digits.f]
      rw [if_pos trivial]
    · have e : strOfNums (if (-9223372036854775808 : Int) < 0 then 45 :: decL (-9223372036854775808 : Int).natAbs else decL (-9223372036854775808 : Int).natAbs) = (⟨#[45, 57, 50, 50, 51, 51, 55, 50, 48, 51, 54, 56, 53, 52, 55, 55, 53, 56, 48, 56]⟩ : ByteArray) := by kernel_rfl
      rw [e]
      exact Ev.now _
  · by_cases hn : n < 0
    · rw [if_pos hn]
      have := refDigits_pos n.natAbs (by omega)
      refine Ev.step (f := fun k => (placketref01_Digits.f k (n.natAbs : Int)).bind fun t => if 1 + t.size ≤ 9223372036854775807 then some ((⟨#[45]⟩ : ByteArray) ++ t) else none) (fun k => ?_) ?_
      · simp only [placketref01_Digits.f]
        rw [if_neg hl, if_pos hn, w64 (by omega) (by omega), show -n = (n.natAbs : Int) by omega]
      · refine Ev.bind this ?_
        refine Ev.congr (f := fun _ => some (strOfNums (45 :: decL n.natAbs))) (fun k => ?_) (Ev.now _)
        have := decL_len n.natAbs (by omega)
        rw [if_pos (by rw [strOfNums_size]; omega)]
        rw [show (45 :: decL n.natAbs) = [45] ++ decL n.natAbs from rfl, strOfNums_append]
        rfl
    · rw [if_neg hn]
      have := refDigits_pos n.natAbs (by omega)
      rw [show (n.natAbs : Int) = n by omega] at this
      exact this
theorem refdigit_some (x : Int) (h0 : 0 ≤ x) (h1 : x < 16) : placketref02_digit.f x = some (hexD x) := by
  unfold placketref02_digit.f hexD
  split <;> (congr 1; omega)
theorem letter_34 : letterS 34 = 34 := by simp [letterS]
theorem letter_92 : letterS 92 = 92 := by simp [letterS]
theorem letter_10 : letterS 10 = 110 := by simp [letterS]
theorem letter_9 : letterS 9 = 116 := by simp [letterS]
theorem letter_13 : letterS 13 = 114 := by simp [letterS]
theorem letter_no {c : Int} (h1 : c ≠ 34) (h2 : c ≠ 92) (h3 : c ≠ 10) (h4 : c ≠ 9) (h5 : c ≠ 13) : letterS c = 0 := by simp [letterS, h1, h2, h3, h4, h5]
theorem refone_some (k : Nat) (c : Int) (h0 : 0 ≤ c) (h1 : c ≤ 255) : placketref02_one.f (k + 2) c = some (qone c) := by
  unfold placketref02_one.f qone
  by_cases e1 : c = 34
  · subst e1
    simp [placketref02_one.j0, letter_34]
  by_cases e2 : c = 92
  · subst e2
    simp [placketref02_one.j0, letter_92]
  simp only [e1, if_false, show (c == 92) = false from beq_eq_false_iff_ne.2 e2, placketref02_one.j0, show ¬ (false = true) by simp]
  by_cases e3 : c = 10
  · subst e3
    simp [letter_10]
  by_cases e4 : c = 9
  · subst e4
    simp [letter_9]
  by_cases e5 : c = 13
  · subst e5
    simp [letter_13]
  simp only [e3, e4, e5, if_false, letter_no e1 e2 e3 e4 e5, show ¬ ((0 : Int) > 0) by omega]
  have hx : placketref02_one.j1 (k + 1) c true = some [92, 120, hexD (c / 16), hexD (c % 16)] := by
    simp only [placketref02_one.j1, if_true]
    rw [Int.tdiv_eq_ediv_of_nonneg h0, Int.tmod_eq_emod_of_nonneg h0, show c / 16 % 256 = c / 16 by omega, refdigit_some _ (by omega) (by omega), refdigit_some _ (by omega) (by omega)]
    rfl
  by_cases e6 : c < 32
  · simp only [e6, if_true, true_or]
    exact hx
  · simp only [e6, if_false, false_or]
    by_cases e7 : c > 126
    · simp only [e7, decide_true, if_true]
      exact hx
    · simp only [e7, decide_false, if_false, placketref02_one.j1, Bool.false_eq_true]

section
variable (s : ByteArray)
theorem refquote_loop (hs : s.size ≤ 35184372088830) (d : Nat) : ∀ (i : Nat) (acc : List Int), i ≤ s.size → s.size - i = d → acc.length ≤ 4 * i + 1 →
    Ev (fun k => placketref02_Quote.l0 k s acc (s.size : Int) (i : Int)) (strOfNums (acc ++ qbody ((bytesOf s).drop i) ++ [34])) := by
  induction d with
  | zero =>
    intro i acc hi hd ha
    rw [bytes_end s (by omega)]
    refine Ev.succ ?_
    simp only [placketref02_Quote.l0, show ¬ ((i : Int) < (s.size : Int)) by omega, show acc.length < 140737488355328 by omega, if_true, if_false]
    simp only [qbody, List.flatMap_nil, List.append_nil]
    exact Ev.now _
  | succ d ih =>
    intro i acc hi hd ha
    have hlt : i < s.size := by omega
    have hb := bt_range s (i : Int)
    have hn := i_next hlt (by omega)
    rw [bytes_drop s hlt]
    have e : qbody (bt s (i : Int) :: (bytesOf s).drop (i + 1)) = qone (bt s (i : Int)) ++ qbody ((bytesOf s).drop (i + 1)) := by simp [qbody]
    rw [e, ← List.append_assoc]
    have hql := qone_length (bt s (i : Int))
    have ih := ih (i + 1) (acc ++ qone (bt s (i : Int))) (by omega) (by omega) (by rw [List.length_append]; omega)
    refine Ev.succ (Ev.succ (Ev.succ ?_))
    simp only [placketref02_Quote.l0, show (i : Int) < (s.size : Int) by omega, show (0 : Int) ≤ (i : Int) by omega, if_true, hn, refone_some _ _ hb.1 hb.2, Option.bind_some, show acc.length + (qone (bt s (i : Int))).length < 140737488355328 by omega]
    exact Ev.add ih 2
theorem refquote_ev (hs : s.size ≤ 35184372088830) : Ev (fun k => placketref02_Quote.f k s) (strOfNums (quoteL (bytesOf s))) := by
  have := refquote_loop s hs s.size 0 [34] (by omega) (by omega) (by simp)
  rw [List.drop_zero] at this
  exact this

end

section
variable (L : List S24) (hL : L.length ≤ 1048576) (hx : ∀ x ∈ L, x.f4.size ≤ 1048576 ∧ -9223372036854775808 ≤ x.f3 ∧ x.f3 ≤ 9223372036854775807)
include hL hx
theorem refprint_loop (d : Nat) : ∀ (i : Nat) (acc : ByteArray), i ≤ L.length → L.length - i = d → acc.size ≤ i * 5000000 → Ev (fun k => placketref13_Print.l0 k acc L (L.length : Int) (i : Int)) (acc ++ printG (i == 0) (L.drop i)) := by
  induction d with
  | zero =>
    intro i acc hi hd hacc
    refine Ev.succ ?_
    refine Ev.congr (f := fun _ => some acc) (fun k => ?_) ?_
    · simp only [placketref13_Print.l0]
      rw [if_neg (by omega)]
    · rw [List.drop_eq_nil_of_le (by omega), printG, bytes_add_nil]
      exact Ev.now _
  | succ d ih =>
    intro i acc hi hd hacc
    have hlt : i < L.length := by omega
    obtain ⟨x, hxi⟩ : ∃ x, L[i]? = some x := ⟨_, List.getElem?_eq_getElem hlt⟩
    have hrd : rd_T24 L (i : Int) = x := by simp [rd_T24, hxi]
    have hdrop : L.drop i = x :: L.drop (i + 1) := by
      rw [List.drop_eq_getElem_cons hlt]
      congr 1
      exact (List.getElem?_eq_some_iff.1 hxi).2
    obtain ⟨hsz, h0, h1⟩ := hx x (List.mem_of_getElem? hxi)
    have hrep := reprB_size x hsz h0 h1
    have key : ∀ acc' : ByteArray, acc'.size ≤ i * 5000000 + 1 → Ev (fun k => placketref13_Print.j1 k acc' L (L.length : Int) (i : Int) x.f0 x.f1 x.f2 x.f3 x.f4) (acc' ++ reprB x ++ printG false (L.drop (i + 1))) := by
      intro acc' ha
      have ih' := ih (i + 1) (acc' ++ reprB x) (by omega) (by omega) (by rw [ByteArray.size_append]; omega)
      rw [show (i + 1 == 0) = false from rfl] at ih'
      have hn := i_next (n := L.length) hlt (by omega)
      have j2 : ∀ b : Bool, (b = true ↔ (x.f0 = 1 ∨ x.f0 = 2)) → Ev (fun k => placketref13_Print.j2 k acc' L (L.length : Int) (i : Int) x.f0 b x.f0 x.f1 x.f2 x.f3 x.f4) (acc' ++ reprB x ++ printG false (L.drop (i + 1))) := by
        intro b hb
        refine Ev.succ ?_
        by_cases hk : x.f0 = 1 ∨ x.f0 = 2
        · have e : reprB x = x.f4 := by unfold reprB; rw [if_pos hk]
          rw [e] at ih' ⊢
          refine Ev.congr (fun k => ?_) ih'
          simp only [placketref13_Print.j2]
          rw [if_pos (hb.2 hk), if_pos (by omega), hn]
        · have hbf : ¬ b = true := fun e => hk (hb.1 e)
          by_cases h3 : x.f0 = 3
          · have e : reprB x = strOfNums (digL x.f3) := by unfold reprB; rw [if_neg hk, if_pos h3]
            rw [e] at ih' ⊢ hrep
            refine Ev.congr (f := fun k => (placketref01_Digits.f k x.f3).bind fun t227 => (if acc'.size + t227.size ≤ 9223372036854775807 then (placketref13_Print.l0 k (acc' ++ t227) L (L.length : Int) (wrap64 ((i : Int) + 1))) else (none))) (fun k => ?_) ?_
            · simp only [placketref13_Print.j2]
              rw [if_neg hbf, if_pos h3]
            refine Ev.bind (refDigits_ev x.f3 h0 h1) ?_
            refine Ev.congr (fun k => ?_) ih'
            rw [if_pos (by omega), hn]
          · by_cases h4 : x.f0 = 4
            · have e : reprB x = strOfNums (quoteL (bytesOf x.f4)) := by unfold reprB; rw [if_neg hk, if_neg h3, if_pos h4]
              rw [e] at ih' ⊢ hrep
              refine Ev.congr (f := fun k => (placketref02_Quote.f k x.f4).bind fun t228 => (if acc'.size + t228.size ≤ 9223372036854775807 then (placketref13_Print.l0 k (acc' ++ t228) L (L.length : Int) (wrap64 ((i : Int) + 1))) else (none))) (fun k => ?_) ?_
              · simp only [placketref13_Print.j2]
                rw [if_neg hbf, if_neg h3, if_pos h4]
              refine Ev.bind (refquote_ev x.f4 (by omega)) ?_
              refine Ev.congr (fun k => ?_) ih'
              rw [if_pos (by omega), hn]
            · have e : reprB x = ⟨#[]⟩ := by unfold reprB; rw [if_neg hk, if_neg h3, if_neg h4]
              rw [e, bytes_add_nil] at ih' ⊢
              refine Ev.congr (fun k => ?_) ih'
              simp only [placketref13_Print.j2]
              rw [if_neg hbf, if_neg h3, if_neg h4, hn]
      refine Ev.succ ?_
      simp only [placketref13_Print.j1]
      by_cases h1 : x.f0 = 1
      · refine Ev.congr (fun k => ?_) (j2 (x.f0 == 1) (by simp [h1]))
        rw [if_pos h1]
      · refine Ev.congr (fun k => ?_) (j2 (x.f0 == 2) (by simp [h1]))
        rw [if_neg h1]
    refine Ev.succ ?_
    simp only [placketref13_Print.l0, hrd]
    rw [hdrop]
    by_cases hi0 : i = 0
    · subst hi0
      have e : acc ++ printG (0 == 0) (x :: L.drop (0 + 1)) = acc ++ reprB x ++ printG false (L.drop (0 + 1)) := by simp [printG, ByteArray.append_assoc, nil_add_bytes]
      rw [e]
      refine Ev.congr (fun k => ?_) (key acc (by omega))
      rw [if_pos (by omega), if_pos (by omega), if_pos (by omega), if_neg (by omega)]
    · have e : acc ++ printG (i == 0) (x :: L.drop (i + 1)) = (acc ++ (⟨#[32]⟩ : ByteArray)) ++ reprB x ++ printG false (L.drop (i + 1)) := by simp [printG, ByteArray.append_assoc, hi0]
      have hs1 : (acc ++ (⟨#[32]⟩ : ByteArray)).size = acc.size + 1 := by rw [ByteArray.size_append]; rfl
      rw [e]
      refine Ev.congr (fun k => ?_) (key (acc ++ (⟨#[32]⟩ : ByteArray)) (by rw [hs1]; omega))
      rw [if_pos (by omega), if_pos (by omega), if_pos (by omega), if_pos (by omega), if_pos (by omega)]
theorem refprint_ev : Ev (fun k => placketref13_Print.f k L) (printG true L) := by
  unfold placketref13_Print.f
  have := refprint_loop L hL hx _ 0 (⟨#[]⟩ : ByteArray) (Nat.zero_le _) rfl (by decide)
  rw [List.drop_zero, nil_add_bytes] at this
  exact this
end

end Go.Proofs.YtkbjblhompkdkaaDoor.Pure
