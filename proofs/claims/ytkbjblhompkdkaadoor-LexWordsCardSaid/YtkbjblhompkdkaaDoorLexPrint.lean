/- lex.Print comes to what the plain law says. -/
import Derived.Test.YtkbjblhompkdkaaDoorPAx10
import Derived.Test.YtkbjblhompkdkaaDoorLexBackP
import Derived.Test.YtkbjblhompkdkaaDoorLexAllW
namespace Go.Proofs.YtkbjblhompkdkaaDoor.Pure
set_option linter.unusedSimpArgs false
open Go.RowKit Go.Proofs.YtkbjblhompkdkaaDoor.PA Go.Proofs.YtkbjblhompkdkaaDoorW.PrintWords Go.Proofs.YtkbjblhompkdkaaDoorW.PrintLast

theorem and15 (c : Int) (h0 : 0 ≤ c) (h1 : c ≤ 255) : Go.bits .and .u8 c 15 = c % 16 := u8_and15 c h0 (by omega)
theorem hex_digit (x : Int) (h0 : 0 ≤ x) (h1 : x < 16) : bt (⟨#[48, 49, 50, 51, 52, 53, 54, 55, 56, 57, 97, 98, 99, 100, 101, 102]⟩ : ByteArray) x = hexD x := by
  obtain ⟨n, rfl⟩ := Int.eq_ofNat_of_zero_le h0
  match n, h1 with
  | 0, _ | 1, _ | 2, _ | 3, _ | 4, _ | 5, _ | 6, _ | 7, _ | 8, _ | 9, _ | 10, _ | 11, _ | 12, _ | 13, _ | 14, _ | 15, _ => rfl
  | n + 16, h => omega

section
variable (s : ByteArray)

theorem quote_loop (hs : s.size ≤ 35184372088830) (d : Nat) : ∀ (i : Nat) (acc : List Int), i ≤ s.size → s.size - i = d → acc.length ≤ 4 * i + 1 →
    Ev (fun k => quote_Quote.l0 k s acc (s.size : Int) (i : Int)) (strOfNums (acc ++ qbody ((bytesOf s).drop i) ++ [34])) := by
  induction d with
  | zero =>
    intro i acc hi hd ha
    rw [bytes_end s (by omega)]
    refine Ev.succ ?_
    simp only [quote_Quote.l0, show ¬ ((i : Int) < (s.size : Int)) by omega, show acc.length < 140737488355328 by omega, if_true, if_false]
    simp only [qbody, List.flatMap_nil, List.append_nil]
    exact Ev.now _
  | succ d ih =>
    intro i acc hi hd ha
    have hlt : i < s.size := by omega
    have hb := bt_range s (i : Int)
    have hn := i_next hlt (by omega)
    rw [bytes_drop s hlt]
    have e : qbody (bt s (i : Int) :: (bytesOf s).drop (i + 1)) = qone (bt s (i : Int)) ++ qbody ((bytesOf s).drop (i + 1)) := by simp [qbody]
    rw [e, ← List.append_assoc]
    have hql := qone_length (bt s (i : Int))
    have ih := ih (i + 1) (acc ++ qone (bt s (i : Int))) (by omega) (by omega) (by rw [List.length_append]; omega)
    refine Ev.succ ?_
    simp only [quote_Quote.l0, quote_letter.f, Option.bind_some]
    simp only [show (i : Int) < (s.size : Int) by omega, show (0 : Int) ≤ (i : Int) by omega, if_true, and15 _ hb.1 hb.2, hn]
    generalize bt s (i : Int) = c at *
    have hacc : ∀ y : List Int, y.length ≤ 4 → acc.length + y.length < 140737488355328 := by intro y hy; omega
    by_cases hl : letterS c > 0
    · have e : qone c = [92, letterS c] := by unfold qone; rw [if_pos hl]
      rw [e] at ih ⊢
      simp only [hl, if_true, hacc [92, letterS c] (by simp)]
      exact ih
    · simp only [hl, if_false]
      by_cases hr : c < 32 ∨ c > 126
      · have e : qone c = [92, 120, hexD (c / 16), hexD (c % 16)] := by unfold qone; rw [if_neg hl, if_pos hr]
        rw [e] at ih ⊢
        simp only [show (0 : Int) ≤ c / 16 by omega, show c / 16 < 16 by omega, show (0 : Int) ≤ c % 16 by omega, show c % 16 < 16 by omega, if_true, hex_digit _ (show (0 : Int) ≤ c / 16 by omega) (show c / 16 < 16 by omega), hex_digit _ (show (0 : Int) ≤ c % 16 by omega) (show c % 16 < 16 by omega), hacc [92, 120, hexD (c / 16), hexD (c % 16)] (by simp)]
        rcases hr with hr | hr
        · simp only [hr, if_true]
          exact ih
        · simp only [show ¬ c < 32 by omega, hr, if_true, if_false]
          exact ih
      · have e : qone c = [c] := by unfold qone; rw [if_neg hl, if_neg hr]
        rw [e] at ih ⊢
        simp only [show ¬ c < 32 by omega, show ¬ c > 126 by omega, if_false, show acc.length < 140737488355328 by omega, if_true]
        exact ih
theorem quote_ev (hs : s.size ≤ 35184372088830) : Ev (fun k => quote_Quote.f k s) (strOfNums (quoteL (bytesOf s))) := by
  unfold quote_Quote.f
  have h2 : wrap64 ((s.size : Int) + 2) = (s.size : Int) + 2 := w64 (by omega) (by omega)
  simp only [h2, show (0 : Int) ≤ (s.size : Int) + 2 by omega, show ((s.size : Int) + 2).toNat ≤ 281474976710656 by omega, if_true, Option.bind_some, List.length_nil, show 0 < 140737488355328 by omega, List.nil_append]
  have := quote_loop s hs s.size 0 [34] (by omega) (by omega) (by simp)
  rw [List.drop_zero] at this
  exact this
end

/-! ### hexadecimal digits -/
theorem strOfNums_append (xs ys : List Int) : strOfNums (xs ++ ys) = strOfNums xs ++ strOfNums ys := by
  apply ByteArray.ext
  simp [strOfNums, ByteArray.data_append]
theorem decL_length (k : Nat) : ∀ u, u < 10 ^ (k + 1) → (decL u).length ≤ k + 1 := by
  induction k with
  | zero => intro u h; rw [decL_small (by simpa using h)]; simp
  | succ k ih =>
    intro u h
    by_cases hu : u < 10
    · rw [decL_small hu]; simp
    · have := ih (u / 10) (by rw [Nat.pow_succ] at h; omega)
      rw [decL_big hu]
      simp
      omega
theorem decL_len (u : Nat) (h : u ≤ 9223372036854775808) : (decL u).length ≤ 19 := by
  have e : (10 : Nat) ^ 19 = 10000000000000000000 := by decide
  exact decL_length 18 u (by omega)


theorem digL_len (n : Int) (h0 : -9223372036854775808 ≤ n) (h1 : n ≤ 9223372036854775807) : (digL n).length ≤ 20 := by
  have := decL_len n.natAbs (by omega)
  unfold digL
  split <;> (simp; omega)
theorem bytes_add_nil (s : ByteArray) : s ++ (⟨#[]⟩ : ByteArray) = s := by
  apply ByteArray.ext
  simp [ByteArray.data_append]
theorem nil_add_bytes (s : ByteArray) : (⟨#[]⟩ : ByteArray) ++ s = s := by
  apply ByteArray.ext
  simp [ByteArray.data_append]
/-- A token as a text, whatever token it is. -/
def reprB (x : S24) : ByteArray := if x.f0 = 1 ∨ x.f0 = 2 then x.f4 else if x.f0 = 3 then strOfNums (digL x.f3) else if x.f0 = 4 then strOfNums (quoteL (bytesOf x.f4)) else ⟨#[]⟩
def printG : Bool → List S24 → ByteArray
  | _, [] => ⟨#[]⟩
  | first, x :: r => (if first = true then (⟨#[]⟩ : ByteArray) else ⟨#[32]⟩) ++ (reprB x ++ printG false r)
theorem reprB_size (x : S24) (hs : x.f4.size ≤ 1048576) (h0 : -9223372036854775808 ≤ x.f3) (h1 : x.f3 ≤ 9223372036854775807) : (reprB x).size ≤ 4900000 := by
  have hd := digL_len x.f3 h0 h1
  have hq := qbody_length (bytesOf x.f4)
  rw [bytesOf_length] at hq
  unfold reprB
  repeat' split
  · omega
  · rw [strOfNums_size]; omega
  · rw [strOfNums_size]; simp [quoteL]; omega
  · exact Nat.zero_le _
/-- The tokens of a text: as the plain law has it. -/
theorem reprB_tok (t : Tok) (hb : InB t.text) : reprB (tokS t) = strOfNums (reprT t) := by
  unfold reprB reprT tokS
  simp only [bytesOf_strOfNums _ hb]
  repeat' split
  all_goals rfl
theorem printG_tail (ts : List Tok) (hb : ∀ t ∈ ts, InB t.text) : printG false (ts.map tokS) = strOfNums (tailP ts) := by
  induction ts with
  | nil => rfl
  | cons t ts ih =>
    rw [List.map_cons, printG, ih (fun u hu => hb u (by simp [hu])), reprB_tok t (hb t (by simp)), tailP_cons, strOfNums_append, strOfNums_append]
    rfl
theorem printG_toks (ts : List Tok) (hb : ∀ t ∈ ts, InB t.text) : printG true (ts.map tokS) = strOfNums (printS ts) := by
  cases ts with
  | nil => rfl
  | cons t ts =>
    rw [List.map_cons, printG, printG_tail ts (fun u hu => hb u (by simp [hu])), reprB_tok t (hb t (by simp)), show printS (t :: ts) = reprT t ++ tailP ts from rfl, strOfNums_append, if_pos rfl, nil_add_bytes]

section
variable (L : List S24) (hL : L.length ≤ 1048576) (hx : ∀ x ∈ L, x.f4.size ≤ 1048576 ∧ -9223372036854775808 ≤ x.f3 ∧ x.f3 ≤ 9223372036854775807)
include hL hx
theorem print_loop (d : Nat) : ∀ (i : Nat) (acc : ByteArray), i ≤ L.length → L.length - i = d → acc.size ≤ i * 5000000 → Ev (fun k => lex_Print.l0 k acc L (L.length : Int) (i : Int)) (acc ++ printG (i == 0) (L.drop i)) := by
  induction d with
  | zero =>
    intro i acc hi hd hacc
    refine Ev.succ ?_
    refine Ev.congr (f := fun _ => some acc) (fun k => ?_) ?_
    · simp only [lex_Print.l0]
      rw [if_neg (by omega)]
    · rw [List.drop_eq_nil_of_le (by omega), printG, bytes_add_nil]
      exact Ev.now _
  | succ d ih =>
    intro i acc hi hd hacc
    have hlt : i < L.length := by omega
    obtain ⟨x, hxi⟩ : ∃ x, L[i]? = some x := ⟨_, List.getElem?_eq_getElem hlt⟩
    have hrd : rd_T24 L (i : Int) = x := by simp [rd_T24, hxi]
    have hdrop : L.drop i = x :: L.drop (i + 1) := by
      rw [List.drop_eq_getElem_cons hlt]
      congr 1
      exact (List.getElem?_eq_some_iff.1 hxi).2
    obtain ⟨hsz, h0, h1⟩ := hx x (List.mem_of_getElem? hxi)
    have hrep := reprB_size x hsz h0 h1
    have key : ∀ acc' : ByteArray, acc'.size ≤ i * 5000000 + 1 → Ev (fun k => lex_Print.j1 k acc' L (L.length : Int) (i : Int) x.f0 x.f1 x.f2 x.f3 x.f4) (acc' ++ reprB x ++ printG false (L.drop (i + 1))) := by
      intro acc' ha
      have ih' := ih (i + 1) (acc' ++ reprB x) (by omega) (by omega) (by rw [ByteArray.size_append]; omega)
      rw [show (i + 1 == 0) = false from rfl] at ih'
      have hn := i_next (n := L.length) hlt (by omega)
      have j2 : ∀ b : Bool, (b = true ↔ (x.f0 = 1 ∨ x.f0 = 2)) → Ev (fun k => lex_Print.j2 k acc' L (L.length : Int) (i : Int) x.f0 b x.f0 x.f1 x.f2 x.f3 x.f4) (acc' ++ reprB x ++ printG false (L.drop (i + 1))) := by
        intro b hb
        refine Ev.succ ?_
        by_cases hk : x.f0 = 1 ∨ x.f0 = 2
        · have e : reprB x = x.f4 := by unfold reprB; rw [if_pos hk]
          rw [e] at ih' ⊢
          refine Ev.congr (fun k => ?_) ih'
          simp only [lex_Print.j2]
          rw [if_pos (hb.2 hk), if_pos (by omega), hn]
        · have hbf : ¬ b = true := fun e => hk (hb.1 e)
          by_cases h3 : x.f0 = 3
          · have e : reprB x = strOfNums (digL x.f3) := by unfold reprB; rw [if_neg hk, if_pos h3]
            rw [e] at ih' ⊢ hrep
            refine Ev.congr (f := fun k => (num_Digits.f x.f3).bind fun t227 => (if acc'.size + t227.size ≤ 9223372036854775807 then (lex_Print.l0 k (acc' ++ t227) L (L.length : Int) (wrap64 ((i : Int) + 1))) else (none))) (fun k => ?_) ?_
            · simp only [lex_Print.j2]
              rw [if_neg hbf, if_pos h3]
            refine Ev.bind (Ev.const (by unfold num_Digits.f; rw [if_pos ⟨h0, h1⟩])) ?_
            refine Ev.congr (fun k => ?_) ih'
            rw [if_pos (by omega), hn]
          · by_cases h4 : x.f0 = 4
            · have e : reprB x = strOfNums (quoteL (bytesOf x.f4)) := by unfold reprB; rw [if_neg hk, if_neg h3, if_pos h4]
              rw [e] at ih' ⊢ hrep
              refine Ev.congr (f := fun k => (quote_Quote.f k x.f4).bind fun t228 => (if acc'.size + t228.size ≤ 9223372036854775807 then (lex_Print.l0 k (acc' ++ t228) L (L.length : Int) (wrap64 ((i : Int) + 1))) else (none))) (fun k => ?_) ?_
              · simp only [lex_Print.j2]
                rw [if_neg hbf, if_neg h3, if_pos h4]
              refine Ev.bind (quote_ev x.f4 (by omega)) ?_
              refine Ev.congr (fun k => ?_) ih'
              rw [if_pos (by omega), hn]
            · have e : reprB x = ⟨#[]⟩ := by unfold reprB; rw [if_neg hk, if_neg h3, if_neg h4]
              rw [e, bytes_add_nil] at ih' ⊢
              refine Ev.congr (fun k => ?_) ih'
              simp only [lex_Print.j2]
              rw [if_neg hbf, if_neg h3, if_neg h4, hn]
      refine Ev.succ ?_
      simp only [lex_Print.j1]
      by_cases h1 : x.f0 = 1
      · refine Ev.congr (fun k => ?_) (j2 (x.f0 == 1) (by simp [h1]))
        rw [if_pos h1]
      · refine Ev.congr (fun k => ?_) (j2 (x.f0 == 2) (by simp [h1]))
        rw [if_neg h1]
    refine Ev.succ ?_
    simp only [lex_Print.l0, hrd]
    rw [hdrop]
    by_cases hi0 : i = 0
    · subst hi0
      have e : acc ++ printG (0 == 0) (x :: L.drop (0 + 1)) = acc ++ reprB x ++ printG false (L.drop (0 + 1)) := by simp [printG, ByteArray.append_assoc, nil_add_bytes]
      rw [e]
      refine Ev.congr (fun k => ?_) (key acc (by omega))
      rw [if_pos (by omega), if_pos (by omega), if_pos (by omega), if_neg (by omega)]
    · have e : acc ++ printG (i == 0) (x :: L.drop (i + 1)) = (acc ++ (⟨#[32]⟩ : ByteArray)) ++ reprB x ++ printG false (L.drop (i + 1)) := by simp [printG, ByteArray.append_assoc, hi0]
      have hs1 : (acc ++ (⟨#[32]⟩ : ByteArray)).size = acc.size + 1 := by rw [ByteArray.size_append]; rfl
      rw [e]
      refine Ev.congr (fun k => ?_) (key (acc ++ (⟨#[32]⟩ : ByteArray)) (by rw [hs1]; omega))
      rw [if_pos (by omega), if_pos (by omega), if_pos (by omega), if_pos (by omega), if_pos (by omega)]
theorem print_ev : Ev (fun k => lex_Print.f k L) (printG true L) := by
  unfold lex_Print.f
  have := print_loop L hL hx _ 0 (⟨#[]⟩ : ByteArray) (Nat.zero_le _) rfl (by decide)
  rw [List.drop_zero, nil_add_bytes] at this
  exact this
end

end Go.Proofs.YtkbjblhompkdkaaDoor.Pure
