/- Hexadecimal digits of texts, there and back: the program's and the document's loops as laws on lists of bytes. -/
import Derived.Test.YtdalplbgbgciiaaRefQuote
namespace Go.Proofs.Ytdalplbgbgciiaa.Pure
set_option linter.unusedSimpArgs false
open Go.RowKit Go.Proofs.Ytdalplbgbgciiaa.PA Go.Proofs.YtdalplbgbgciiaaW.PrintWords Go.Proofs.YtdalplbgbgciiaaW.PrintLast

def hexL (l : List Int) : List Int := l.flatMap fun c => [hexD (c / 16), hexD (c % 16)]
def unhexP : List Int → List Int → List Int × Int
  | [], acc => (acc, 0)
  | [_], _ => ([], 2)
  | a :: b :: r, acc => match hexV false a, hexV false b with
    | some x, some y => unhexP r (acc ++ [16 * x + y])
    | _, _ => ([], 2)
theorem unhexP_odd (n : Nat) : ∀ (l acc : List Int), l.length = 2 * n + 1 → unhexP l acc = ([], 2) := by
  induction n with
  | zero =>
    intro l acc h
    match l, h with
    | [a], _ => rfl
  | succ n ih =>
    intro l acc h
    match l, h with
    | a :: b :: r, h =>
      simp only [unhexP]
      split
      · exact ih r _ (by simp at h; omega)
      · rfl
theorem hexL_cons (c : Int) (l : List Int) : hexL (c :: l) = hexD (c / 16) :: hexD (c % 16) :: hexL l := by simp [hexL]
theorem hexL_length (l : List Int) : (hexL l).length = 2 * l.length := by
  induction l with
  | nil => rfl
  | cons c l ih => rw [hexL_cons]; simp [ih]; omega
theorem hexL_bytes (l : List Int) (h : ∀ x ∈ l, 0 ≤ x ∧ x ≤ 255) : ∀ x ∈ hexL l, 0 ≤ x ∧ x ≤ 255 := by
  intro x hx
  simp only [hexL, List.mem_flatMap, List.mem_cons, List.not_mem_nil, or_false] at hx
  obtain ⟨c, hc, hx⟩ := hx
  have hcb := h c hc
  have hd : ∀ x : Int, 0 ≤ x → x < 16 → 0 ≤ hexD x ∧ hexD x ≤ 255 := by intro x a b; unfold hexD; split <;> omega
  rcases hx with rfl | rfl
  · exact hd _ (by omega) (by omega)
  · exact hd _ (by omega) (by omega)
theorem unhexP_hex (l : List Int) : ∀ acc, (∀ x ∈ l, 0 ≤ x ∧ x ≤ 255) → unhexP (hexL l) acc = (acc ++ l, 0) := by
  induction l with
  | nil => intro acc _; simp [hexL, unhexP]
  | cons c l ih =>
    intro acc h
    have hc := h c (by simp)
    rw [hexL_cons, unhexP, hexV_hexD false (by omega) (by omega), hexV_hexD false (by omega) (by omega)]
    simp only []
    rw [ih _ (fun x hx => h x (by simp [hx])), show 16 * (c / 16) + c % 16 = c by omega]
    simp
theorem unhex_hex (l : List Int) (h : ∀ x ∈ l, 0 ≤ x ∧ x ≤ 255) : unhexP (hexL l) [] = (l, 0) := unhexP_hex l [] h
def resH (r : List Int × Int) : ByteArray × Int := (strOfNums r.1, r.2)

section
variable (s : ByteArray)
theorem hex_loop (hs : s.size ≤ 35184372088830) (d : Nat) : ∀ (i : Nat) (acc : List Int), i ≤ s.size → s.size - i = d → acc.length ≤ 2 * i →
    Ev (fun k => quote_Hex.l0 k s acc (s.size : Int) (i : Int)) (strOfNums (acc ++ hexL ((bytesOf s).drop i))) := by
  induction d with
  | zero =>
    intro i acc hi hd ha
    rw [bytes_end s (by omega)]
    refine Ev.succ ?_
    simp only [quote_Hex.l0, show ¬ ((i : Int) < (s.size : Int)) by omega, if_false, hexL, List.flatMap_nil, List.append_nil]
    exact Ev.now _
  | succ d ih =>
    intro i acc hi hd ha
    have hlt : i < s.size := by omega
    have hb := bt_range s (i : Int)
    rw [bytes_drop s hlt, hexL_cons]
    have ih := ih (i + 1) (acc ++ [hexD (bt s (i : Int) / 16), hexD (bt s (i : Int) % 16)]) (by omega) (by omega) (by simp; omega)
    rw [List.append_assoc] at ih
    refine Ev.succ ?_
    simp only [quote_Hex.l0, show (i : Int) < (s.size : Int) by omega, show (0 : Int) ≤ (i : Int) by omega, if_true, and15 _ hb.1 hb.2, i_next hlt (show s.size ≤ 140737488351232 by omega)]
    generalize bt s (i : Int) = c at *
    simp only [show (0 : Int) ≤ c / 16 by omega, show c / 16 < 16 by omega, show (0 : Int) ≤ c % 16 by omega, show c % 16 < 16 by omega, if_true, hex_digit _ (show (0 : Int) ≤ c / 16 by omega) (show c / 16 < 16 by omega), hex_digit _ (show (0 : Int) ≤ c % 16 by omega) (show c % 16 < 16 by omega), Option.bind_some, show acc.length + [hexD (c / 16), hexD (c % 16)].length < 140737488355328 by simp; omega]
    exact ih
theorem hex_ev (hs : s.size ≤ 35184372088830) : Ev (fun k => quote_Hex.f k s) (strOfNums (hexL (bytesOf s))) := by
  unfold quote_Hex.f
  have h2 : wrap64 (2 * (s.size : Int)) = 2 * (s.size : Int) := w64 (by omega) (by omega)
  simp only [h2, show (0 : Int) ≤ 2 * (s.size : Int) by omega, show (2 * (s.size : Int)).toNat ≤ 281474976710656 by omega, if_true]
  have := hex_loop s hs s.size 0 [] (by omega) (by omega) (by simp)
  rw [List.drop_zero] at this
  exact this
theorem refhex_loop (hs : s.size ≤ 35184372088830) (d : Nat) : ∀ (i : Nat) (acc : List Int), i ≤ s.size → s.size - i = d → acc.length ≤ 2 * i →
    Ev (fun k => placketref02_Hex.l0 k s acc (s.size : Int) (i : Int)) (strOfNums (acc ++ hexL ((bytesOf s).drop i))) := by
  induction d with
  | zero =>
    intro i acc hi hd ha
    rw [bytes_end s (by omega)]
    refine Ev.succ ?_
    simp only [placketref02_Hex.l0, show ¬ ((i : Int) < (s.size : Int)) by omega, if_false, hexL, List.flatMap_nil, List.append_nil]
    exact Ev.now _
  | succ d ih =>
    intro i acc hi hd ha
    have hlt : i < s.size := by omega
    have hb := bt_range s (i : Int)
    rw [bytes_drop s hlt, hexL_cons]
    have ih := ih (i + 1) (acc ++ [hexD (bt s (i : Int) / 16), hexD (bt s (i : Int) % 16)]) (by omega) (by omega) (by simp; omega)
    rw [List.append_assoc] at ih
    refine Ev.succ ?_
    simp only [placketref02_Hex.l0, show (i : Int) < (s.size : Int) by omega, show (0 : Int) ≤ (i : Int) by omega, if_true, i_next hlt (show s.size ≤ 140737488351232 by omega), Int.tdiv_eq_ediv_of_nonneg hb.1, Int.tmod_eq_emod_of_nonneg hb.1]
    generalize bt s (i : Int) = c at *
    simp only [show c / 16 % 256 = c / 16 by omega, refdigit_some _ (show (0 : Int) ≤ c / 16 by omega) (show c / 16 < 16 by omega), refdigit_some _ (show (0 : Int) ≤ c % 16 by omega) (show c % 16 < 16 by omega), Option.bind_some, show acc.length + [hexD (c / 16), hexD (c % 16)].length < 140737488355328 by simp; omega, if_true]
    exact ih
theorem refhex_ev (hs : s.size ≤ 35184372088830) : Ev (fun k => placketref02_Hex.f k s) (strOfNums (hexL (bytesOf s))) := by
  unfold placketref02_Hex.f
  have := refhex_loop s hs s.size 0 [] (by omega) (by omega) (by simp)
  rw [List.drop_zero] at this
  exact this

variable (hs : s.size ≤ 140737488351232)
include hs
theorem unhex_loop (d : Nat) : ∀ (i : Nat) (acc : List Int), i ≤ s.size → s.size - i = 2 * d → acc.length ≤ i →
    Ev (fun k => quote_Unhex.l0 k s acc (i : Int)) (resH (unhexP ((bytesOf s).drop i) acc)) ∧ Ev (fun k => placketref02_Unhex.l0 k s acc (i : Int)) (resH (unhexP ((bytesOf s).drop i) acc)) := by
  induction d with
  | zero =>
    intro i acc hi hd ha
    rw [bytes_end s (by omega)]
    constructor
    · refine Ev.succ ?_
      simp only [quote_Unhex.l0, show ¬ ((i : Int) < (s.size : Int)) by omega, if_false, unhexP]
      exact Ev.now _
    · refine Ev.succ ?_
      simp only [placketref02_Unhex.l0, show ¬ ((i : Int) < (s.size : Int)) by omega, if_false, unhexP]
      exact Ev.now _
  | succ d ih =>
    intro i acc hi hd ha
    have hlt : i < s.size := by omega
    have h1 : i + 1 < s.size := by omega
    have hb := bt_range s (i : Int)
    have hb1 := bt_range s ((i + 1 : Nat) : Int)
    have w2 : wrap64 ((i : Int) + 2) = ((i + 2 : Nat) : Int) := by rw [w64 (by omega) (by omega)]; omega
    rw [bytes_drop s hlt, bytes_drop s h1]
    constructor
    · refine Ev.succ (Ev.succ ?_)
      simp only [quote_Unhex.l0, show (i : Int) < (s.size : Int) by omega, show (0 : Int) ≤ (i : Int) by omega, if_true, i_next hlt hs, nibble_some _ _ hb.1 hb.2, nibble_some _ _ hb1.1 hb1.2, Option.bind_some, show (0 : Int) ≤ ((i + 1 : Nat) : Int) by omega, show ((i + 1 : Nat) : Int) < (s.size : Int) by omega, w2, unhexP]
      cases hx : hexV false (bt s (i : Int)) with
      | none => simp only [hexR, Bool.false_eq_true, if_false]; exact Ev.now _
      | some x =>
        cases hy : hexV false (bt s ((i + 1 : Nat) : Int)) with
        | none => simp only [hexR, Bool.false_eq_true, if_false, if_true]; exact Ev.now _
        | some y =>
          have hxr := hexV_range hx
          have hyr := hexV_range hy
          have e2 : Go.bits .or .u8 (x * 16 % 256) y = 16 * x + y := by
            rw [show x * 16 % 256 = x * 16 by omega, bits_join .u8 8 (by decide) wraps_u8 4 _ y (by omega) (by omega) (by omega) (by omega) (by omega) (by omega)]
            omega
          simp only [hexR, if_true, show acc.length < 140737488355328 by omega, e2]
          exact Ev.add (ih (i + 2) (acc ++ [16 * x + y]) (by omega) (by omega) (by simp; omega)).1 1
    · refine Ev.succ (Ev.succ (Ev.succ ?_))
      simp only [placketref02_Unhex.l0, show (i : Int) < (s.size : Int) by omega, show (0 : Int) ≤ (i : Int) by omega, if_true, i_next hlt hs, refvalue_some _ _ _ hb.1 hb.2, refvalue_some _ _ _ hb1.1 hb1.2, Option.bind_some, show (0 : Int) ≤ ((i + 1 : Nat) : Int) by omega, show ((i + 1 : Nat) : Int) < (s.size : Int) by omega, w2, unhexP]
      cases hx : hexV false (bt s (i : Int)) with
      | none => simp only [Option.getD_none, show (16 : Int) > 15 by omega, if_true]; exact Ev.now _
      | some x =>
        have hxr := hexV_range hx
        cases hy : hexV false (bt s ((i + 1 : Nat) : Int)) with
        | none => simp only [Option.getD_none, Option.getD_some, show ¬ x > 15 by omega, show (16 : Int) > 15 by omega, if_false, if_true]; exact Ev.now _
        | some y =>
          have hyr := hexV_range hy
          simp only [Option.getD_some, show ¬ x > 15 by omega, show ¬ y > 15 by omega, if_false, show acc.length < 140737488355328 by omega, if_true, show (16 * x + y) % 256 = 16 * x + y by omega]
          exact Ev.add (ih (i + 2) (acc ++ [16 * x + y]) (by omega) (by omega) (by simp; omega)).2 2
theorem unhex_both : Ev (fun k => quote_Unhex.f k s) (resH (unhexP (bytesOf s) [])) ∧ Ev (fun k => placketref02_Unhex.f k s) (resH (unhexP (bytesOf s) [])) := by
  unfold quote_Unhex.f placketref02_Unhex.f
  have hw : wrap64 ((s.size : Int) / 2) = (s.size : Int) / 2 := w64 (by omega) (by omega)
  by_cases hodd : s.size % 2 = 1
  · rw [unhexP_odd (s.size / 2) _ _ (by rw [bytesOf_length]; omega)]
    simp only [show (s.size : Int) % 2 > 0 by omega, show (s.size : Int) % 2 = 1 by omega, if_true]
    exact ⟨Ev.now _, Ev.now _⟩
  · simp only [show ¬ (s.size : Int) % 2 > 0 by omega, show ¬ (s.size : Int) % 2 = 1 by omega, if_false, hw, show (0 : Int) ≤ (s.size : Int) / 2 by omega, show ((s.size : Int) / 2).toNat ≤ 281474976710656 by omega, if_true]
    have := unhex_loop s hs (s.size / 2) 0 [] (by omega) (by omega) (by simp)
    rw [List.drop_zero] at this
    exact this
theorem unhex_ev : Ev (fun k => quote_Unhex.f k s) (resH (unhexP (bytesOf s) [])) := (unhex_both s hs).1
end

end Go.Proofs.Ytdalplbgbgciiaa.Pure
