/- The document's answers on chains of faults: laws on lists of numbers. -/
import Derived.Test.YtgfkpbjimmofdaaDoorRefDigits
namespace Go.Proofs.YtgfkpbjimmofdaaDoor.Pure
set_option linter.unusedSimpArgs false
set_option linter.unusedSectionVars false
open Go.RowKit Go.Proofs.YtgfkpbjimmofdaaDoor.PA Go.Proofs.YtgfkpbjimmofdaaDoorW.PrintWords Go.Proofs.YtgfkpbjimmofdaaDoorW.PrintLast

theorem rd_nat (l : List Int) (i : Nat) : rd l (i : Int) = l.getD i 0 := rfl
theorem drop_rd {l : List Int} {i : Nat} (h : i < l.length) : l.drop i = rd l (i : Int) :: l.drop (i + 1) := by
  rw [List.drop_eq_getElem_cons h]
  simp [rd, h]
theorem same_loop (l m : List Int) (hl : l.length = m.length) (hb : l.length ≤ 140737488351232) (d : Nat) : ∀ i : Nat, i ≤ l.length → l.length - i = d →
    Ev (fun k => placketref04_Same.l0 k l m (l.length : Int) (i : Int)) (decide (l.drop i = m.drop i)) := by
  induction d with
  | zero =>
    intro i hi hd
    rw [List.drop_eq_nil_of_le (by omega : l.length ≤ i), List.drop_eq_nil_of_le (by omega : m.length ≤ i)]
    refine Ev.succ ?_
    simp only [placketref04_Same.l0, show ¬ (i : Int) < (l.length : Int) by omega, if_false]
    exact Ev.now _
  | succ d ih =>
    intro i hi hd
    have h1 : i < l.length := by omega
    have h2 : i < m.length := by omega
    have ih := ih (i + 1) (by omega) (by omega)
    rw [drop_rd h1, drop_rd h2]
    refine Ev.succ ?_
    simp only [placketref04_Same.l0, show (i : Int) < (l.length : Int) by omega, show (i : Int) < (m.length : Int) by omega, show (0 : Int) ≤ (i : Int) by omega, if_true, i_next h1 hb]
    by_cases e : rd l (i : Int) = rd m (i : Int)
    · simp only [e, if_true]
      simpa using ih
    · simp only [e, if_false]
      refine Ev.const ?_
      simp [e]
theorem same_ev (l m : List Int) (hb : l.length ≤ 140737488351232) : Ev (fun k => placketref04_Same.f k l m) (decide (l = m)) := by
  unfold placketref04_Same.f
  by_cases e : l.length = m.length
  · simp only [show (l.length : Int) = (m.length : Int) by omega, if_true]
    have := same_loop l m e hb _ 0 (by omega) rfl
    rw [List.drop_zero, List.drop_zero] at this
    rw [e] at this
    exact this
  · simp only [show ¬ (l.length : Int) = (m.length : Int) by omega, if_false]
    refine Ev.const ?_
    have : l ≠ m := fun h => e (by rw [h])
    simp [this]

theorem turned_loop (l : List Int) (hb : l.length ≤ 1000000) (d : Nat) : ∀ i : Nat, i ≤ l.length → l.length - i = d →
    Ev (fun k => placketref04_Turned.l0 k l (l.drop (l.length - i)).reverse (l.length : Int) (i : Int)) l.reverse := by
  induction d with
  | zero =>
    intro i hi hd
    rw [show l.length - i = 0 by omega, List.drop_zero]
    refine Ev.succ ?_
    simp only [placketref04_Turned.l0, show ¬ (i : Int) < (l.length : Int) by omega, if_false]
    exact Ev.now _
  | succ d ih =>
    intro i hi hd
    have ih := ih (i + 1) (by omega) (by omega)
    refine Ev.succ ?_
    have e1 : wrap64 ((wrap64 ((l.length : Int) - 1)) - (i : Int)) = ((l.length - (i + 1) : Nat) : Int) := by
      rw [w64 (n := (l.length : Int) - 1) (by omega) (by omega), w64 (by omega) (by omega)]
      omega
    simp only [placketref04_Turned.l0, e1, show (i : Int) < (l.length : Int) by omega, show (0 : Int) ≤ ((l.length - (i + 1) : Nat) : Int) by omega, show ((l.length - (i + 1) : Nat) : Int) < (l.length : Int) by omega, if_true]
    simp only [show (l.drop (l.length - i)).reverse.length < 17592186044416 by simp; omega, if_true, show wrap64 ((i : Int) + 1) = ((i + 1 : Nat) : Int) by rw [w64 (by omega) (by omega)]; omega]
    have e2 : (l.drop (l.length - (i + 1))) = rd l ((l.length - (i + 1) : Nat) : Int) :: l.drop (l.length - i) := by
      rw [drop_rd (by omega : l.length - (i + 1) < l.length), show l.length - (i + 1) + 1 = l.length - i by omega]
    rw [e2, List.reverse_cons] at ih
    exact ih
theorem turned_ev (l : List Int) (hb : l.length ≤ 1000000) : Ev (fun k => placketref04_Turned.f k l) l.reverse := by
  unfold placketref04_Turned.f
  have := turned_loop l hb _ 0 (by omega) rfl
  rw [show l.length - 0 = l.length by omega, List.drop_length] at this
  exact this
theorem want_ev (code at_ : Int) (l : List Int) (hb : l.length ≤ 1000000) : Ev (fun k => placketlaw04_want.f k code at_ l) (if code = 0 then (false, 0, []) else (true, code, l.reverse ++ [at_])) := by
  unfold placketlaw04_want.f
  by_cases h : code = 0
  · simp only [h, if_true]
    exact Ev.now _
  · simp only [h, if_false]
    refine Ev.bind (turned_ev l hb) ?_
    refine Ev.const ?_
    rw [if_pos (by simp; omega)]

/-- The text of an error: its beginning, and a piece for each place. -/
def atS : ByteArray → List Int → ByteArray
  | s, [] => s
  | s, a :: l => atS (s ++ ((⟨#[32, 97, 116, 32]⟩ : ByteArray) ++ strOfNums (digL a))) l
def InI (n : Int) : Prop := -9223372036854775808 ≤ n ∧ n ≤ 9223372036854775807
theorem digL_len {n : Int} (h : InI n) : (digL n).length ≤ 20 := by
  unfold digL
  have := decL_len n.natAbs (by have := h.1; have := h.2; omega)
  split
  · simp; omega
  · omega
theorem dig_size {n : Int} (h : InI n) : (strOfNums (digL n)).size ≤ 20 := by
  rw [strOfNums_size]
  exact digL_len h
theorem text_loop (l : List Int) (hin : ∀ n ∈ l, InI n) (hb : l.length ≤ 1000000) (d : Nat) : ∀ (i : Nat) (s : ByteArray), i ≤ l.length → l.length - i = d → s.size ≤ 1000 + 24 * i →
    Ev (fun k => placketref04_Chain_Text.l0 k s l (l.length : Int) (i : Int)) (atS s (l.drop i)) := by
  induction d with
  | zero =>
    intro i s hi hd hs
    rw [List.drop_eq_nil_of_le (by omega : l.length ≤ i)]
    refine Ev.succ ?_
    simp only [placketref04_Chain_Text.l0, show ¬ (i : Int) < (l.length : Int) by omega, if_false]
    exact Ev.now _
  | succ d ih =>
    intro i s hi hd hs
    have h1 : i < l.length := by omega
    have hmem : InI (rd l (i : Int)) := by
      have : rd l (i : Int) = l[i] := by simp [rd, h1]
      rw [this]
      exact hin _ (List.getElem_mem h1)
    have hz := dig_size hmem
    have h4 : ((⟨#[32, 97, 116, 32]⟩ : ByteArray) ++ strOfNums (digL (rd l (i : Int)))).size = 4 + (strOfNums (digL (rd l (i : Int)))).size := by
      rw [ByteArray.size_append]; rfl
    rw [drop_rd h1, atS]
    have ih := ih (i + 1) (s ++ ((⟨#[32, 97, 116, 32]⟩ : ByteArray) ++ strOfNums (digL (rd l (i : Int))))) (by omega) (by omega) (by rw [ByteArray.size_append, h4]; omega)
    refine Ev.succ ?_
    simp only [placketref04_Chain_Text.l0, show (i : Int) < (l.length : Int) by omega, show (0 : Int) ≤ (i : Int) by omega, if_true]
    refine Ev.bind (refDigits_ev _ hmem.1 hmem.2) ?_
    rw [w64 (by omega) (by omega)]
    refine Ev.congr (fun k => ?_) ih
    rw [if_pos (by omega), if_pos (by rw [h4]; omega)]
    rfl
/-- The text of a chain. -/
def textS (coded : Bool) (c : Int) (l : List Int) : ByteArray := atS ((⟨#[101, 114, 114, 111, 114, 32]⟩ : ByteArray) ++ strOfNums (digL (if coded then c else 19))) l
theorem text_ev (coded : Bool) (c : Int) (l : List Int) (hc : InI c) (hin : ∀ n ∈ l, InI n) (hb : l.length ≤ 1000000) (hn : coded = true ∨ l ≠ []) : Ev (fun k => placketref04_Chain_Text.f k coded c l) (textS coded c l) := by
  have hq : InI (if coded then c else 19) := by
    split
    · exact hc
    · exact ⟨by decide, by decide⟩
  have hz := dig_size hq
  have h6 : ((⟨#[101, 114, 114, 111, 114, 32]⟩ : ByteArray) ++ strOfNums (digL (if coded then c else 19))).size = 6 + (strOfNums (digL (if coded then c else 19))).size := by
    rw [ByteArray.size_append]; rfl
  have hloop := text_loop l hin hb _ 0 ((⟨#[101, 114, 114, 111, 114, 32]⟩ : ByteArray) ++ strOfNums (digL (if coded then c else 19))) (by omega) rfl (by rw [h6]; omega)
  rw [List.drop_zero] at hloop
  have hj : Ev (fun k => placketref04_Chain_Text.j0 k false coded c l) (textS coded c l) := by
    refine Ev.succ ?_
    simp only [placketref04_Chain_Text.j0, Bool.false_eq_true, if_false]
    have e : placketref04_Chain_Asked.f coded c l = some (if coded then c else 19) := by
      unfold placketref04_Chain_Asked.f
      cases coded with
      | true => rfl
      | false =>
        have : l ≠ [] := by simpa using hn
        have : l.length ≠ 0 := fun h => this (List.eq_nil_of_length_eq_zero h)
        simp only [Bool.false_eq_true, if_false]
        rw [if_neg (by omega)]
    simp only [e, Option.bind_some]
    refine Ev.bind (refDigits_ev _ hq.1 hq.2) ?_
    refine Ev.congr (fun k => ?_) hloop
    rw [if_pos (by omega)]
    rfl
  unfold placketref04_Chain_Text.f
  cases coded with
  | true => simpa using hj
  | false =>
    have : l ≠ [] := by simpa using hn
    have h0 : l.length ≠ 0 := fun h => this (List.eq_nil_of_length_eq_zero h)
    simp only [Bool.false_eq_true, if_false]
    rw [show ((l.length : Int) == 0) = false from beq_eq_false_iff_ne.2 (by omega)]
    exact hj
end Go.Proofs.YtgfkpbjimmofdaaDoor.Pure
