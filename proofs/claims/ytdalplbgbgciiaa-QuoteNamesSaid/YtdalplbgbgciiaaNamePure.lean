/- Which texts are names: the program's and the document's loops as a law on lists of bytes. -/
import Derived.Test.YtdalplbgbgciiaaBytesPure
namespace Go.Proofs.Ytdalplbgbgciiaa.Pure
set_option linter.unusedSimpArgs false
open Go.RowKit Go.Proofs.Ytdalplbgbgciiaa.PA Go.Proofs.YtdalplbgbgciiaaW.PrintWords Go.Proofs.YtdalplbgbgciiaaW.PrintLast

/-- A letter, or the underline. -/
def isLet (c : Int) : Prop := (97 ≤ c ∧ c ≤ 122) ∨ (65 ≤ c ∧ c ≤ 90) ∨ c = 95
def isDig (c : Int) : Prop := 48 ≤ c ∧ c ≤ 57
instance (c : Int) : Decidable (isLet c) := inferInstanceAs (Decidable (_ ∨ _ ∨ _))
instance (c : Int) : Decidable (isDig c) := inferInstanceAs (Decidable (_ ∧ _))
/-- May the bytes stand in a name, as its first ones or not? -/
def nameR (first : Bool) : List Int → Bool
  | [] => true
  | c :: r => (decide (isLet c) || (!first && decide (isDig c))) && nameR false r
def nameS (l : List Int) : Bool := !l.isEmpty && nameR true l

section
variable (s : ByteArray) (hs : s.size ≤ 140737488351232)
include hs
theorem name_loop (d : Nat) : ∀ i : Nat, i ≤ s.size → s.size - i = d → Ev (fun k => quote_Name.l0 k s (s.size : Int) (i : Int)) (nameR (i == 0) ((bytesOf s).drop i)) := by
  induction d with
  | zero =>
    intro i hi hd
    rw [bytes_end s (by omega)]
    refine Ev.succ ?_
    simp only [quote_Name.l0, show ¬ ((i : Int) < (s.size : Int)) by omega, if_false, nameR]
    exact Ev.now _
  | succ d ih =>
    intro i hi hd
    have hlt : i < s.size := by omega
    have hn := i_next hlt hs
    have ih := ih (i + 1) (by omega) (by omega)
    rw [show (i + 1 == 0) = false from rfl] at ih
    rw [bytes_drop s hlt]
    refine Ev.succ ?_
    simp only [quote_Name.l0, show (i : Int) < (s.size : Int) by omega, show (0 : Int) ≤ (i : Int) by omega, if_true]
    generalize bt s (i : Int) = c
    have j2 : ∀ b : Bool, (b = true ↔ isLet c) → Ev (fun k => quote_Name.j2 k s (i : Int) c (s.size : Int) (i : Int) b) (nameR (i == 0) (c :: (bytesOf s).drop (i + 1))) := by
      intro b hb
      refine Ev.succ ?_
      simp only [quote_Name.j2, hn, nameR]
      by_cases hl : isLet c
      · simp only [hb.2 hl, if_true, hl, decide_true, Bool.true_or, Bool.true_and]
        exact ih
      · have hbf : b = false := by cases b with
          | false => rfl
          | true => exact absurd (hb.1 rfl) hl
        simp only [hbf, Bool.false_eq_true, if_false, hl, decide_false, Bool.false_or]
        by_cases h0 : i = 0
        · subst h0
          simp only [Int.natCast_zero, show ¬ (0 : Int) > 0 by omega, if_false]
          exact Ev.now _
        · simp only [show (i : Int) > 0 by omega, if_true, show (i == 0) = false from beq_eq_false_iff_ne.2 h0, Bool.not_false, Bool.true_and]
          by_cases hd : isDig c
          · unfold isDig at hd
            simp only [show c ≥ 48 by omega, hd.2, if_true, show isDig c from hd, decide_true, Bool.true_and]
            exact ih
          · simp only [hd, decide_false, Bool.false_and]
            unfold isDig at hd
            by_cases h48 : c ≥ 48
            · simp only [h48, if_true, show ¬ c ≤ 57 by omega, if_false]
              exact Ev.now _
            · simp only [h48, if_false]
              exact Ev.now _
    have j1 : ∀ b : Bool, (b = true ↔ 97 ≤ c ∧ c ≤ 122) → Ev (fun k => quote_Name.j1 k s (i : Int) c (s.size : Int) (i : Int) b) (nameR (i == 0) (c :: (bytesOf s).drop (i + 1))) := by
      intro b hb
      refine Ev.succ ?_
      simp only [quote_Name.j1]
      by_cases h97 : 97 ≤ c ∧ c ≤ 122
      · simp only [hb.2 h97, if_true]
        exact j2 true ⟨fun _ => .inl h97, fun _ => rfl⟩
      · have hbf : b = false := by cases b with
          | false => rfl
          | true => exact absurd (hb.1 rfl) h97
        simp only [hbf, Bool.false_eq_true, if_false]
        by_cases h65 : c ≥ 65
        · by_cases h90 : c ≤ 90
          · simp only [h65, h90, if_true, decide_true]
            exact j2 true ⟨fun _ => .inr (.inl ⟨h65, h90⟩), fun _ => rfl⟩
          · simp only [h65, h90, if_true, if_false]
            refine j2 (c == 95) ?_
            rw [beq_iff_eq]
            unfold isLet
            omega
        · simp only [h65, if_false]
          refine j2 (c == 95) ?_
          rw [beq_iff_eq]
          unfold isLet
          omega
    by_cases h97 : c ≥ 97
    · simp only [h97, if_true]
      refine j1 (decide (c ≤ 122)) ?_
      rw [decide_eq_true_iff]
      omega
    · simp only [h97, if_false]
      refine j1 false ?_
      constructor
      · intro h; cases h
      · intro h; omega
theorem name_ev : Ev (fun k => quote_Name.f k s) (nameS (bytesOf s)) := by
  unfold quote_Name.f nameS
  by_cases h0 : s.size = 0
  · rw [bytes_nil h0]
    simp only [toList_nil.2 h0, if_true]
    exact Ev.now _
  · have hn : ¬ s.toList = [] := fun h => h0 (toList_nil.1 h)
    have hd := bytes_drop s (show 0 < s.size by omega)
    rw [List.drop_zero] at hd
    simp only [hn, if_false]
    have := name_loop s hs s.size 0 (by omega) (by omega)
    rw [List.drop_zero] at this
    rw [show (bytesOf s).isEmpty = false by rw [hd]; rfl]
    exact this
end
end Go.Proofs.Ytdalplbgbgciiaa.Pure
