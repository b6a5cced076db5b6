/- Which of two texts is ahead, and with how many equal bytes they begin: laws on lists of bytes. -/
import Derived.Test.YtdalplbgbgciiaaBytesPure
import Derived.Test.YtdalplbgbgciiaaGOrder
namespace Go.Proofs.Ytdalplbgbgciiaa.Pure
set_option linter.unusedSimpArgs false
set_option linter.unusedSectionVars false
open Go.RowKit Go.Proofs.Ytdalplbgbgciiaa.PA Go.Proofs.YtdalplbgbgciiaaW.PrintWords Go.Proofs.YtdalplbgbgciiaaW.PrintLast

def lessL : List Int → List Int → Bool
  | _, [] => false
  | [], _ :: _ => true
  | a :: x, b :: y => decide (a < b) || (decide (a = b) && lessL x y)
def commonL : List Int → List Int → Nat
  | a :: x, b :: y => if a = b then commonL x y + 1 else 0
  | _, _ => 0
def orderL (l m : List Int) : Int := if lessL l m = true then -1 else if l = m then 0 else 1

theorem less_bytes (l : List UInt8) : ∀ m : List UInt8, Op.bytesLess l m = lessL (l.map fun b => (b.toNat : Int)) (m.map fun b => (b.toNat : Int)) := by
  induction l with
  | nil => intro m; cases m <;> rfl
  | cons a l ih =>
    intro m
    cases m with
    | nil => rfl
    | cons b m =>
      rw [List.map_cons, List.map_cons, Op.bytesLess, lessL, ih m]
      have e1 : decide (a < b) = decide ((a.toNat : Int) < (b.toNat : Int)) := by
        rw [decide_eq_decide, UInt8.lt_iff_toNat_lt]
        omega
      have e2 : (a == b) = decide ((a.toNat : Int) = (b.toNat : Int)) := by
        rw [Bool.eq_iff_iff, beq_iff_eq, decide_eq_true_iff, ← UInt8.toNat_inj]
        omega
      rw [e1, e2]
theorem less_text (s t : ByteArray) : Op.bytesLess s.toList t.toList = lessL (bytesOf s) (bytesOf t) := by
  rw [less_bytes, ByteArray.toList_eq, ByteArray.toList_eq]
  rfl
theorem order_some (s t : ByteArray) : quote_Order.f s t = some (orderL (bytesOf s) (bytesOf t)) := by
  unfold quote_Order.f orderL
  rw [less_text]
  congr 1
  by_cases h : lessL (bytesOf s) (bytesOf t) = true
  · rw [if_pos h, if_pos h]
  · rw [if_neg h, if_neg h]
    by_cases e : bytesOf s = bytesOf t
    · rw [if_pos e, if_pos (toList_inj.2 (bytesOf_inj e))]
    · rw [if_neg e, if_neg (fun h => e (by rw [toList_inj.1 h]))]

theorem commonL_le (l : List Int) : ∀ m, commonL l m ≤ l.length ∧ commonL l m ≤ m.length := by
  induction l with
  | nil => intro m; simp [commonL]
  | cons a l ih =>
    intro m
    cases m with
    | nil => simp [commonL]
    | cons b m =>
      have := ih m
      rw [commonL]
      split
      · simp; omega
      · simp
/-- The document's order: by the first unlike place. -/
def refOrdL (l m : List Int) : Int :=
  if commonL l m = l.length then (if commonL l m = m.length then 0 else -1)
  else if commonL l m = m.length then 1
  else if l.getD (commonL l m) 0 < m.getD (commonL l m) 0 then -1 else 1
theorem refOrd_cons (a : Int) (l m : List Int) : refOrdL (a :: l) (a :: m) = refOrdL l m := by
  unfold refOrdL
  have e : commonL (a :: l) (a :: m) = commonL l m + 1 := by rw [commonL, if_pos rfl]
  rw [e]
  simp
theorem order_ref (l : List Int) : ∀ m, orderL l m = refOrdL l m := by
  induction l with
  | nil =>
    intro m
    cases m with
    | nil => rfl
    | cons b m => simp [orderL, lessL, refOrdL, commonL]
  | cons a l ih =>
    intro m
    cases m with
    | nil => simp [orderL, lessL, refOrdL, commonL]
    | cons b m =>
      by_cases e : a = b
      · subst e
        rw [refOrd_cons, ← ih m]
        unfold orderL
        simp [lessL]
      · unfold orderL refOrdL
        have ec : commonL (a :: l) (b :: m) = 0 := by rw [commonL, if_neg e]
        rw [ec]
        simp [lessL, e]

/-! ### what follows -/
theorem lessL_irrefl (l : List Int) : lessL l l = false := by
  induction l with
  | nil => rfl
  | cons a l ih => simp [lessL, ih]
theorem lessL_asymm (l : List Int) : ∀ m, lessL l m = true → lessL m l = false := by
  induction l with
  | nil => intro m h; cases m <;> simp [lessL] at h ⊢
  | cons a l ih =>
    intro m h
    cases m with
    | nil => simp [lessL] at h
    | cons b m =>
      simp only [lessL, Bool.or_eq_true, Bool.and_eq_true, decide_eq_true_eq] at h
      rcases h with h | ⟨rfl, h⟩
      · simp [lessL]; omega
      · simp [lessL, ih m h]
theorem lessL_total (l : List Int) : ∀ m, lessL l m = false → lessL m l = false → l = m := by
  induction l with
  | nil => intro m h1 h2; cases m with
    | nil => rfl
    | cons b m => simp [lessL] at h1
  | cons a l ih =>
    intro m h1 h2
    cases m with
    | nil => simp [lessL] at h2
    | cons b m =>
      simp only [lessL, Bool.or_eq_false_iff, Bool.and_eq_false_iff, decide_eq_false_iff_not] at h1 h2
      have e : a = b := by omega
      subst e
      have := ih m (by simpa using h1) (by simpa using h2)
      rw [this]
theorem lessL_trans (l : List Int) : ∀ m n, lessL l m = true → lessL m n = true → lessL l n = true := by
  induction l with
  | nil =>
    intro m n h1 h2
    cases n with
    | nil => cases m <;> simp [lessL] at h2
    | cons c n => rfl
  | cons a l ih =>
    intro m n h1 h2
    cases m with
    | nil => simp [lessL] at h1
    | cons b m =>
      cases n with
      | nil => simp [lessL] at h2
      | cons c n =>
        simp only [lessL, Bool.or_eq_true, Bool.and_eq_true, decide_eq_true_eq] at h1 h2 ⊢
        rcases h1 with h1 | ⟨rfl, h1⟩
        · rcases h2 with h2 | ⟨rfl, h2⟩
          · left; omega
          · left; exact h1
        · rcases h2 with h2 | ⟨rfl, h2⟩
          · left; exact h2
          · right; exact ⟨rfl, ih m n h1 h2⟩
theorem commonL_take (l : List Int) : ∀ m, l.take (commonL l m) = m.take (commonL l m) := by
  induction l with
  | nil => intro m; simp [commonL]
  | cons a l ih =>
    intro m
    cases m with
    | nil => simp [commonL]
    | cons b m =>
      rw [commonL]
      split
      · rename_i h
        subst h
        simp [ih m]
      · simp

section
variable (s t : ByteArray) (hs : s.size ≤ 140737488351232) (ht : t.size ≤ 140737488351232)
include hs ht
theorem common_loop (d : Nat) : ∀ i : Nat, i ≤ s.size → i ≤ t.size → min s.size t.size - i = d → ∀ m : Int, m = (min s.size t.size : Nat) → mn (s.size : Int) (t.size : Int) = m →
    Ev (fun k => quote_Common.l0 k s t m (i : Int)) ((i + commonL ((bytesOf s).drop i) ((bytesOf t).drop i) : Nat) : Int) := by
  induction d with
  | zero =>
    intro i hi1 hi2 hd m hm hmn
    have e : commonL ((bytesOf s).drop i) ((bytesOf t).drop i) = 0 := by
      rcases Nat.lt_or_ge i s.size with h | h
      · rw [bytes_end t (by omega)]
        rcases (bytesOf s).drop i with _ | ⟨a, x⟩ <;> rfl
      · rw [bytes_end s (by omega)]
        rfl
    rw [e]
    refine Ev.succ ?_
    simp only [quote_Common.l0, show ¬ ((i : Int) < m) by omega, if_false, hmn]
    refine Ev.const ?_
    congr 1
    omega
  | succ d ih =>
    intro i hi1 hi2 hd m hm hmn
    have h1 : i < s.size := by omega
    have h2 : i < t.size := by omega
    have ih := ih (i + 1) (by omega) (by omega) (by omega) m hm hmn
    rw [bytes_drop s h1, bytes_drop t h2, commonL]
    refine Ev.succ ?_
    simp only [quote_Common.l0, show (i : Int) < m by omega, show (0 : Int) ≤ (i : Int) by omega, show (i : Int) < (s.size : Int) by omega, show (i : Int) < (t.size : Int) by omega, if_true, i_next h1 hs]
    by_cases e : bt s (i : Int) = bt t (i : Int)
    · simp only [e, if_true]
      rw [show i + (commonL ((bytesOf s).drop (i + 1)) ((bytesOf t).drop (i + 1)) + 1) = i + 1 + commonL ((bytesOf s).drop (i + 1)) ((bytesOf t).drop (i + 1)) by omega]
      exact ih
    · simp only [e, if_false]
      exact Ev.now _
theorem mn_sizes : mn (s.size : Int) (t.size : Int) = ((min s.size t.size : Nat) : Int) := by
  unfold mn
  split <;> omega
theorem common_ev : Ev (fun k => quote_Common.f k s t) (commonL (bytesOf s) (bytesOf t) : Int) := by
  unfold quote_Common.f
  have := common_loop s t hs ht _ 0 (by omega) (by omega) rfl _ (mn_sizes s t hs ht) rfl
  rw [List.drop_zero, List.drop_zero, Nat.zero_add] at this
  exact this
theorem refcommon_loop (d : Nat) : ∀ i : Nat, i ≤ s.size → i ≤ t.size → min s.size t.size - i = d →
    Ev (fun k => placketref02_Common.l0 k s t (i : Int)) ((i + commonL ((bytesOf s).drop i) ((bytesOf t).drop i) : Nat) : Int) := by
  induction d with
  | zero =>
    intro i hi1 hi2 hd
    have e : commonL ((bytesOf s).drop i) ((bytesOf t).drop i) = 0 := by
      rcases Nat.lt_or_ge i s.size with h | h
      · rw [bytes_end t (by omega)]
        rcases (bytesOf s).drop i with _ | ⟨a, x⟩ <;> rfl
      · rw [bytes_end s (by omega)]
        rfl
    rw [e]
    refine Ev.succ ?_
    simp only [placketref02_Common.l0]
    by_cases h : i < s.size
    · simp only [show (i : Int) < (s.size : Int) by omega, if_true, show ¬ (i : Int) < (t.size : Int) by omega, if_false]
      exact Ev.now _
    · simp only [show ¬ (i : Int) < (s.size : Int) by omega, if_false]
      exact Ev.now _
  | succ d ih =>
    intro i hi1 hi2 hd
    have h1 : i < s.size := by omega
    have h2 : i < t.size := by omega
    have ih := ih (i + 1) (by omega) (by omega) (by omega)
    rw [bytes_drop s h1, bytes_drop t h2, commonL]
    refine Ev.succ ?_
    simp only [placketref02_Common.l0, show (0 : Int) ≤ (i : Int) by omega, show (i : Int) < (s.size : Int) by omega, show (i : Int) < (t.size : Int) by omega, if_true, i_next h1 hs]
    by_cases e : bt s (i : Int) = bt t (i : Int)
    · simp only [e, if_true]
      rw [show i + (commonL ((bytesOf s).drop (i + 1)) ((bytesOf t).drop (i + 1)) + 1) = i + 1 + commonL ((bytesOf s).drop (i + 1)) ((bytesOf t).drop (i + 1)) by omega]
      exact ih
    · simp only [e, if_false]
      exact Ev.now _
theorem refcommon_ev : Ev (fun k => placketref02_Common.f k s t) (commonL (bytesOf s) (bytesOf t) : Int) := by
  unfold placketref02_Common.f
  have := refcommon_loop s t hs ht _ 0 (by omega) (by omega) rfl
  rw [List.drop_zero, List.drop_zero, Nat.zero_add] at this
  exact this
theorem reforder_ev : Ev (fun k => placketref02_Order.f k s t) (orderL (bytesOf s) (bytesOf t)) := by
  unfold placketref02_Order.f
  refine Ev.bind (refcommon_ev s t hs ht) ?_
  refine Ev.succ ?_
  rw [order_ref]
  have hle := commonL_le (bytesOf s) (bytesOf t)
  unfold refOrdL
  rw [bytesOf_length, bytesOf_length] at hle ⊢
  generalize hn : commonL (bytesOf s) (bytesOf t) = n at *
  simp only [placketref02_Order.j0]
  by_cases h1 : n = s.size
  · by_cases h2 : n = t.size
    · simp only [show (n : Int) = (s.size : Int) by omega, if_true, show ((s.size : Int) == (t.size : Int)) = true from beq_iff_eq.2 (by omega), h1, show s.size = t.size by omega, beq_self_eq_true]
      exact Ev.now _
    · simp only [show (n : Int) = (s.size : Int) by omega, if_true, show ((s.size : Int) == (t.size : Int)) = false from beq_eq_false_iff_ne.2 (by omega), Bool.false_eq_true, if_false, h1, show ¬ s.size = t.size by omega]
      exact Ev.now _
  · simp only [show ¬ (n : Int) = (s.size : Int) by omega, if_false, h1, Bool.false_eq_true]
    by_cases h2 : n = t.size
    · simp only [show (n : Int) = (t.size : Int) by omega, if_true, h2]
      exact Ev.now _
    · simp only [show ¬ (n : Int) = (t.size : Int) by omega, if_false, h2, show (0 : Int) ≤ (n : Int) by omega, show (n : Int) < (s.size : Int) by omega, show (n : Int) < (t.size : Int) by omega, if_true]
      have e1 : (bytesOf s).getD n 0 = bt s (n : Int) := by rw [← rd_bytesOf]; rfl
      have e2 : (bytesOf t).getD n 0 = bt t (n : Int) := by rw [← rd_bytesOf]; rfl
      rw [e1, e2]
      refine Ev.const ?_
      split <;> rfl
end

end Go.Proofs.Ytdalplbgbgciiaa.Pure
