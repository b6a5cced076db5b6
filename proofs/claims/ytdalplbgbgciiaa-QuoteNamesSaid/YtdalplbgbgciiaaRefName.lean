/- Which texts are names: the document's loop as a law on lists of bytes. -/
import Derived.Test.YtdalplbgbgciiaaNamePure
namespace Go.Proofs.Ytdalplbgbgciiaa.Pure
set_option linter.unusedSimpArgs false
open Go.RowKit Go.Proofs.Ytdalplbgbgciiaa.PA Go.Proofs.YtdalplbgbgciiaaW.PrintWords Go.Proofs.YtdalplbgbgciiaaW.PrintLast
section
variable (s : ByteArray) (hs : s.size ≤ 140737488351232)
include hs
set_option maxHeartbeats 4000000 in
theorem refname_loop (h0 : 0 < s.size) (d : Nat) : ∀ i : Nat, i ≤ s.size → s.size - i = d → Ev (fun k => placketref02_Name.l0 k s (s.size : Int) (i : Int)) (nameR (i == 0) ((bytesOf s).drop i)) := by
  induction d with
  | zero =>
    intro i hi hd
    rw [bytes_end s (by omega)]
    refine Ev.succ ?_
    simp only [placketref02_Name.l0, show ¬ ((i : Int) < (s.size : Int)) by omega, if_false, nameR, show (s.size : Int) > 0 by omega, decide_true]
    exact Ev.now _
  | succ d ih =>
    intro i hi hd
    have hlt : i < s.size := by omega
    have hn := i_next hlt hs
    have ih := ih (i + 1) (by omega) (by omega)
    rw [show (i + 1 == 0) = false from rfl] at ih
    rw [bytes_drop s hlt]
    refine Ev.succ ?_
    simp only [placketref02_Name.l0, show (i : Int) < (s.size : Int) by omega, show (0 : Int) ≤ (i : Int) by omega, if_true, hn]
    generalize bt s (i : Int) = c
    by_cases hl : isLet c
    · have e : nameR (i == 0) (c :: (bytesOf s).drop (i + 1)) = nameR false ((bytesOf s).drop (i + 1)) := by simp [nameR, hl]
      rw [e]
      refine Ev.congr (fun k => ?_) ih
      unfold isLet at hl
      repeat' split
      all_goals first | rfl | (exfalso; omega)
    · by_cases h0i : i = 0
      · subst h0i
        have e : nameR (0 == 0) (c :: (bytesOf s).drop (0 + 1)) = false := by simp [nameR, hl]
        rw [e]
        refine Ev.congr (f := fun _ => some false) (fun k => ?_) (Ev.now _)
        unfold isLet at hl
        repeat' split
        all_goals first | rfl | (exfalso; omega)
      · have hf : (i == 0) = false := beq_eq_false_iff_ne.2 h0i
        by_cases hd : isDig c
        · have e : nameR (i == 0) (c :: (bytesOf s).drop (i + 1)) = nameR false ((bytesOf s).drop (i + 1)) := by simp [nameR, hf, hd]
          rw [e]
          refine Ev.congr (fun k => ?_) ih
          unfold isDig at hd
          repeat' split
          all_goals first | rfl | (exfalso; omega)
        · have e : nameR (i == 0) (c :: (bytesOf s).drop (i + 1)) = false := by simp [nameR, hl, hd]
          rw [e]
          refine Ev.congr (f := fun _ => some false) (fun k => ?_) (Ev.now _)
          unfold isDig at hd
          unfold isLet at hl
          repeat' split
          all_goals first | rfl | (exfalso; omega)
theorem refname_ev : Ev (fun k => placketref02_Name.f k s) (nameS (bytesOf s)) := by
  unfold placketref02_Name.f nameS
  by_cases h0 : s.size = 0
  · rw [bytes_nil h0]
    refine Ev.succ ?_
    simp only [placketref02_Name.l0, show ¬ (0 : Int) < (s.size : Int) by omega, if_false, show ¬ (s.size : Int) > 0 by omega, decide_false]
    exact Ev.now _
  · have hd := bytes_drop s (show 0 < s.size by omega)
    rw [List.drop_zero] at hd
    have := refname_loop s hs (by omega) s.size 0 (by omega) (by omega)
    rw [List.drop_zero] at this
    rw [show (bytesOf s).isEmpty = false by rw [hd]; rfl]
    exact this
end
end Go.Proofs.Ytdalplbgbgciiaa.Pure
