/- NumParts is true of all numbers: where there is a quotient, it times the divisor and what is left are the number. -/
import Derived.Test.YtncmkbmggflloaaPAx2
import Derived.Test.YtncmkbmggflloaaNumPure
namespace Go.Proofs.Ytncmkbmggflloaa.Pure
open Go.RowKit Go.Proofs.Ytncmkbmggflloaa.PA Go.Proofs.YtncmkbmggflloaaW.PrintWords Go.Proofs.YtncmkbmggflloaaW.PrintLast

theorem ww (x y : Int) : wrap64 (wrap64 x + y) = wrap64 (x + y) := by unfold wrap64; omega
theorem some_true {b : Bool} (h : b = true) : some b = some true := by rw [h]

set_option maxHeartbeats 2000000 in
theorem NumParts : placketlaw01_NumParts.Pure := by
  intro a b wa wb
  obtain ⟨ha0, ha1⟩ := i64_wf wa
  obtain ⟨hb0, hb1⟩ := i64_wf wb
  refine ⟨60, ?_⟩
  unfold placketlaw01_NumParts.f
  rw [num_Div_some ha0 ha1 hb0 hb1, num_Mod_some ha0 ha1 hb0 hb1 59, live_at 60 (by omega)]
  simp only [Option.bind_some]
  rw [if_pos trivial]
  simp only [placketlaw01_NumParts.j0]
  rw [live_at 59 (by omega)]
  simp only [Option.bind_some]
  by_cases hb : b = 0
  · subst hb
    simp [divS, modS]
  rw [if_neg (show ¬ ((b == 0) = true) by simpa using hb)]
  obtain ⟨hwhole, h1, h2, h3, h4⟩ := size_parts a b hb
  have hsign : ∀ P : Int, (b < 0 → P * b = -(P * (b.natAbs : Int))) ∧ (¬ b < 0 → P * b = P * (b.natAbs : Int)) := by
    intro P
    constructor
    · intro h
      rw [show (b.natAbs : Int) = -b by omega, Int.mul_neg, Int.neg_neg]
    · intro h
      rw [show (b.natAbs : Int) = b by omega]
  have hB : (b.natAbs : Int) ≤ 9223372036854775808 := by omega
  have hq1 := size_half a b hb
  unfold divS modS sg
  rw [if_neg hb, if_neg hb]
  rw [Int.mul_comm] at hwhole
  have s1 := hsign ((a.natAbs : Int) / (b.natAbs : Int))
  have s2 := hsign (-((a.natAbs : Int) / (b.natAbs : Int)))
  have s3 := hsign (-((a.natAbs : Int) / (b.natAbs : Int) + 1))
  rw [Int.neg_mul, Int.neg_mul] at s2 s3
  rw [Int.add_mul, Int.add_mul, Int.one_mul, Int.one_mul] at s3
  have hbig : ∀ q : Int, q > 9223372036854775807 → q * (b.natAbs : Int) ≤ 9223372036854775808 → (b.natAbs : Int) = 1 := by
    intro q h1 h2
    rcases Int.lt_or_le (b.natAbs : Int) 2 with h | h
    · omega
    · have := Int.mul_le_mul_of_nonneg_left h (show 0 ≤ q by omega)
      omega
  generalize hq : (a.natAbs : Int) / (b.natAbs : Int) = q at *
  have hbig := hbig q
  have f2 : -q * b = -(q * b) := Int.neg_mul q b
  have f3 : -(q + 1) * b = -(q * b + b) := by rw [Int.neg_mul, Int.add_mul, Int.one_mul]
  generalize (a.natAbs : Int) % (b.natAbs : Int) = m at *
  generalize hP : q * (b.natAbs : Int) = P at *
  generalize hR : q * b = R at *
  have fin : ∀ q' m' : Int, q' * b + m' = a → some (wrap64 (wrap64 (q' * b) + m') == a) = some true := by
    intro q' m' h
    rw [ww, h, w64 ha0 ha1]
    simp
  by_cases sa : a < 0 <;> by_cases sb : b < 0
  · rw [if_pos (show (a < 0 ↔ b < 0) from iff_of_true sa sb), if_neg (show ¬ (m > 0 ∧ ¬ (a < 0 ↔ b < 0)) from fun h => h.2 (iff_of_true sa sb)), if_pos sb]
    have e := s1.1 sb
    by_cases hq' : q > 9223372036854775807
    · rw [if_pos hq']
      have hb1' : b = -1 := by have := hbig hq' (by omega); omega
      simp only []
      repeat' split
      all_goals first | rfl | (exfalso; omega) | exact absurd trivial ‹¬ True›
    · rw [if_neg hq']
      simp only []
      repeat' split
      all_goals first | rfl | (exfalso; omega) | (exact fin _ _ (by omega)) | exact absurd trivial ‹¬ True›
  · have hs : ¬ (a < 0 ↔ b < 0) := fun h => sb (h.1 sa)
    have e := s1.2 sb
    by_cases hm : m > 0
    · rw [if_neg hs, if_pos (show m > 0 ∧ ¬ (a < 0 ↔ b < 0) from ⟨hm, hs⟩), if_neg sb, if_pos hm]
      simp only []
      repeat' split
      all_goals first | rfl | (exfalso; omega) | (exact fin _ _ (by omega)) | exact absurd trivial ‹¬ True›
    · rw [if_neg hs, if_neg (show ¬ (m > 0 ∧ ¬ (a < 0 ↔ b < 0)) from fun h => hm h.1), if_neg sb, if_neg hm]
      simp only []
      repeat' split
      all_goals first | rfl | (exfalso; omega) | (exact fin _ _ (by omega)) | exact absurd trivial ‹¬ True›
  · have hs : ¬ (a < 0 ↔ b < 0) := fun h => sa (h.2 sb)
    have e := s1.1 sb
    by_cases hm : m > 0
    · rw [if_neg hs, if_pos (show m > 0 ∧ ¬ (a < 0 ↔ b < 0) from ⟨hm, hs⟩), if_pos sb, if_pos hm]
      simp only []
      repeat' split
      all_goals first | rfl | (exfalso; omega) | (exact fin _ _ (by omega)) | exact absurd trivial ‹¬ True›
    · rw [if_neg hs, if_neg (show ¬ (m > 0 ∧ ¬ (a < 0 ↔ b < 0)) from fun h => hm h.1), if_pos sb, if_neg hm]
      simp only []
      repeat' split
      all_goals first | rfl | (exfalso; omega) | (exact fin _ _ (by omega)) | exact absurd trivial ‹¬ True›
  · rw [if_pos (show (a < 0 ↔ b < 0) from iff_of_false sa sb), if_neg (show ¬ (m > 0 ∧ ¬ (a < 0 ↔ b < 0)) from fun h => h.2 (iff_of_false sa sb)), if_neg sb]
    have e := s1.2 sb
    rw [if_neg (show ¬ (q > 9223372036854775807) by omega)]
    simp only []
    repeat' split
    all_goals first | rfl | (exfalso; omega) | (exact fin _ _ (by omega)) | exact absurd trivial ‹¬ True›

end Go.Proofs.Ytncmkbmggflloaa.Pure
