/- NumSums is true of all numbers: sums and differences are the document's. -/
import Derived.Test.YtncmkbmggflloaaNumPure
namespace Go.Proofs.Ytncmkbmggflloaa.Pure
open Go.RowKit Go.Proofs.Ytncmkbmggflloaa.PA Go.Proofs.YtncmkbmggflloaaW.PrintWords Go.Proofs.YtncmkbmggflloaaW.PrintLast

theorem add_same {a b : Int} (ha0 : -9223372036854775808 ≤ a) (ha1 : a ≤ 9223372036854775807) (hb0 : -9223372036854775808 ≤ b) (hb1 : b ≤ 9223372036854775807) :
    ∃ r, num_Add.f a b = some r ∧ placketref01_Add.f a b = some r := by
  refine ⟨if -9223372036854775808 ≤ a + b ∧ a + b ≤ 9223372036854775807 then (a + b, 0) else (0, 4), ?_, ?_⟩
  · unfold num_Add.f wrap64
    by_cases h : -9223372036854775808 ≤ a + b ∧ a + b ≤ 9223372036854775807
    · rw [if_pos h, if_neg (by rw [bne_iff_ne]; simp only [ne_eq, decide_eq_decide]; omega)]
      congr 2
      omega
    · rw [if_neg h, if_pos (by rw [bne_iff_ne]; simp only [ne_eq, decide_eq_decide]; omega)]
  · unfold placketref01_Add.f wrap64
    by_cases h : -9223372036854775808 ≤ a + b ∧ a + b ≤ 9223372036854775807
    · rw [if_pos h]
      have e : (a + b + 9223372036854775808) % 18446744073709551616 - 9223372036854775808 = a + b := by omega
      rw [e]
      repeat' split
      all_goals first | rfl | (exfalso; omega)
    · rw [if_neg h]
      repeat' split
      all_goals first | rfl | (exfalso; omega)

theorem sub_same {a b : Int} (ha0 : -9223372036854775808 ≤ a) (ha1 : a ≤ 9223372036854775807) (hb0 : -9223372036854775808 ≤ b) (hb1 : b ≤ 9223372036854775807) :
    ∃ r, num_Sub.f a b = some r ∧ placketref01_Sub.f a b = some r := by
  refine ⟨if -9223372036854775808 ≤ a - b ∧ a - b ≤ 9223372036854775807 then (a - b, 0) else (0, 4), ?_, ?_⟩
  · unfold num_Sub.f wrap64
    by_cases h : -9223372036854775808 ≤ a - b ∧ a - b ≤ 9223372036854775807
    · rw [if_pos h, if_neg (by rw [bne_iff_ne]; simp only [ne_eq, decide_eq_decide]; omega)]
      congr 2
      omega
    · rw [if_neg h, if_pos (by rw [bne_iff_ne]; simp only [ne_eq, decide_eq_decide]; omega)]
  · unfold placketref01_Sub.f wrap64
    by_cases h : -9223372036854775808 ≤ a - b ∧ a - b ≤ 9223372036854775807
    · rw [if_pos h]
      have e : (a - b + 9223372036854775808) % 18446744073709551616 - 9223372036854775808 = a - b := by omega
      rw [e]
      repeat' split
      all_goals first | rfl | (exfalso; omega)
    · rw [if_neg h]
      repeat' split
      all_goals first | rfl | (exfalso; omega)

theorem NumSums : placketlaw01_NumSums.Pure := by
  intro a b wa wb
  obtain ⟨ha0, ha1⟩ := i64_wf wa
  obtain ⟨hb0, hb1⟩ := i64_wf wb
  obtain ⟨r, h1, h2⟩ := add_same ha0 ha1 hb0 hb1
  obtain ⟨s, h3, h4⟩ := sub_same ha0 ha1 hb0 hb1
  refine ⟨60, ?_⟩
  unfold placketlaw01_NumSums.f
  rw [h1, h2, h3, h4, live_at 60 (by omega)]
  simp

end Go.Proofs.Ytncmkbmggflloaa.Pure
