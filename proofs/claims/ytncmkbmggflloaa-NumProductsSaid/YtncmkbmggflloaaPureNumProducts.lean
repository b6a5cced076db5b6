/- NumProducts is true of all numbers: products, quotients and what is left are the document's. -/
import Derived.Test.YtncmkbmggflloaaNumPure
import Derived.Laws.MathBits
namespace Go.Proofs.Ytncmkbmggflloaa.Pure
open Go.RowKit Go.Proofs.Ytncmkbmggflloaa.PA Go.Proofs.YtncmkbmggflloaaW.PrintWords Go.Proofs.YtncmkbmggflloaaW.PrintLast

theorem tdiv_sizes (a b : Int) : a.tdiv b = (if (a < 0 ↔ b < 0) then (a.natAbs : Int) / (b.natAbs : Int) else -((a.natAbs : Int) / (b.natAbs : Int))) := by
  have key : ∀ x y : Int, 0 ≤ x → 0 ≤ y → x.tdiv y = x / y := fun x y hx _ => Int.tdiv_eq_ediv_of_nonneg hx
  by_cases sa : a < 0 <;> by_cases sb : b < 0
  · rw [if_pos (iff_of_true sa sb), show (a.natAbs : Int) = -a by omega, show (b.natAbs : Int) = -b by omega, ← key _ _ (by omega) (by omega), Int.neg_tdiv, Int.tdiv_neg, Int.neg_neg]
  · rw [if_neg (fun h => sb (h.1 sa)), show (a.natAbs : Int) = -a by omega, show (b.natAbs : Int) = b by omega, ← key _ _ (by omega) (by omega), Int.neg_tdiv, Int.neg_neg]
  · rw [if_neg (fun h => sa (h.2 sb)), show (a.natAbs : Int) = a by omega, show (b.natAbs : Int) = -b by omega, ← key _ _ (by omega) (by omega), Int.tdiv_neg, Int.neg_neg]
  · rw [if_pos (iff_of_false sa sb), show (a.natAbs : Int) = a by omega, show (b.natAbs : Int) = b by omega, ← key _ _ (by omega) (by omega)]
theorem tmod_sizes (a b : Int) : a.tmod b = (if a < 0 then -((a.natAbs : Int) % (b.natAbs : Int)) else (a.natAbs : Int) % (b.natAbs : Int)) := by
  have key : ∀ x y : Int, 0 ≤ x → x.tmod y = x % y := fun x y hx => Int.tmod_eq_emod_of_nonneg hx
  have hb : ∀ x : Int, x.tmod (b.natAbs : Int) = x.tmod b := by
    intro x
    by_cases sb : b < 0
    · rw [show (b.natAbs : Int) = -b by omega, Int.tmod_neg]
    · rw [show (b.natAbs : Int) = b by omega]
  by_cases sa : a < 0
  · rw [if_pos sa, ← key _ _ (by omega), hb, show (a.natAbs : Int) = -a by omega, Int.neg_tmod, Int.neg_neg]
  · rw [if_neg sa, ← key _ _ (by omega), hb, show (a.natAbs : Int) = a by omega]

section
variable {a b : Int} (ha0 : -9223372036854775808 ≤ a) (ha1 : a ≤ 9223372036854775807) (hb0 : -9223372036854775808 ≤ b) (hb1 : b ≤ 9223372036854775807)
include ha0 ha1 hb0 hb1

theorem refDiv_some (k : Nat) : placketref01_Div.f (k + 1) a b = some (divS a b) := by
  unfold placketref01_Div.f divS
  by_cases hb : b = 0
  · rw [if_pos hb, if_pos hb]
  obtain ⟨hw, h1, h2, h3, h4⟩ := size_parts a b hb
  have hh := size_half a b hb
  rw [if_neg hb, if_neg hb]
  by_cases hl : a = -9223372036854775808 ∧ b = -1
  · obtain ⟨rfl, rfl⟩ := hl
    rw [if_pos rfl]
    simp [placketref01_Div.j0]
  have hq : (a < 0 ↔ b < 0) → (a.natAbs : Int) / (b.natAbs : Int) ≤ 9223372036854775807 := by
    intro hs
    by_cases e : (a.natAbs : Int) / (b.natAbs : Int) ≤ 9223372036854775807
    · exact e
    · exfalso
      have eA : (a.natAbs : Int) = 9223372036854775808 := by omega
      rcases Int.lt_or_le (b.natAbs : Int) 2 with h | h
      · omega
      · have := Int.mul_le_mul_of_nonneg_right h h3
        omega
  have hq2 : 0 < (a.natAbs : Int) % (b.natAbs : Int) → (a.natAbs : Int) / (b.natAbs : Int) ≤ 4611686018427387904 := by
    intro hm
    have := hh hm
    omega
  have step : placketref01_Div.j0 (k + 1) a b false = some (if (a < 0 ↔ b < 0) then (if (a.natAbs : Int) / (b.natAbs : Int) > 9223372036854775807 then (0, 4) else ((a.natAbs : Int) / (b.natAbs : Int), 0)) else if (a.natAbs : Int) % (b.natAbs : Int) > 0 then (-((a.natAbs : Int) / (b.natAbs : Int) + 1), 0) else (-((a.natAbs : Int) / (b.natAbs : Int)), 0)) := by
    simp only [placketref01_Div.j0]
    rw [if_neg (show ¬ (false = true) by simp), if_neg hb, tdiv_sizes, tmod_sizes]
    clear hh hw
    generalize (a.natAbs : Int) / (b.natAbs : Int) = q at *
    generalize (a.natAbs : Int) % (b.natAbs : Int) = m at *
    simp only [bne_iff_ne, ne_eq, decide_eq_decide]
    unfold wrap64
    by_cases hs : (a < 0 ↔ b < 0)
    · have := hq hs
      simp only [if_pos hs]
      repeat' split
      all_goals first | rfl | (exfalso; omega) | (congr 2; omega)
    · have : q ≤ 9223372036854775808 := by omega
      simp only [if_neg hs]
      repeat' split
      all_goals first | rfl | (exfalso; omega) | (congr 2; omega)
  by_cases e : a = -9223372036854775808
  · rw [if_pos e, show (b == -1) = false by rw [beq_eq_false_iff_ne]; exact fun h => hl ⟨e, h⟩]
    exact step
  · rw [if_neg e]
    exact step

theorem refMod_some : placketref01_Mod.f a b = some (modS a b) := by
  unfold placketref01_Mod.f modS sg
  by_cases hb : b = 0
  · rw [if_pos hb, if_pos hb]
  obtain ⟨hw, h1, h2, h3, h4⟩ := size_parts a b hb
  rw [if_neg hb, if_neg hb]
  by_cases h1b : b = -1
  · subst h1b
    simp
  rw [if_neg h1b, tmod_sizes]
  generalize (a.natAbs : Int) % (b.natAbs : Int) = m at *
  simp only [bne_iff_ne, ne_eq, decide_eq_decide]
  unfold wrap64
  repeat' split
  all_goals first | rfl | (exfalso; omega) | (congr 2; omega)

omit ha0 ha1 hb0 hb1 in
theorem Mul64_some {x y : Int} (hx0 : 0 ≤ x) (hx1 : x < 18446744073709551616) (hy0 : 0 ≤ y) (hy1 : y < 18446744073709551616) :
    bits_Mul64.f x y = some (x * y / 18446744073709551616, x * y % 18446744073709551616) := by
  have h := mul64_arith x y hx0 hx1 hy0 hy1
  unfold bits_Mul64.f
  simp only [u64]
  rw [and_low32 x hx0 hx1, and_low32 y hy0 hy1, and_low32 _ (by omega) (by omega), h]

theorem Mul_some : num_Mul.f a b = some (mulS a b) := by
  unfold num_Mul.f mulS
  rw [num_size_some ha0 ha1, num_size_some hb0 hb1]
  simp only [Option.bind_some]
  rw [Mul64_some (by omega) (by omega) (by omega) (by omega)]
  simp only [Option.bind_some]
  rw [bne_signs]
  have hX : 0 ≤ (a.natAbs : Int) * (b.natAbs : Int) := Int.mul_nonneg (by omega) (by omega)
  have hs : a * b = (if (a < 0 ↔ b < 0) then (a.natAbs : Int) * (b.natAbs : Int) else -((a.natAbs : Int) * (b.natAbs : Int))) := by
    by_cases sa : a < 0 <;> by_cases sb : b < 0
    · rw [if_pos (iff_of_true sa sb), show (a.natAbs : Int) = -a by omega, show (b.natAbs : Int) = -b by omega, Int.neg_mul_neg]
    · rw [if_neg (fun h => sb (h.1 sa)), show (a.natAbs : Int) = -a by omega, show (b.natAbs : Int) = b by omega, Int.neg_mul, Int.neg_neg]
    · rw [if_neg (fun h => sa (h.2 sb)), show (a.natAbs : Int) = a by omega, show (b.natAbs : Int) = -b by omega, Int.mul_neg, Int.neg_neg]
    · rw [if_pos (iff_of_false sa sb), show (a.natAbs : Int) = a by omega, show (b.natAbs : Int) = b by omega]
  rw [hs]
  generalize (a.natAbs : Int) * (b.natAbs : Int) = X at *
  clear hs
  by_cases hh : X / 18446744073709551616 > 0
  · rw [if_pos hh, if_neg]
    split <;> omega
  · rw [if_neg hh, show X % 18446744073709551616 = X by omega]
    by_cases hs : (a < 0 ↔ b < 0)
    · rw [if_pos hs, show (!decide (a < 0 ↔ b < 0)) = false by simpa using hs, num_signed_pos hX]
      simp only [Option.bind_some]
      by_cases hb : X > 9223372036854775807
      · rw [if_pos hb, if_neg (by omega)]
      · rw [if_neg hb, if_pos (by omega)]
    · rw [if_neg hs, show (!decide (a < 0 ↔ b < 0)) = true by simpa using hs, num_signed_neg hX]
      simp only [Option.bind_some]
      by_cases hb : X > 9223372036854775808
      · rw [if_pos hb, if_neg (by omega)]
      · rw [if_neg hb, if_pos (by omega)]
end

theorem NumProducts : placketlaw01_NumProducts.Pure := by
  intro a b wa wb
  obtain ⟨ha0, ha1⟩ := i64_wf wa
  obtain ⟨hb0, hb1⟩ := i64_wf wb
  refine ⟨60, ?_⟩
  unfold placketlaw01_NumProducts.f
  rw [Mul_some ha0 ha1 hb0 hb1, num_Div_some ha0 ha1 hb0 hb1, num_Mod_some ha0 ha1 hb0 hb1 59, refDiv_some ha0 ha1 hb0 hb1 59, refMod_some ha0 ha1 hb0 hb1, live_at 60 (by omega)]
  unfold placketref01_Mul.f
  rw [if_pos ⟨⟨ha0, ha1⟩, hb0, hb1⟩]
  simp

end Go.Proofs.Ytncmkbmggflloaa.Pure
