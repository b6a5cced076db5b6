/- What the printed functions of the layer num come to, as plain arithmetic: sizes, quotients, remainders, sums, products, places. -/
import Derived.Test.YtncmkbmggflloaaPAx
import Derived.KernelRfl
import Derived.Laws.BitsAllLaws
namespace Go.Proofs.Ytncmkbmggflloaa.Pure
open Go.RowKit Go.Proofs.Ytncmkbmggflloaa.PA Go.Proofs.YtncmkbmggflloaaW.PrintWords Go.Proofs.YtncmkbmggflloaaW.PrintLast

theorem i64_wf {n : Int} (h : (Lit.int .i64 n).wf = true) : -9223372036854775808 ≤ n ∧ n ≤ 9223372036854775807 := by
  simpa [Lit.wf, IntKind.min, IntKind.max, IntKind.signed, IntKind.bits] using h

theorem w64 {n : Int} (h0 : -9223372036854775808 ≤ n) (h1 : n ≤ 9223372036854775807) : wrap64 n = n := by unfold wrap64; omega
theorem u64 (n : Int) : IntKind.u64.wrap n = n % 18446744073709551616 := IntKind.wrap_u64 n

theorem num_size_some {n : Int} (h0 : -9223372036854775808 ≤ n) (h1 : n ≤ 9223372036854775807) : num_size.f n = some (n.natAbs : Int) := by
  unfold num_size.f
  simp only [u64]
  split <;> (congr 1; omega)

theorem num_signed_pos {u : Int} (h0 : 0 ≤ u) : num_signed.f u false = some (if u > 9223372036854775807 then (0, 4) else (u, 0)) := by
  unfold num_signed.f
  rw [if_neg (by simp)]
  split
  · rfl
  · rw [w64 (by omega) (by omega)]
theorem num_signed_neg {u : Int} (h0 : 0 ≤ u) : num_signed.f u true = some (if u > 9223372036854775808 then (0, 4) else (-u, 0)) := by
  unfold num_signed.f
  rw [if_pos rfl]
  split
  · rfl
  · rw [u64]
    congr 2
    unfold wrap64
    omega

/-- What a quotient rounded down and what is left come to, by sizes. -/
structure Parts (a b q m : Int) : Prop where
  whole : b * q + m = a
  pos : 0 < b → 0 ≤ m ∧ m < b
  neg : b < 0 → m ≤ 0 ∧ b < m

theorem size_parts (a b : Int) (hb : b ≠ 0) : (b.natAbs : Int) * ((a.natAbs : Int) / (b.natAbs : Int)) + (a.natAbs : Int) % (b.natAbs : Int) = (a.natAbs : Int) ∧ 0 ≤ (a.natAbs : Int) % (b.natAbs : Int) ∧ (a.natAbs : Int) % (b.natAbs : Int) < (b.natAbs : Int) ∧ 0 ≤ (a.natAbs : Int) / (b.natAbs : Int) ∧ (a.natAbs : Int) / (b.natAbs : Int) ≤ (a.natAbs : Int) := by
  refine ⟨Int.mul_ediv_add_emod _ _, Int.emod_nonneg _ (by omega), Int.emod_lt_of_pos _ (by omega), Int.ediv_nonneg (by omega) (by omega), Int.ediv_le_self _ (by omega)⟩

/-- The quotient: by the sizes' quotient and remainder. -/
def divS (a b : Int) : Int × Int :=
  if b = 0 then (0, 9) else
  if (a < 0 ↔ b < 0) then (if (a.natAbs : Int) / (b.natAbs : Int) > 9223372036854775807 then (0, 4) else ((a.natAbs : Int) / (b.natAbs : Int), 0))
  else if (a.natAbs : Int) % (b.natAbs : Int) > 0 then (-((a.natAbs : Int) / (b.natAbs : Int) + 1), 0) else (-((a.natAbs : Int) / (b.natAbs : Int)), 0)
def sg (b : Int) : Int := if b < 0 then -1 else 1
/-- What is left: by the sizes' remainder. -/
def modS (a b : Int) : Int × Int :=
  if b = 0 then (0, 9) else
  (sg b * (if (a.natAbs : Int) % (b.natAbs : Int) > 0 ∧ ¬ (a < 0 ↔ b < 0) then (b.natAbs : Int) - (a.natAbs : Int) % (b.natAbs : Int) else (a.natAbs : Int) % (b.natAbs : Int)), 0)

theorem beq_signs (a b : Int) : ((decide (a < 0)) == (decide (b < 0))) = decide (a < 0 ↔ b < 0) := by
  by_cases h : a < 0 <;> by_cases k : b < 0 <;> simp [h, k]
theorem bne_signs (a b : Int) : ((decide (a < 0)) != (decide (b < 0))) = !decide (a < 0 ↔ b < 0) := by
  by_cases h : a < 0 <;> by_cases k : b < 0 <;> simp [h, k]

theorem size_half (a b : Int) (hb : b ≠ 0) (hm : 0 < (a.natAbs : Int) % (b.natAbs : Int)) : (a.natAbs : Int) / (b.natAbs : Int) ≤ (a.natAbs : Int) / 2 := by
  have hb2 : 2 ≤ b.natAbs := by
    rcases Nat.lt_or_ge b.natAbs 2 with h | h
    · have : b.natAbs = 1 := by omega
      rw [this] at hm
      simp at hm
    · exact h
  rw [← Int.natCast_ediv, show (2 : Int) = ((2 : Nat) : Int) from rfl, ← Int.natCast_ediv]
  exact Int.ofNat_le.2 (Nat.div_le_div_left hb2 (by omega))

section
variable {a b : Int} (ha0 : -9223372036854775808 ≤ a) (ha1 : a ≤ 9223372036854775807) (hb0 : -9223372036854775808 ≤ b) (hb1 : b ≤ 9223372036854775807)
include ha0 ha1 hb0 hb1

theorem num_Div_some : num_Div.f a b = some (divS a b) := by
  unfold num_Div.f divS
  by_cases hb : b = 0
  · rw [if_pos hb, if_pos hb]
  obtain ⟨-, h1, h2, h3, h4⟩ := size_parts a b hb
  have hh := size_half a b hb
  rw [if_neg hb, if_neg hb, num_size_some ha0 ha1, num_size_some hb0 hb1]
  simp only [Option.bind_some]
  rw [if_neg (show ¬ (b.natAbs : Int) = 0 by omega), beq_signs]
  rw [Int.tdiv_eq_ediv_of_nonneg (by omega), Int.tmod_eq_emod_of_nonneg (by omega)]
  have hq : (a.natAbs : Int) / (b.natAbs : Int) ≤ 9223372036854775808 := by omega
  have hq2 : 0 < (a.natAbs : Int) % (b.natAbs : Int) → (a.natAbs : Int) / (b.natAbs : Int) ≤ 4611686018427387904 := by
    intro hm
    have := hh hm
    omega
  clear hh h4
  generalize (a.natAbs : Int) / (b.natAbs : Int) = q at *
  generalize (a.natAbs : Int) % (b.natAbs : Int) = m at *
  have e1 : IntKind.u64.wrap q = q := by rw [u64]; omega
  by_cases hs : (a < 0 ↔ b < 0)
  · rw [if_pos (by simpa using hs), if_pos hs, e1, num_signed_pos h3]
    simp
  · rw [if_neg (by simpa using hs), if_neg hs, e1]
    by_cases hm : m > 0
    · rw [if_pos hm, if_pos hm]
      have e2 : IntKind.u64.wrap (q + 1) = q + 1 := by rw [u64]; have := hq2 hm; omega
      have := hq2 hm
      rw [e2, num_signed_neg (by omega), if_neg (show ¬ (q + 1 > 9223372036854775808) by omega), if_neg (show ¬ ((b.natAbs : Int) = 0) by omega)]
      rfl
    · rw [if_neg hm, if_neg hm, num_signed_neg h3, if_neg (show ¬ (q > 9223372036854775808) by omega), if_neg (show ¬ ((b.natAbs : Int) = 0) by omega)]
      rfl

theorem num_Mod_some (k : Nat) : num_Mod.f (k + 1) a b = some (modS a b) := by
  unfold num_Mod.f modS
  by_cases hb : b = 0
  · rw [if_pos hb, if_pos hb]
  obtain ⟨-, h1, h2, h3, h4⟩ := size_parts a b hb
  rw [if_neg hb, if_neg hb, num_size_some ha0 ha1, num_size_some hb0 hb1]
  simp only [Option.bind_some]
  rw [if_neg (show ¬ (b.natAbs : Int) = 0 by omega), bne_signs, Int.tmod_eq_emod_of_nonneg (by omega)]
  have hB : (b.natAbs : Int) ≤ 9223372036854775808 := by omega
  have hB2 : ¬ b < 0 → (b.natAbs : Int) ≤ 9223372036854775807 := by omega
  generalize hm' : (a.natAbs : Int) % (b.natAbs : Int) = m at *
  clear hm' h3 h4
  have step : ∀ t : Bool, num_Mod.j0 (k + 1) b m t = some (sg b * (if t = true then (b.natAbs : Int) - m else m), 0) := by
    intro t
    simp only [num_Mod.j0]
    rw [num_size_some hb0 hb1]
    simp only [Option.bind_some]
    have key : ∀ u : Int, 0 ≤ u → u ≤ (b.natAbs : Int) → ((num_signed.f u (decide (b < 0))).bind fun bt => some (bt.1, bt.2)) = some (sg b * u, 0) := by
      intro u hu hu2
      unfold sg
      by_cases hn : b < 0
      · rw [decide_eq_true hn, num_signed_neg hu, if_neg (show ¬ (u > 9223372036854775808) by omega), if_pos hn]
        simp
      · rw [decide_eq_false hn, num_signed_pos hu, if_neg (show ¬ (u > 9223372036854775807) by omega), if_neg hn]
        simp
    cases t with
    | true =>
      rw [if_pos rfl, if_pos rfl, show IntKind.u64.wrap ((b.natAbs : Int) - m) = (b.natAbs : Int) - m by rw [u64]; omega]
      exact key _ (by omega) (by omega)
    | false =>
      rw [if_neg (by simp), if_neg (by simp)]
      exact key _ (by omega) (by omega)
  by_cases hm : m > 0
  · rw [if_pos hm, step]
    by_cases hs : (a < 0 ↔ b < 0)
    · rw [if_neg (show ¬ ((!decide (a < 0 ↔ b < 0)) = true) by simpa using hs), if_neg (show ¬ (m > 0 ∧ ¬ (a < 0 ↔ b < 0)) from fun h => h.2 hs)]
    · rw [if_pos (show (!decide (a < 0 ↔ b < 0)) = true by simpa using hs), if_pos (show m > 0 ∧ ¬ (a < 0 ↔ b < 0) from ⟨hm, hs⟩)]
  · rw [if_neg hm, step, if_neg (show ¬ (false = true) by simp), if_neg (show ¬ (m > 0 ∧ ¬ (a < 0 ↔ b < 0)) from fun h => hm h.1)]
end

theorem live_yes : placketlaw01_live.f 50 = some true := by kernel_rfl
theorem live_at (k : Nat) (h : 50 ≤ k) : placketlaw01_live.f k = some true := at_rounds placketlaw01_live.mono h live_yes
theorem live_ev : Ev (fun k => placketlaw01_live.f k) true := Ev.of (placketlaw01_live.mono) live_yes

end Go.Proofs.Ytncmkbmggflloaa.Pure
