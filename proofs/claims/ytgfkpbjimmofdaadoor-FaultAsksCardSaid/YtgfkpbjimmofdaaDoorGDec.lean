/- Decimal digits as lists of numbers, and how a row of twenty cells is filled with them from its end: plain, without any program. -/
import Derived.Laws.BytesArg
namespace Go.Proofs.YtgfkpbjimmofdaaDoor

/-- The digits of a number. -/
def decL (u : Nat) : List Int := if u < 10 then [48 + (u : Int)] else decL (u / 10) ++ [48 + ((u : Int) % 10)]
termination_by u
decreasing_by omega

/-- The digits of a whole number, with a hyphen ahead if it is below nought. -/
def digL (n : Int) : List Int := if n < 0 then 45 :: decL n.natAbs else decL n.natAbs

theorem decL_small {u : Nat} (h : u < 10) : decL u = [48 + (u : Int)] := by rw [decL, if_pos h]
theorem decL_big {u : Nat} (h : ¬ u < 10) : decL u = decL (u / 10) ++ [48 + ((u : Int) % 10)] := by rw [decL, if_neg h]

/-- The row behind some rounds: place k+1 on is written; u is left. -/
structure DecInv (u0 u k : Nat) (xs : List Int) : Prop where
  len : xs.length = 20
  lo : 1 ≤ k
  hi : k ≤ 19
  small : u < 10 ^ k
  left : k = 19 ∨ 0 < u
  eq : decL u0 = decL u ++ xs.drop (k + 1)

theorem DecInv.start {u0 : Nat} (h : u0 ≤ 9223372036854775808) : DecInv u0 u0 19 (List.replicate 20 0) :=
  ⟨by simp, by omega, by omega, by have : (10:Nat) ^ 19 = 10000000000000000000 := by decide
                                   omega, .inl rfl, by simp⟩

theorem drop_set_at (xs : List Int) (k : Nat) (d : Int) (h : k < xs.length) : (xs.set k d).drop k = d :: xs.drop (k + 1) := by
  rw [List.drop_eq_getElem_cons (by simpa using h), List.drop_set_of_lt (by omega)]
  simp

theorem DecInv.step {u0 u k : Nat} {xs : List Int} (h : DecInv u0 u k xs) (hu : ¬ u < 10) : DecInv u0 (u / 10) (k - 1) (xs.set k (48 + (u : Int) % 10)) := by
  have h10 : u < 10 ^ k := h.small
  have hk : 2 ≤ k := by
    rcases Nat.lt_or_ge k 2 with h2 | h2
    · have : k = 1 := by have := h.lo; omega
      subst this
      simp at h10
      omega
    · exact h2
  have hp : (10:Nat) ^ k = 10 ^ (k - 1) * 10 := by rw [← Nat.pow_succ]; congr 1; omega
  refine ⟨by simp [h.len], by omega, by have := h.hi; omega, ?_, .inr (by omega), ?_⟩
  · rw [hp] at h10
    omega
  · rw [show k - 1 + 1 = k by omega, drop_set_at _ _ _ (by rw [h.len]; have := h.hi; omega), h.eq, decL_big hu]
    simp

theorem DecInv.done {u0 u k : Nat} {xs : List Int} (h : DecInv u0 u k xs) (hu : u < 10) : (xs.set k (48 + (u : Int) % 10)).drop k = decL u0 := by
  rw [drop_set_at _ _ _ (by rw [h.len]; have := h.hi; omega), h.eq, decL_small hu]
  rw [show (u : Int) % 10 = u by omega]
  rfl

theorem decL_range (u : Nat) : ∀ x ∈ decL u, 48 ≤ x ∧ x ≤ 57 := by
  induction u using Nat.strongRecOn with
  | _ u ih =>
  intro x hx
  by_cases h : u < 10
  · rw [decL_small h] at hx
    simp at hx
    omega
  · rw [decL_big h] at hx
    simp at hx
    rcases hx with hx | hx
    · exact ih (u / 10) (by omega) x hx
    · omega

end Go.Proofs.YtgfkpbjimmofdaaDoor
