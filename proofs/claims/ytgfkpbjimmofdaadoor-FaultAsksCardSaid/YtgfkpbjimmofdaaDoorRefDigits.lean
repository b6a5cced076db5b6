/- The document's digits and parsing come to the same as the program's: laws on lists of bytes. -/
import Derived.Test.YtgfkpbjimmofdaaDoorBytesPure
import Derived.Test.YtgfkpbjimmofdaaDoorGDec
namespace Go.Proofs.YtgfkpbjimmofdaaDoor.Pure
open Go.RowKit Go.Proofs.YtgfkpbjimmofdaaDoor.PA Go.Proofs.YtgfkpbjimmofdaaDoorW.PrintWords Go.Proofs.YtgfkpbjimmofdaaDoorW.PrintLast

theorem strOfNums_append (xs ys : List Int) : strOfNums (xs ++ ys) = strOfNums xs ++ strOfNums ys := by
  apply ByteArray.ext
  simp [strOfNums, ByteArray.data_append]
theorem decL_length (k : Nat) : ∀ u, u < 10 ^ (k + 1) → (decL u).length ≤ k + 1 := by
  induction k with
  | zero => intro u h; rw [decL_small (by simpa using h)]; simp
  | succ k ih =>
    intro u h
    by_cases hu : u < 10
    · rw [decL_small hu]; simp
    · have := ih (u / 10) (by rw [Nat.pow_succ] at h; omega)
      rw [decL_big hu]
      simp
      omega
theorem decL_len (u : Nat) (h : u ≤ 9223372036854775808) : (decL u).length ≤ 19 := by
  have e : (10 : Nat) ^ 19 = 10000000000000000000 := by decide
  exact decL_length 18 u (by omega)

theorem refDigits_pos (u : Nat) (h : u ≤ 9223372036854775807) : Ev (fun k => placketref01_Digits.f k (u : Int)) (strOfNums (decL u)) := by
  induction u using Nat.strongRecOn with
  | _ u ih =>
  by_cases hu : u < 10
  · refine Ev.step (f := fun _ => some (strOfNums [48 + (u : Int)])) (fun k => ?_) ?_
    · simp only [placketref01_Digits.f]
      rw [if_neg (by omega), if_neg (by omega), if_pos (by omega), w64 (by omega) (by omega), show (48 + (u : Int)) % 256 = 48 + (u : Int) by omega]
    · rw [decL_small hu]
      exact Ev.now _
  · have ih := ih (u / 10) (by omega) (by omega)
    refine Ev.step (f := fun k => (placketref01_Digits.f k ((u / 10 : Nat) : Int)).bind fun t => if t.size + (strOfNums [48 + (u : Int) % 10]).size ≤ 9223372036854775807 then some (t ++ strOfNums [48 + (u : Int) % 10]) else none) (fun k => ?_) ?_
    · simp only [placketref01_Digits.f]
      rw [if_neg (by omega), if_neg (by omega), if_neg (by omega), Int.tdiv_eq_ediv_of_nonneg (by omega), Int.tmod_eq_emod_of_nonneg (by omega), w64 (by omega) (by omega), w64 (by omega) (by omega), show (48 + (u : Int) % 10) % 256 = 48 + (u : Int) % 10 by omega]
      rw [show (u : Int) / 10 = ((u / 10 : Nat) : Int) by omega]
      simp only [Option.bind_some]
    · rw [decL_big hu, strOfNums_append]
      refine Ev.bind ih ?_
      refine Ev.congr (f := fun _ => some (strOfNums (decL (u / 10)) ++ strOfNums [48 + (u : Int) % 10])) (fun k => ?_) (Ev.now _)
      have := decL_len (u / 10) (by omega)
      rw [if_pos]
      rw [strOfNums_size, strOfNums_size]
      simp
      omega

theorem refDigits_ev (n : Int) (h0 : -9223372036854775808 ≤ n) (h1 : n ≤ 9223372036854775807) : Ev (fun k => placketref01_Digits.f k n) (strOfNums (digL n)) := by
  unfold digL
  by_cases hl : n = -9223372036854775808
  · subst hl
    refine Ev.step (f := fun _ => some (⟨#[45, 57, 50, 50, 51, 51, 55, 50, 48, 51, 54, 56, 53, 52, 55, 55, 53, 56, 48, 56]⟩ : ByteArray)) (fun k => ?_) ?_
    · simp only [placketref01_Digits.f]
      rw [if_pos trivial]
    · have e : strOfNums (if (-9223372036854775808 : Int) < 0 then 45 :: decL (-9223372036854775808 : Int).natAbs else decL (-9223372036854775808 : Int).natAbs) = (⟨#[45, 57, 50, 50, 51, 51, 55, 50, 48, 51, 54, 56, 53, 52, 55, 55, 53, 56, 48, 56]⟩ : ByteArray) := by kernel_rfl
      rw [e]
      exact Ev.now _
  · by_cases hn : n < 0
    · rw [if_pos hn]
      have := refDigits_pos n.natAbs (by omega)
      refine Ev.step (f := fun k => (placketref01_Digits.f k (n.natAbs : Int)).bind fun t => if 1 + t.size ≤ 9223372036854775807 then some ((⟨#[45]⟩ : ByteArray) ++ t) else none) (fun k => ?_) ?_
      · simp only [placketref01_Digits.f]
        rw [if_neg hl, if_pos hn, w64 (by omega) (by omega), show -n = (n.natAbs : Int) by omega]
      · refine Ev.bind this ?_
        refine Ev.congr (f := fun _ => some (strOfNums (45 :: decL n.natAbs))) (fun k => ?_) (Ev.now _)
        have := decL_len n.natAbs (by omega)
        rw [if_pos (by rw [strOfNums_size]; omega)]
        rw [show (45 :: decL n.natAbs) = [45] ++ decL n.natAbs from rfl, strOfNums_append]
        rfl
    · rw [if_neg hn]
      have := refDigits_pos n.natAbs (by omega)
      rw [show (n.natAbs : Int) = n by omega] at this
      exact this
end Go.Proofs.YtgfkpbjimmofdaaDoor.Pure
