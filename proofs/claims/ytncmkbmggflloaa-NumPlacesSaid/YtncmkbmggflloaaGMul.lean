/- The document's product of two numbers of 64 bits comes to the true product, or to the error that there is none. -/
import Derived.Test.YtncmkbmggflloaaProg
import Derived.Test.YtncmkbmggflloaaWMore
import Derived.Lib.Hide
namespace Go.Proofs.Ytncmkbmggflloaa
open Go.RowKit Go.Proofs.YtncmkbmggflloaaW.PrintWords Go.Proofs.YtncmkbmggflloaaW.PrintLast Go.Proofs.YtncmkbmggflloaaW.PrintMore
set_option linter.unusedVariables false
set_option linter.unusedSimpArgs false

/-- The product, if it is a number of 64 bits; else the error. -/
def mulS (a b : Int) : Int × Int := if -9223372036854775808 ≤ a * b ∧ a * b ≤ 9223372036854775807 then (a * b, 0) else (0, 4)
def MulEnd (a b : Int) (e : Ending) : Prop := e = .returned (.tuple #[.int .i64 (mulS a b).1, .int .i64 (mulS a b).2])
theorem wrap64_fits {n : Int} (h0 : -9223372036854775808 ≤ n) (h1 : n ≤ 9223372036854775807) : wrap64 n = n := by unfold wrap64; omega
theorem MulEnd.over {a b : Int} (h : a * b < -9223372036854775808 ∨ 9223372036854775807 < a * b) : MulEnd a b (.returned (.tuple #[.int .i64 0, .int .i64 4])) := by
  unfold MulEnd mulS
  rw [if_neg (by omega)]
theorem MulEnd.fits {a b : Int} (h0 : -9223372036854775808 ≤ a * b) (h1 : a * b ≤ 9223372036854775807) : MulEnd a b (.returned (.tuple #[.int .i64 (wrap64 (a * b)), .int .i64 0])) := by
  unfold MulEnd mulS
  rw [if_pos ⟨h0, h1⟩, wrap64_fits h0 h1]
theorem pp_over {m a b : Int} (hb : 0 < b) (h : m / b < a) : m < a * b := Int.lt_mul_of_ediv_lt hb h
theorem pp_fits {m a b : Int} (hb : 0 < b) (h : a ≤ m / b) : a * b ≤ m := Int.mul_le_of_le_ediv hb h
theorem neg_tdiv_pos {a : Int} (h : 0 < a) (h1 : a ≤ 9223372036854775807) : wrap64 (-Int.tdiv 9223372036854775808 a) = -(9223372036854775808 / a) := by
  rw [Int.tdiv_eq_ediv_of_nonneg (by omega)]
  have h0 : 0 ≤ 9223372036854775808 / a := Int.ediv_nonneg (by omega) (by omega)
  have h2 : 9223372036854775808 / a ≤ 9223372036854775808 := Int.ediv_le_self _ (by omega)
  exact wrap64_fits (by omega) (by omega)
theorem neg_tdiv_neg {b : Int} (h : b < 0) (h1 : -9223372036854775808 < b) : wrap64 (-Int.tdiv 9223372036854775807 b) = 9223372036854775807 / (-b) := by
  obtain ⟨c, rfl⟩ : ∃ c, b = -c := ⟨-b, by omega⟩
  rw [Int.tdiv_neg, Int.tdiv_eq_ediv_of_nonneg (by omega), Int.neg_neg, Int.neg_neg]
  have h0 : 0 ≤ 9223372036854775807 / c := Int.ediv_nonneg (by omega) (by omega)
  have h2 : 9223372036854775807 / c ≤ 9223372036854775807 := Int.ediv_le_self _ (by omega)
  exact wrap64_fits (by omega) (by omega)

section
variable (a b : Int) (w : World)
set_option maxHeartbeats 2000000
theorem refmul_pp (ha0 : 0 < a) (ha1 : a ≤ 9223372036854775807) (hb0 : 0 < b) (hb1 : b ≤ 9223372036854775807) :
    Calls Try.prog 30 #[.int .i64 a, .int .i64 b] w fun e w' => MulEnd a b e ∧ w = w' := by
  have hp := Lib.hid (Int.mul_pos ha0 hb0)
  go_enter Try.func30, Try.ntmps30
  go_wp2
  · have h : 9223372036854775807 / b < a := by assumption
    go_ret2
    exact ⟨.over (.inr (pp_over hb0 h)), rfl⟩
  · have h : a ≤ 9223372036854775807 / b := by assumption
    go_ret2
    exact ⟨.fits (by have := hp.out; omega) (pp_fits hb0 h), rfl⟩
theorem refmul_pn (ha0 : 0 < a) (ha1 : a ≤ 9223372036854775807) (hb0 : b < 0) (hb1 : -9223372036854775808 ≤ b) :
    Calls Try.prog 30 #[.int .i64 a, .int .i64 b] w fun e w' => MulEnd a b e ∧ w = w' := by
  have hp := Lib.hid (Int.mul_pos ha0 (show 0 < -b by omega))
  have e : a * -b = -(a * b) := by rw [Int.mul_neg]
  have e2 : -b * a = -(a * b) := by rw [Int.mul_comm, Int.mul_neg]
  have E := Lib.hid e
  have E2 := Lib.hid e2
  clear e e2
  have t := Lib.hid (neg_tdiv_pos ha0 ha1)
  go_enter Try.func30, Try.ntmps30
  go_wp2
  · have h : b < wrap64 (-Int.tdiv 9223372036854775808 a) := by assumption
    rw [t.out] at h
    go_ret2
    exact ⟨.over (.inl (by have := pp_over (m := 9223372036854775808) (a := -b) ha0 (by omega); rw [E2.out] at this; omega)), rfl⟩
  · have h : wrap64 (-Int.tdiv 9223372036854775808 a) ≤ b := by assumption
    rw [t.out] at h
    go_ret2
    exact ⟨.fits (by have := pp_fits (m := 9223372036854775808) (a := -b) ha0 (by omega); rw [E2.out] at this; omega) (by have := hp.out; rw [E.out] at this; omega), rfl⟩
theorem refmul_np (ha0 : a < 0) (ha1 : -9223372036854775808 ≤ a) (hb0 : 0 < b) (hb1 : b ≤ 9223372036854775807) :
    Calls Try.prog 30 #[.int .i64 a, .int .i64 b] w fun e w' => MulEnd a b e ∧ w = w' := by
  have hp := Lib.hid (Int.mul_pos (show 0 < -a by omega) hb0)
  have e : -a * b = -(a * b) := by rw [Int.neg_mul]
  have E := Lib.hid e
  clear e
  have t := Lib.hid (neg_tdiv_pos hb0 hb1)
  go_enter Try.func30, Try.ntmps30
  go_wp2
  · have h : a < wrap64 (-Int.tdiv 9223372036854775808 b) := by assumption
    rw [t.out] at h
    go_ret2
    exact ⟨.over (.inl (by have := pp_over (m := 9223372036854775808) (a := -a) hb0 (by omega); rw [E.out] at this; omega)), rfl⟩
  · have h : wrap64 (-Int.tdiv 9223372036854775808 b) ≤ a := by assumption
    rw [t.out] at h
    go_ret2
    exact ⟨.fits (by have := pp_fits (m := 9223372036854775808) (a := -a) hb0 (by omega); rw [E.out] at this; omega) (by have := hp.out; rw [E.out] at this; omega), rfl⟩
theorem refmul_nn (ha0 : a < 0) (ha1 : -9223372036854775808 < a) (hb0 : b < 0) (hb1 : -9223372036854775808 < b) :
    Calls Try.prog 30 #[.int .i64 a, .int .i64 b] w fun e w' => MulEnd a b e ∧ w = w' := by
  have hp := Lib.hid (Int.mul_pos (show 0 < -a by omega) (show 0 < -b by omega))
  have e : -a * -b = a * b := by rw [Int.neg_mul_neg]
  have E := Lib.hid e
  clear e
  have t := Lib.hid (neg_tdiv_neg hb0 hb1)
  have h1 : (a == -9223372036854775808) = false := by rw [beq_eq_false_iff_ne]; omega
  have h2 : (b == -9223372036854775808) = false := by rw [beq_eq_false_iff_ne]; omega
  have h3 : ¬ b = 0 := by omega
  go_enter Try.func30, Try.ntmps30
  go_wp2
  · have h : wrap64 (-Int.tdiv 9223372036854775807 b) < -a := by assumption
    rw [t.out] at h
    go_ret2
    exact ⟨.over (.inr (by have := pp_over (m := 9223372036854775807) (a := -a) (b := -b) (by omega) h; rw [E.out] at this; omega)), rfl⟩
  · have h : -a ≤ wrap64 (-Int.tdiv 9223372036854775807 b) := by assumption
    rw [t.out] at h
    go_ret2
    exact ⟨.fits (by have := hp.out; rw [E.out] at this; omega) (by have := pp_fits (m := 9223372036854775807) (a := -a) (b := -b) (by omega) h; rw [E.out] at this; omega), rfl⟩
theorem refmul_least (hb0 : b < 0) (hb1 : -9223372036854775808 ≤ b) :
    Calls Try.prog 30 #[.int .i64 (-9223372036854775808), .int .i64 b] w fun e w' => MulEnd (-9223372036854775808) b e ∧ w = w' := by
  go_enter Try.func30, Try.ntmps30
  go_wp2
  go_ret2
  exact ⟨.over (.inr (by omega)), rfl⟩
theorem refmul_least2 (ha0 : a < 0) (ha1 : -9223372036854775808 < a) :
    Calls Try.prog 30 #[.int .i64 a, .int .i64 (-9223372036854775808)] w fun e w' => MulEnd a (-9223372036854775808) e ∧ w = w' := by
  have h1 : (a == -9223372036854775808) = false := by rw [beq_eq_false_iff_ne]; omega
  go_enter Try.func30, Try.ntmps30
  go_wp2
  go_ret2
  exact ⟨.over (.inr (by omega)), rfl⟩
theorem refmul_z1 : Calls Try.prog 30 #[.int .i64 0, .int .i64 b] w fun e w' => MulEnd 0 b e ∧ w = w' := by
  have hf := Lib.hid (MulEnd.fits (a := 0) (b := b) (by simp) (by simp))
  go_enter Try.func30, Try.ntmps30
  go_wp2
  go_ret2
  exact ⟨by have := hf.out; rw [Int.zero_mul, show wrap64 0 = 0 by unfold wrap64; omega] at this; exact this, rfl⟩
theorem refmul_z2 : Calls Try.prog 30 #[.int .i64 a, .int .i64 0] w fun e w' => MulEnd a 0 e ∧ w = w' := by
  have hf := Lib.hid (MulEnd.fits (a := a) (b := 0) (by simp) (by simp))
  go_enter Try.func30, Try.ntmps30
  go_wp2
  all_goals
    go_ret2
    exact ⟨by have := hf.out; rw [Int.mul_zero, show wrap64 0 = 0 by unfold wrap64; omega] at this; exact this, rfl⟩
end

theorem refmul_any (a b : Int) (w : World) (ha0 : -9223372036854775808 ≤ a) (ha1 : a ≤ 9223372036854775807) (hb0 : -9223372036854775808 ≤ b) (hb1 : b ≤ 9223372036854775807) :
    Calls Try.prog 30 #[.int .i64 a, .int .i64 b] w fun e w' => MulEnd a b e ∧ w = w' := by
  rcases Int.lt_trichotomy a 0 with ha | rfl | ha
  · rcases Int.lt_trichotomy b 0 with hb | rfl | hb
    · by_cases ea : a = -9223372036854775808
      · subst ea; exact refmul_least b w hb hb0
      · by_cases eb : b = -9223372036854775808
        · subst eb; exact refmul_least2 a w ha (by omega)
        · exact refmul_nn a b w ha (by omega) hb (by omega)
    · exact refmul_z2 a w
    · exact refmul_np a b w ha ha0 hb hb1
  · exact refmul_z1 b w
  · rcases Int.lt_trichotomy b 0 with hb | rfl | hb
    · exact refmul_pn a b w ha ha1 hb hb0
    · exact refmul_z2 a w
    · exact refmul_pp a b w ha ha1 hb hb1

/-- The product of two numbers of 64 bits; of any others nothing is told. -/
def placketref01_Mul.f (a0 : Int) (a1 : Int) : Option (Int × Int) := if (-9223372036854775808 ≤ a0 ∧ a0 ≤ 9223372036854775807) ∧ -9223372036854775808 ≤ a1 ∧ a1 ≤ 9223372036854775807 then some (mulS a0 a1) else none
theorem placketref01_Mul.calls (a0 : Int) (a1 : Int) (r1 : Int) (r2 : Int) (w : World) (h : placketref01_Mul.f a0 a1 = some (r1, r2)) :
    Calls Try.prog 30 #[.int .i64 a0, .int .i64 a1] w fun e w' => e = .returned (.tuple #[.int .i64 r1, .int .i64 r2]) ∧ Drawn0 w w' := by
  unfold placketref01_Mul.f at h
  split at h
  · rename_i hb
    have h' := Option.some.inj h
    refine (refmul_any a0 a1 w hb.1.1 hb.1.2 hb.2.1 hb.2.2).mono ?_
    rintro e w' ⟨he, rfl⟩
    unfold MulEnd at he
    rw [h'] at he
    exact ⟨he, Drawn0.refl _⟩
  · cases h

end Go.Proofs.Ytncmkbmggflloaa
