/- Which of two texts is ahead: by the order of their bytes. -/
import Derived.Test.YtdalplbgbgciiaaProg
import Derived.Test.YtdalplbgbgciiaaWMore
import Derived.Lib.Hide
import Derived.WalkLawsBesides
namespace Go.Proofs.Ytdalplbgbgciiaa
open Go.RowKit Go.Proofs.YtdalplbgbgciiaaW.PrintWords Go.Proofs.YtdalplbgbgciiaaW.PrintLast Go.Proofs.YtdalplbgbgciiaaW.PrintMore
set_option linter.unusedVariables false
set_option linter.unusedSimpArgs false

/-- Which of two texts is ahead. -/
def quote_Order.f (a0 : ByteArray) (a1 : ByteArray) : Option Int := some (if Op.bytesLess a0.toList a1.toList = true then -1 else if a0.toList = a1.toList then 0 else 1)
theorem quote_Order.calls (a0 : ByteArray) (a1 : ByteArray) (r : Int) (w : World) (h : quote_Order.f a0 a1 = some r) :
    Calls Try.prog 11 #[.string a0, .string a1] w fun e w' => e = .returned (.int .i64 r) ∧ Drawn0 w w' := by
  have H := Option.some.inj h
  clear h
  by_cases h1 : Op.bytesLess a0.toList a1.toList = true
  · rw [if_pos h1] at H
    subst H
    go_enter Try.func11, Try.ntmps11
    go_wp2
    go_ret
    exact ⟨rfl, Drawn0.refl _⟩
  · rw [if_neg h1] at H
    have h1' : Op.bytesLess a0.toList a1.toList = false := by simpa using h1
    clear h1
    by_cases h2 : a0.toList = a1.toList
    · rw [if_pos h2] at H
      subst H
      have h2' : (a0.toList == a1.toList) = true := beq_iff_eq.2 h2
      clear h2
      go_enter Try.func11, Try.ntmps11
      go_wp2
      go_ret
      exact ⟨rfl, Drawn0.refl _⟩
    · rw [if_neg h2] at H
      subst H
      have h2' : (a0.toList == a1.toList) = false := beq_eq_false_iff_ne.2 h2
      clear h2
      go_enter Try.func11, Try.ntmps11
      go_wp2
      go_ret
      exact ⟨rfl, Drawn0.refl _⟩

end Go.Proofs.Ytdalplbgbgciiaa
