/- FaultFound: the walk of the law by contracts. -/
import Derived.Test.YtgfkpbjimmofdaaDoorFaultLive
import Derived.Test.YtgfkpbjimmofdaaDoorFaultIs
namespace Go.Proofs.YtgfkpbjimmofdaaDoor
open Go.RowKit Go.Proofs.YtgfkpbjimmofdaaDoor.PA Go.Proofs.YtgfkpbjimmofdaaDoorW.PrintWords Go.Proofs.YtgfkpbjimmofdaaDoorW.PrintLast Go.Proofs.YtgfkpbjimmofdaaDoorW.PrintMore
set_option linter.unusedVariables false
set_option linter.unusedSimpArgs false
set_option maxHeartbeats 4000000 in
theorem found_walk (code other at_ : Int) (A : Option Addr) (cap : Nat) (l : List Int) (w : World) (hg : Laid w) (hc : Kd.C (Kd.int .i64) w A l.length l) (hcap : l.length ≤ cap) (hin : ∀ n ∈ l, Pure.InI n) (hlen : l.length ≤ 140737488351232) :
    Calls Tryd.prog 6 #[.int .i64 code, .int .i64 other, .int .i64 at_, .slice A l.length cap] w fun e w' => e = .returned (.bool true) ∧ Below w.heap.size w w' := by
  have HG := Lib.hid hg
  have HC := Lib.hid hc
  clear hg hc hin
  go_enter Tryd.func6, Tryd.ntmps6
  go_wp2_with fail
  refine (live_calls w HG.out).mono ?_
  rintro e w1 ⟨rfl, hb1⟩
  have HB1 := Lib.hid hb1
  have HC1 := Lib.hid (Kd.C_below HC.out hb1)
  clear hb1
  by_cases hbig : (l.length : Int) > 100
  · go_wp2_with fail
    refine (live_calls w1 (HG.out.below HB1.out (Nat.le_refl _))).mono ?_
    rintro e w2 ⟨rfl, hb2⟩
    have HB2 := Lib.hid (below_then HB1.out HB1.out.size hb2)
    clear hb2
    go_wp2
    go_ret
    exact ⟨rfl, HB2.out⟩
  · by_cases h0 : code = 0
    · subst h0
      go_wp2_with fail
      refine (live_calls w1 (HG.out.below HB1.out (Nat.le_refl _))).mono ?_
      rintro e w2 ⟨rfl, hb2⟩
      have HB2 := Lib.hid (below_then HB1.out HB1.out.size hb2)
      clear hb2
      go_wp2
      go_ret
      exact ⟨rfl, HB2.out⟩
    · have h1 : (code == 0) = false := beq_eq_false_iff_ne.2 h0
      go_wp2_with fail
      refine (made_calls code at_ A cap l w1 h0 HC1.out hcap hlen).mono ?_
      rintro e w2 ⟨v, rfl, he2, hb2⟩
      have HE2 := Lib.hid he2
      have HB2 := Lib.hid (below_then HB1.out HB1.out.size hb2)
      clear he2 hb2
      go_wp2_with fail
      refine (is_calls code other _ v w2 HE2.out).mono ?_
      rintro e w3 ⟨rfl, rfl⟩
      go_wp2
      go_ret
      exact ⟨by simp, HB2.out⟩
end Go.Proofs.YtgfkpbjimmofdaaDoor
