/- FaultBare: the walk of the law by contracts. -/
import Derived.Test.YtgfkpbjimmofdaaDoorFaultKeptW
import Derived.Test.YtgfkpbjimmofdaaDoorFaultOuterW
import Derived.Test.YtgfkpbjimmofdaaDoorFaultNone
namespace Go.Proofs.YtgfkpbjimmofdaaDoor
open Go.RowKit Go.Proofs.YtgfkpbjimmofdaaDoor.PA Go.Proofs.YtgfkpbjimmofdaaDoorW.PrintWords Go.Proofs.YtgfkpbjimmofdaaDoorW.PrintLast Go.Proofs.YtgfkpbjimmofdaaDoorW.PrintMore
set_option linter.unusedVariables false
set_option linter.unusedSimpArgs false

set_option maxHeartbeats 1000000 in
set_option maxRecDepth 100000 in
theorem bare_walk (at_ out : Int) (w : World) (hg : Laid w) (hat : Pure.InI at_) (hout : Pure.InI out) :
    Calls Tryd.prog 8 #[.int .i64 at_, .int .i64 out] w fun e w' => e = .returned (.bool true) ∧ Below w.heap.size w w' := by
  have HG := Lib.hid hg
  have HAT := Lib.hid hat
  have HOUT := Lib.hid hout
  clear hg hat hout
  go_enter Tryd.func8, Tryd.ntmps8
  go_wp2_with fail
  refine (live_calls w HG.out).mono ?_
  rintro e w1 ⟨rfl, hb1⟩
  have HB1 := Lib.hid (below_alloc hb1 (.cells #[.int .i64 at_, .nilIface] 47))
  have HE1 := Lib.hid (show Err (w1.alloc (.cells #[.int .i64 at_, .nilIface] 47)) (.iface 42 (.pointer (some ⟨w1.heap.size, 0, none⟩))) [at_] none from ⟨_, _, rfl, by simp, by simp, rfl⟩)
  have HU1 := Lib.hid (show (w1.alloc (.cells #[.int .i64 at_, .nilIface] 47)).cell? ⟨w1.heap.size, 1, none⟩ = some .nilIface by simp)
  clear hb1
  go_wp2_with fail
  generalize hw1 : w1.alloc (.cells #[.int .i64 at_, .nilIface] 47) = w2 at *
  clear hw1
  generalize hn1 : w1.heap.size = n at *
  clear hn1
  refine (in_calls out _ _ _ _ HE1.out (.inl (by simp))).mono ?_
  rintro e w3 ⟨b, rfl, ha, hu, he3, hb3⟩
  have HE3 := Lib.hid (show Err w3 (.iface 42 (.pointer (some ⟨b, 0, none⟩))) [out, at_] none from ⟨b, _, rfl, ha, hu, he3⟩)
  have HB3 := Lib.hid (below_then HB1.out HB1.out.size hb3)
  have HU3 := Lib.hid (pw_cell_below hb3 HU1.out)
  clear ha hu he3 hb3
  go_wp2_with fail
  refine (code_bare [out, at_] (by simp) _ w3 (HG.out.below HB3.out (Nat.le_refl _)) HE3.out).mono ?_
  rintro e w4 ⟨rfl, hb4⟩
  have HE4 := Lib.hid (HE3.out.below hb4 (Nat.le_refl _))
  have HB4 := Lib.hid (below_then HB3.out HB3.out.size hb4)
  have HU4 := Lib.hid (pw_cell_below hb4 HU3.out)
  clear hb4
  go_wp2_with fail
  refine (has_bare 19 [out, at_] (by simp) _ w4 HE4.out).mono ?_
  rintro e w5 ⟨rfl, rfl⟩
  go_wp2_with fail
  refine (where_n (l := [out, at_]) (n := 2) rfl none _ _ (HG.out.below HB4.out (Nat.le_refl _)) HE4.out (by decide)).mono ?_
  rintro e w6 ⟨B6, c6, rfl, hc6, hC6, hb6⟩
  have HE6 := Lib.hid (HE4.out.below hb6 (Nat.le_refl _))
  have HB6 := Lib.hid (below_then HB4.out HB4.out.size hb6)
  have HU6 := Lib.hid (pw_cell_below hb6 HU4.out)
  have HC6 := Lib.hid hC6
  clear hb6 hC6
  obtain ⟨ks, hs⟩ := Pure.same_ev [out, at_] [out, at_] (by simp)
  have HS := Lib.hid (hs ks (Nat.le_refl _))
  clear hs
  go_wp2_with fail
  refine (same_calls (Kd.C_alloc HC6.out _) (C_new2 w6 out at_ 3) hc6 (by decide) HS.out).mono ?_
  rintro e w7 ⟨rfl, ⟨nd, rfl⟩⟩
  have hq := pw_below_drewN (below_alloc (Below.refl w6.heap.size w6) (.cells #[.int .i64 out, .int .i64 at_] 3)) nd
  have HE7 := Lib.hid (HE6.out.below hq (Nat.le_refl _))
  have HB7 := Lib.hid (below_then HB6.out HB6.out.size hq)
  have HU7 := Lib.hid (pw_cell_below hq HU6.out)
  clear hq
  generalize (w6.alloc (.cells #[.int .i64 out, .int .i64 at_] 3)).drewN nd = w7 at *
  go_wp2_with fail
  refine (last_nil _ (HG.out.below HB7.out (Nat.le_refl _))).mono ?_
  rintro e w8 ⟨rfl, hb8⟩
  have HE8 := Lib.hid (HE7.out.below hb8 (Nat.le_refl _))
  have HB8 := Lib.hid (below_then HB7.out HB7.out.size hb8)
  have HU8 := Lib.hid (pw_cell_below hb8 HU7.out)
  clear hb8
  have HI8 := Lib.hid (show ∀ n ∈ [out, at_], Pure.InI n from by
    intro n hn
    simp only [List.mem_cons, List.not_mem_nil, or_false] at hn
    rcases hn with rfl | rfl
    · exact HOUT.out
    · exact HAT.out)
  go_wp2_with fail
  refine (text_of 19 [out, at_] none _ w8 (.inl (by simp)) (fun w1 h1 h2 => code_bare [out, at_] (by simp) _ w1 h1 h2) (HG.out.below HB8.out (Nat.le_refl _)) HE8.out ⟨by decide, by decide⟩ HI8.out (by simp)).mono ?_
  rintro e w9 ⟨rfl, hb9⟩
  have HB9 := Lib.hid (below_then HB8.out HB8.out.size hb9)
  have HU9 := Lib.hid (pw_cell_below hb9 HU8.out)
  clear hb9
  obtain ⟨kx, hx⟩ := Pure.text_ev false 0 [out, at_] ⟨by decide, by decide⟩ HI8.out (by simp) (.inr (by simp))
  have HXT := Lib.hid (hx kx (Nat.le_refl _))
  clear hx
  generalize hst : Pure.atS ((⟨#[101, 114, 114, 111, 114, 32]⟩ : ByteArray) ++ strOfNums (digL 19)) [out, at_] = st at *
  have HST := Lib.hid (show Pure.textS false 0 [out, at_] = st from hst)
  clear hst
  go_wp2_with fail
  refine (ctext_calls (C_new2 w9 out at_ 3) (by decide) HXT.out).mono ?_
  rintro e w10 ⟨rfl, hb10⟩
  rw [HST.out]
  have HB10 := Lib.hid (below_then (below_alloc HB9.out (.cells #[.int .i64 out, .int .i64 at_] 3)) (below_alloc HB9.out (.cells #[.int .i64 out, .int .i64 at_] 3)).size hb10)
  have HU10 := Lib.hid (pw_cell_below hb10 (pw_cell_below (below_alloc (Below.refl w9.heap.size w9) (.cells #[.int .i64 out, .int .i64 at_] 3)) HU9.out))
  clear hb10
  go_wp2_with fail
  refine (unwrap_calls n _ _ HU10.out).mono ?_
  rintro e w11 ⟨rfl, rfl⟩
  go_wp2_with fail
  refine (unwrap_none _).mono ?_
  rintro e w11 ⟨rfl, rfl⟩
  go_wp2_with fail
  refine (where_n (l := []) (n := 0) rfl none .nilIface _ (HG.out.below HB10.out (Nat.le_refl _)) rfl (by decide)).mono ?_
  rintro e w12 ⟨B12, c12, rfl, hc12, hC12, hb12⟩
  have HB12 := Lib.hid (below_then HB10.out HB10.out.size hb12)
  clear hb12 hC12
  go_wp2_with fail
  refine (code_nil _).mono ?_
  rintro e w13 ⟨rfl, rfl⟩
  go_wp2_with fail
  refine (has_nil 0 _).mono ?_
  rintro e w13 ⟨rfl, rfl⟩
  go_wp2
  go_ret
  exact ⟨by simp, HB12.out⟩
end Go.Proofs.YtgfkpbjimmofdaaDoor
