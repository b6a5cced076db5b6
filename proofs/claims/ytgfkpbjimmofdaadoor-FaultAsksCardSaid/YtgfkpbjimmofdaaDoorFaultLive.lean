/- The chapter's examples hold: a walk by contracts. -/
import Derived.Test.YtgfkpbjimmofdaaDoorFaultW2
namespace Go.Proofs.YtgfkpbjimmofdaaDoor
open Go.RowKit Go.Proofs.YtgfkpbjimmofdaaDoor.PA Go.Proofs.YtgfkpbjimmofdaaDoorW.PrintWords Go.Proofs.YtgfkpbjimmofdaaDoorW.PrintLast Go.Proofs.YtgfkpbjimmofdaaDoorW.PrintMore
set_option linter.unusedVariables false
set_option linter.unusedSimpArgs false

theorem C_new2 (w : World) (a b : Int) (t : TypeId) : Kd.C (Kd.int .i64) (w.alloc (.cells #[.int .i64 a, .int .i64 b] t)) (some ⟨w.heap.size, 0, none⟩) 2 [a, b] := by
  refine Kd.C_of_reads (d := (0 : Int)) ⟨rfl, by decide, fun _ => ⟨_, rfl, fun i hi => ?_⟩⟩
  match i, hi with
  | 0, _ => simp [Addr.add]
  | 1, _ => simp [Addr.add]
theorem same_calls {k : Nat} {l m : List Int} {A B : Option Addr} {n1 n2 c1 c2 : Nat} {w : World} {r : Bool} (h1 : Kd.C (Kd.int .i64) w A n1 l) (h2 : Kd.C (Kd.int .i64) w B n2 m) (hc1 : n1 ≤ c1) (hc2 : n2 ≤ c2) (h : placketref04_Same.f k l m = some r) :
    Calls Tryd.prog 15 #[.slice A n1 c1, .slice B n2 c2] w fun e w' => e = .returned (.bool r) ∧ Drawn0 w w' := by
  obtain rfl := Kd.C_len h1
  obtain rfl := Kd.C_len h2
  exact placketref04_Same.calls k A c1 l B c2 m r w h1 hc1 h2 hc2 h

theorem text_live : Pure.atS ((⟨#[101, 114, 114, 111, 114, 32]⟩ : ByteArray) ++ strOfNums (digL 2)) [7, 3] = (⟨#[101, 114, 114, 111, 114, 32, 50, 32, 97, 116, 32, 55, 32, 97, 116, 32, 51]⟩ : ByteArray) := by kernel_rfl
set_option maxHeartbeats 4000000 in
theorem live_calls (w : World) (hg : Laid w) : Calls Tryd.prog 9 #[] w fun e w' => e = .returned (.bool true) ∧ Below w.heap.size w w' := by
  have HG := Lib.hid hg
  clear hg
  go_enter Tryd.func9, Tryd.ntmps9
  go_wp2_with fail
  refine (new_calls 2 3 w (by decide)).mono ?_
  rintro e w1 ⟨v1, rfl, he1, hb1⟩
  have HE1 := Lib.hid he1
  have HB1 := Lib.hid hb1
  clear he1 hb1
  go_wp2_with fail
  refine (in_calls 7 v1 [3] (some 2) w1 HE1.out (.inl (by simp))).mono ?_
  rintro e w2 ⟨b, rfl, ha, hu, he2, hb2⟩
  have HE2 := Lib.hid (show Err w2 (.iface 42 (.pointer (some ⟨b, 0, none⟩))) ([7] ++ [3]) (some 2) from ⟨b, _, rfl, ha, hu, he2⟩)
  have HB2 := Lib.hid (below_then HB1.out HB1.out.size hb2)
  clear ha hu he2 hb2
  go_wp2_with fail
  refine (last_calls 3 [7] (some 2) _ w2 (HG.out.below HB2.out (Nat.le_refl _)) HE2.out (by decide)).mono ?_
  rintro e w3 ⟨rfl, hb3⟩
  have HE3 := Lib.hid (HE2.out.below hb3 (Nat.le_refl _))
  have HB3 := Lib.hid (below_then HB2.out HB2.out.size hb3)
  clear hb3
  go_wp2_with fail
  refine (text_of 2 [7, 3] (some 2) _ w3 (.inl (by simp)) (fun w1 h1 h2 => code_some 2 [7, 3] _ w1 h1 h2) (HG.out.below HB3.out (Nat.le_refl _)) HE3.out ⟨by decide, by decide⟩ (by simp [Pure.InI]) (by decide)).mono ?_
  rintro e w4 ⟨rfl, hb4⟩
  rw [text_live]
  have HE4 := Lib.hid (HE3.out.below hb4 (Nat.le_refl _))
  have HB4 := Lib.hid (below_then HB3.out HB3.out.size hb4)
  clear hb4
  go_wp2_with fail
  refine (code_some 2 [7, 3] _ w4 (HG.out.below HB4.out (Nat.le_refl _)) HE4.out).mono ?_
  rintro e w5 ⟨rfl, hb5⟩
  have HE5 := Lib.hid (HE4.out.below hb5 (Nat.le_refl _))
  have HB5 := Lib.hid (below_then HB4.out HB4.out.size hb5)
  clear hb5
  go_wp2_with fail
  refine (where_calls [7, 3] (some 2) _ w5 (HG.out.below HB5.out (Nat.le_refl _)) HE5.out (by decide)).mono ?_
  rintro e w6 ⟨v', rfl, hR, hb6⟩
  obtain ⟨A, cap, rfl, hcap, hC⟩ := Kd.R_reads hR
  have HC6 := Lib.hid hC
  have HB6 := Lib.hid (below_then HB5.out HB5.out.size hb6)
  clear hR hC hb6
  obtain ⟨k, hs⟩ := Pure.same_ev [7, 3] [7, 3] (by decide)
  have HS := Lib.hid (hs k (Nat.le_refl _))
  clear hs
  go_wp2_with fail
  refine (same_calls (Kd.C_alloc HC6.out _) (C_new2 w6 7 3 3) hcap (by decide) HS.out).mono ?_
  rintro e w7 ⟨rfl, ⟨nd, rfl⟩⟩
  have HB7 := Lib.hid (pw_below_drewN (below_alloc HB6.out (.cells #[.int .i64 7, .int .i64 3] 3)) nd)
  go_wp2_with fail
  refine (new_nil 5 _).mono ?_
  rintro e w8 ⟨rfl, rfl⟩
  go_wp2_with fail
  refine (text_nil _).mono ?_
  rintro e w8 ⟨rfl, rfl⟩
  go_wp2
  go_ret
  exact ⟨rfl, HB7.out⟩
end Go.Proofs.YtgfkpbjimmofdaaDoor
