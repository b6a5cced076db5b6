/- LexAll: the walk of the law by contracts. -/
import Derived.Test.YtkbjblhompkdkaaDoorLexAllLemmas
import Derived.Test.YtkbjblhompkdkaaDoorLexDoc
namespace Go.Proofs.YtkbjblhompkdkaaDoor
open Go.RowKit Go.Proofs.YtkbjblhompkdkaaDoor.PA Go.Proofs.YtkbjblhompkdkaaDoorW.PrintWords Go.Proofs.YtkbjblhompkdkaaDoorW.PrintLast Go.Proofs.YtkbjblhompkdkaaDoorW.PrintMore
set_option linter.unusedVariables false
set_option linter.unusedSimpArgs false

theorem same_loop (L : List S24) (hL : L.length ≤ 140737488351232) (d : Nat) : ∀ i : Nat, i ≤ L.length → L.length - i = d → Ev (fun k => placketref13_Same.l0 k L L (L.length : Int) (i : Int)) true := by
  induction d with
  | zero =>
    intro i hi hd
    refine Pure.Ev.succ ?_
    refine Ev.congr (f := fun _ => some true) (fun k => ?_) (Ev.now _)
    simp only [placketref13_Same.l0]
    rw [if_neg (by omega)]
  | succ d ih =>
    intro i hi hd
    refine Pure.Ev.succ ?_
    refine Ev.congr (fun k => ?_) (ih (i + 1) (by omega) (by omega))
    simp only [placketref13_Same.l0]
    rw [if_pos (by omega), if_pos (by omega), if_pos (by omega), if_pos (by omega), if_neg (by simp), Pure.i_next (n := L.length) (by omega) hL]
theorem same_ev (L : List S24) (hL : L.length ≤ 140737488351232) : Ev (fun k => placketref13_Same.f k L L) true := by
  unfold placketref13_Same.f
  simp only [if_true]
  exact same_loop L hL _ 0 (Nat.zero_le _) rfl
theorem same_c {k n c0 c1 : Nat} {A0 A1 : Option Addr} {l : List S24} {w : World} (hl : l.length = n) (h0 : Kd.C k24 w A0 n l) (hc0 : n ≤ c0) (h1 : Kd.C k24 w A1 n l) (hc1 : n ≤ c1) (h : placketref13_Same.f k l l = some true) :
    Calls Tryd.prog 21 #[.slice A0 n c0, .slice A1 n c1] w fun e w' => e = .returned (.bool true) ∧ Drawn0 w w' := by
  subst hl
  exact placketref13_Same.calls k A0 c0 l A1 c1 l true w h0 hc0 h1 hc1 h
set_option maxRecDepth 100000 in
set_option maxHeartbeats 4000000 in
theorem lexAll_walk (s : ByteArray) (w : World) (hs : Signs w) (hg : Laid w) (hsz : s.size ≤ 140737488351232) :
    Calls Tryd.prog 4 #[.string s] w fun e w' => e = .returned (.bool true) ∧ Below w.heap.size w w' := by
  have HS := Lib.hid hs
  have HG := Lib.hid hg
  clear hs hg
  obtain ⟨k, hk⟩ := refall_ev s hsz
  have hk' := hk k (Nat.le_refl _)
  clear hk
  go_enter Tryd.func4, Tryd.ntmps4
  go_wp2_with fail
  refine (live_calls w HS.out HG.out).mono ?_
  rintro e w1 ⟨rfl, hb1⟩
  have HB1 := Lib.hid hb1
  clear hb1
  by_cases hbig : (s.size : Int) > 3000
  · go_wp2_with fail
    refine (live_calls _ (HS.out.below HB1.out (Nat.le_refl _)) (HG.out.below HB1.out (Nat.le_refl _))).mono ?_
    rintro e w2 ⟨rfl, hb2⟩
    have HB2 := Lib.hid (below_then HB1.out HB1.out.size hb2)
    clear hb2
    go_wp2
    go_ret
    exact ⟨rfl, HB2.out⟩
  have HR := Lib.hid hk'
  clear hk'
  go_wp2_with fail
  refine (all_calls s w1 (HS.out.below HB1.out (Nat.le_refl _)) hsz).mono ?_
  rintro e w2 ⟨hpost, hb2⟩
  have HB2 := Lib.hid (below_then HB1.out HB1.out.size hb2)
  clear hb2
  cases hr : allR (bytesOf s) with
  | inl ts =>
    have hts := (allR_ok hr).2.1
    rw [bytesOf_length] at hts
    rw [hr] at hpost
    obtain ⟨ks, hks⟩ := same_ev (ts.map tokS) (by rw [List.length_map]; omega)
    have HSM := Lib.hid (hks ks (Nat.le_refl _))
    have HR2 := Lib.hid (show placketref13_All.f k s = some (ts.map tokS, 0, 0) by rw [HR.out, hr]; rfl)
    clear hks hr HR
    obtain ⟨A, c, rfl, hc, hC⟩ := hpost
    have HC := Lib.hid hC
    clear hC
    go_wp2_with fail
    refine (placketref13_All.calls k s _ _ _ w2 HR2.out).mono ?_
    rintro e w3 ⟨v3, rfl, hR3, hb3⟩
    obtain ⟨A3, c3, rfl, hc3, hC3⟩ := Kd.R_reads hR3
    rw [List.length_map] at hc3 hC3
    have HB3 := Lib.hid (below_then HB2.out HB2.out.size hb3)
    have HC3 := Lib.hid hC3
    have HD3 := Lib.hid (Kd.C_below HC.out hb3)
    clear hb3 hR3 hC3
    go_wp2_with fail
    refine (same_c (List.length_map _) HD3.out hc HC3.out hc3 HSM.out).mono ?_
    rintro e w4 ⟨rfl, hd⟩
    have HB4 := Lib.hid (below_then HB3.out HB3.out.size (drawn_below hd))
    clear hd
    go_wp2_with fail
    refine (at_nil 0 _).mono ?_
    rintro e w6 ⟨rfl, rfl⟩
    go_wp2
    go_ret
    exact ⟨rfl, HB4.out⟩
  | inr qc =>
    obtain ⟨q, c⟩ := qc
    have HC0 := Lib.hid (allR_bad hr).2
    rw [hr] at hpost
    obtain ⟨ks, hks⟩ := same_ev [] (by simp)
    have HSM := Lib.hid (hks ks (Nat.le_refl _))
    have HR2 := Lib.hid (show placketref13_All.f k s = some ([], (q : Int), c) by rw [HR.out, hr]; rfl)
    clear hks hr HR
    obtain ⟨v, rfl, he2⟩ := hpost
    obtain ⟨T, x, rfl⟩ := he2.iface (.inl (by simp))
    have HE2 := Lib.hid he2
    clear he2
    go_wp2_with fail
    refine (placketref13_All.calls k s _ _ _ w2 HR2.out).mono ?_
    rintro e w3 ⟨v3, rfl, hR3, hb3⟩
    obtain ⟨A3, c3, rfl, hc3, hC3⟩ := Kd.R_reads hR3
    have HB3 := Lib.hid (below_then HB2.out HB2.out.size hb3)
    have HE3 := Lib.hid (HE2.out.below hb3 (Nat.le_refl _))
    have HC3 := Lib.hid hC3
    clear hb3 hR3 hC3
    go_wp2_with fail
    refine (same_c (n := 0) (l := []) rfl (Kd.C_nil _ _) (Nat.le_refl _) HC3.out (Nat.zero_le _) HSM.out).mono ?_
    rintro e w4 ⟨rfl, hd⟩
    have HB4 := Lib.hid (below_then HB3.out HB3.out.size (drawn_below hd))
    have HE4 := Lib.hid (HE3.out.below (drawn_below hd) (Nat.le_refl _))
    clear hd
    go_wp2_with fail
    refine (at_calls (q : Int) c _ _ (HG.out.below HB4.out (Nat.le_refl _)) HE4.out HC0.out).mono ?_
    rintro e w6 ⟨rfl, hb6⟩
    have HB6 := Lib.hid (below_then HB4.out HB4.out.size hb6)
    clear hb6
    go_wp2
    go_ret
    exact ⟨rfl, HB6.out⟩
end Go.Proofs.YtkbjblhompkdkaaDoor
