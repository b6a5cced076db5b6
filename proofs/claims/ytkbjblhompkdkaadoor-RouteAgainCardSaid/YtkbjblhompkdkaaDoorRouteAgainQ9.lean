/- YtkbjblhompkdkaaDoorRouteAgainQ9: RouteWrong -/
import Derived.Test.YtkbjblhompkdkaaDoorRouteAgainQ8
namespace Go.Proofs.YtkbjblhompkdkaaDoor
open Go.RowKit Go.Proofs.YtkbjblhompkdkaaDoor.PA Go.Proofs.YtkbjblhompkdkaaDoor.PB Go.Proofs.YtkbjblhompkdkaaDoorW.PrintWords Go.Proofs.YtkbjblhompkdkaaDoorW.PrintLast
set_option linter.unusedVariables false
set_option linter.unusedSimpArgs false
attribute [local go_sem high] eqA83
def wrongC (x : S83) : Int :=
 if x.f0 = 5 then (if balC (bytesOf x.f4) = true then (if x.f1 = 0 ∧ x.f2 = 0 ∧ x.f3 = 0 then 0 else 1) else if x.f1 = 0 ∧ x.f2 = 0 ∧ x.f3 = 0 then 2 else 1)
 else if x.f0 = 0 then (if x.f1 = 0 ∧ x.f2 = 0 ∧ x.f3 = 0 then 0 else 1)
 else if x.f0 = 1 then (if x.f2 = 0 ∧ x.f3 = 0 ∧ x.f4 = ⟨#[]⟩ then 0 else 1)
 else if x.f0 = 2 then (if x.f1 = 0 ∧ x.f4 = ⟨#[]⟩ then 0 else 1)
 else if x.f0 = 3 ∨ x.f0 = 4 then (if x.f1 = 0 ∧ x.f2 = 0 ∧ x.f3 = 0 ∧ x.f4 = ⟨#[]⟩ then 0 else 1)
 else 1
set_option maxRecDepth 100000 in
set_option maxHeartbeats 16000000 in
theorem wrong_calls (x : S83) (w : World) (hs : Signs w) (hsz : x.f4.size ≤ 140737488351232) :
  Calls Tryd.prog 63 #[.agg #[.int .i64 x.f0, .int .i64 x.f1, .int .i64 x.f2, .int .i64 x.f3, .string x.f4]] w fun e w' => e = .returned (.int .i64 (wrongC x)) ∧ Below w.heap.size w w' := by
 obtain ⟨k, n, lo, hi, t⟩ := x
 dsimp only at hsz ⊢
 have HS := Lib.hid hs
 clear hs
 have HSZ := Lib.hid hsz
 clear hsz
 go_enter Tryd.func63, Tryd.ntmps63
 go_upto_region 1 with (fail)
 have hba := below_alloc (Below.refl w.heap.size w) (.cells #[.int .i64 k, .int .i64 n, .int .i64 lo, .int .i64 hi, .string t] 83)
 have HG := Lib.hid (blk_new w (.cells #[.int .i64 k, .int .i64 n, .int .i64 lo, .int .i64 hi, .string t] 83))
 have HB := Lib.hid hba
 clear hba
 have hg0 := Lib.hid (show w.heap.size ≤ w.heap.size from Nat.le_refl _)
 generalize (w.alloc (.cells #[.int .i64 k, .int .i64 n, .int .i64 lo, .int .i64 hi, .string t] 83)) = w1 at HG HB ⊢
 obtain ⟨g, hg⟩ : ∃ g, w.heap.size = g := ⟨_, rfl⟩
 rw [hg] at HG
 try rw [hg]
 have HGE := Lib.hid (show w.heap.size ≤ g by omega)
 clear hg0 hg
 obtain ⟨a0, a1, a2, a3, a4⟩ := cells5 HG.out
 go_upto_region 2 with (fail)
 clear a0 a1 a2 a3 a4
 have hba := below_alloc (Below.refl w1.heap.size w1) (.cells #[.int .i64 k, .int .i64 n, .int .i64 lo, .int .i64 hi, .string t] 83)
 have HX := Lib.hid (blk_new w1 (.cells #[.int .i64 k, .int .i64 n, .int .i64 lo, .int .i64 hi, .string t] 83))
 have hlt_ := blk_lt HG.out
 replace HG := Lib.hid (blk_below HG.out hba)
 have hge := HB.out.size
 replace HB := Lib.hid (below_then HB.out HB.out.size hba)
 clear hba
 generalize (w1.alloc (.cells #[.int .i64 k, .int .i64 n, .int .i64 lo, .int .i64 hi, .string t] 83)) = w2 at HG HB HX ⊢
 obtain ⟨h, hh⟩ : ∃ h, w1.heap.size = h := ⟨_, rfl⟩
 rw [hh] at HX hge hlt_
 have HLT := Lib.hid hlt_
 clear hlt_
 try rw [hh]
 have HGH := Lib.hid (show g ≠ h by have := HLT.out; omega)
 have HHE := Lib.hid hge
 clear hh hge
 skip
 by_cases hk : k = 5
 ·skip
  subst hk
  have a0 := (blk_cell HG.out 0).trans (show _ = some (.int .i64 5) from rfl)
  have a4 := (blk_cell HG.out 4).trans (show _ = some (.string t) from rfl)
  go_wp2_with fail
  refine (balanced_calls t _ (HS.out.below HB.out (Nat.le_refl _)) HSZ.out).mono ?_
  rintro e w3 ⟨rfl, hb⟩
  clear a0 a4
  replace HG := Lib.hid (blk_below HG.out hb)
  replace HX := Lib.hid (blk_below HX.out hb)
  replace HB := Lib.hid (below_then HB.out HB.out.size hb)
  clear hb
  cases hbal : balC (bytesOf t) with
  | true =>
   have HBL := Lib.hid hbal
   clear hbal
   by_cases hz : n = 0
   ·skip
    subst hz
    by_cases hz : lo = 0
    ·skip
     subst hz
     by_cases hz : hi = 0
     ·skip
      subst hz
      have HW := Lib.hid (show wrongC ⟨5, 0, 0, 0, t⟩ = 0 by simp [wrongC, HBL.out])
      have y4 := (blk_cell HX.out 4).trans (show _ = some (.string t) from rfl)
      have yf4 := blk_frozen HX.out 4
      go_upto_region 17 with (fail)
      clear y4 yf4
      have HX2 := Lib.hid (blk_put (cs' := #[.int .i64 5, .int .i64 0, .int .i64 0, .int .i64 0, .string ⟨#[]⟩]) HX.out 4 (.string ⟨#[]⟩) rfl)
      have hbs : Below w.heap.size w (w3.setCell ⟨h, 4, none⟩ (.string ⟨#[]⟩)) := below_set (HB.out) HHE.out
      replace HB := Lib.hid hbs
      clear hbs
      have a0 := (blk_cell HG.out 0).trans (show _ = some (.int .i64 5) from rfl)
      have HG2 := Lib.hid (show (w3.setCell ⟨h, 4, none⟩ (.string ⟨#[]⟩)).cell? ⟨g, 0, none⟩ = some (.int .i64 5) from (cell_far _ _ _ _ (show g ≠ h by have := HGH.out; omega)).trans (a0))
      clear a0
      generalize (w3.setCell ⟨h, 4, none⟩ (.string ⟨#[]⟩)) = w5 at HX2 HB HG2 ⊢
      obtain ⟨b0, b1, b2, b3, b4⟩ := cells5 HX2.out
      have a0 := HG2.out
      go_wp2
      go_ret
      rw [HW.out]
      exact ⟨rfl, HB.out⟩
     ·skip
      have HW := Lib.hid (show wrongC ⟨5, 0, 0, hi, t⟩ = 1 by simp [wrongC, hz, HBL.out])
      have z1 : (hi == 0) = false := beq_eq_false_iff_ne.2 hz
      have z2 : (hi != 0) = true := bne_iff_ne.2 hz
      clear hz
      have y4 := (blk_cell HX.out 4).trans (show _ = some (.string t) from rfl)
      have yf4 := blk_frozen HX.out 4
      go_upto_region 17 with (fail)
      clear y4 yf4
      have HX2 := Lib.hid (blk_put (cs' := #[.int .i64 5, .int .i64 0, .int .i64 0, .int .i64 hi, .string ⟨#[]⟩]) HX.out 4 (.string ⟨#[]⟩) rfl)
      have hbs : Below w.heap.size w (w3.setCell ⟨h, 4, none⟩ (.string ⟨#[]⟩)) := below_set (HB.out) HHE.out
      replace HB := Lib.hid hbs
      clear hbs
      have a0 := (blk_cell HG.out 0).trans (show _ = some (.int .i64 5) from rfl)
      have HG2 := Lib.hid (show (w3.setCell ⟨h, 4, none⟩ (.string ⟨#[]⟩)).cell? ⟨g, 0, none⟩ = some (.int .i64 5) from (cell_far _ _ _ _ (show g ≠ h by have := HGH.out; omega)).trans (a0))
      clear a0
      generalize (w3.setCell ⟨h, 4, none⟩ (.string ⟨#[]⟩)) = w5 at HX2 HB HG2 ⊢
      obtain ⟨b0, b1, b2, b3, b4⟩ := cells5 HX2.out
      have a0 := HG2.out
      go_wp2
      go_ret
      rw [HW.out]
      exact ⟨rfl, HB.out⟩
    ·skip
     have HW := Lib.hid (show wrongC ⟨5, 0, lo, hi, t⟩ = 1 by simp [wrongC, hz, HBL.out])
     have z1 : (lo == 0) = false := beq_eq_false_iff_ne.2 hz
     have z2 : (lo != 0) = true := bne_iff_ne.2 hz
     clear hz
     have y4 := (blk_cell HX.out 4).trans (show _ = some (.string t) from rfl)
     have yf4 := blk_frozen HX.out 4
     go_upto_region 17 with (fail)
     clear y4 yf4
     have HX2 := Lib.hid (blk_put (cs' := #[.int .i64 5, .int .i64 0, .int .i64 lo, .int .i64 hi, .string ⟨#[]⟩]) HX.out 4 (.string ⟨#[]⟩) rfl)
     have hbs : Below w.heap.size w (w3.setCell ⟨h, 4, none⟩ (.string ⟨#[]⟩)) := below_set (HB.out) HHE.out
     replace HB := Lib.hid hbs
     clear hbs
     have a0 := (blk_cell HG.out 0).trans (show _ = some (.int .i64 5) from rfl)
     have HG2 := Lib.hid (show (w3.setCell ⟨h, 4, none⟩ (.string ⟨#[]⟩)).cell? ⟨g, 0, none⟩ = some (.int .i64 5) from (cell_far _ _ _ _ (show g ≠ h by have := HGH.out; omega)).trans (a0))
     clear a0
     generalize (w3.setCell ⟨h, 4, none⟩ (.string ⟨#[]⟩)) = w5 at HX2 HB HG2 ⊢
     obtain ⟨b0, b1, b2, b3, b4⟩ := cells5 HX2.out
     have a0 := HG2.out
     go_wp2
     go_ret
     rw [HW.out]
     exact ⟨rfl, HB.out⟩
   ·skip
    have HW := Lib.hid (show wrongC ⟨5, n, lo, hi, t⟩ = 1 by simp [wrongC, hz, HBL.out])
    have z1 : (n == 0) = false := beq_eq_false_iff_ne.2 hz
    have z2 : (n != 0) = true := bne_iff_ne.2 hz
    clear hz
    have y4 := (blk_cell HX.out 4).trans (show _ = some (.string t) from rfl)
    have yf4 := blk_frozen HX.out 4
    go_upto_region 17 with (fail)
    clear y4 yf4
    have HX2 := Lib.hid (blk_put (cs' := #[.int .i64 5, .int .i64 n, .int .i64 lo, .int .i64 hi, .string ⟨#[]⟩]) HX.out 4 (.string ⟨#[]⟩) rfl)
    have hbs : Below w.heap.size w (w3.setCell ⟨h, 4, none⟩ (.string ⟨#[]⟩)) := below_set (HB.out) HHE.out
    replace HB := Lib.hid hbs
    clear hbs
    have a0 := (blk_cell HG.out 0).trans (show _ = some (.int .i64 5) from rfl)
    have HG2 := Lib.hid (show (w3.setCell ⟨h, 4, none⟩ (.string ⟨#[]⟩)).cell? ⟨g, 0, none⟩ = some (.int .i64 5) from (cell_far _ _ _ _ (show g ≠ h by have := HGH.out; omega)).trans (a0))
    clear a0
    generalize (w3.setCell ⟨h, 4, none⟩ (.string ⟨#[]⟩)) = w5 at HX2 HB HG2 ⊢
    obtain ⟨b0, b1, b2, b3, b4⟩ := cells5 HX2.out
    have a0 := HG2.out
    go_wp2
    go_ret
    rw [HW.out]
    exact ⟨rfl, HB.out⟩
  | false =>
   have HBL := Lib.hid hbal
   clear hbal
   by_cases hz : n = 0
   ·skip
    subst hz
    by_cases hz : lo = 0
    ·skip
     subst hz
     by_cases hz : hi = 0
     ·skip
      subst hz
      have HW := Lib.hid (show wrongC ⟨5, 0, 0, 0, t⟩ = 2 by simp [wrongC, HBL.out])
      have a1 := (blk_cell HG.out 1).trans (show _ = some (.int .i64 0) from rfl)
      have a2 := (blk_cell HG.out 2).trans (show _ = some (.int .i64 0) from rfl)
      have a3 := (blk_cell HG.out 3).trans (show _ = some (.int .i64 0) from rfl)
      go_wp2
      repeat (go_step3; go_wp2)
      try rw [Exit.noGoto_ret]
      go_ret
      rw [HW.out]
      exact ⟨rfl, HB.out⟩
     ·skip
      have HW := Lib.hid (show wrongC ⟨5, 0, 0, hi, t⟩ = 1 by simp [wrongC, hz, HBL.out])
      have z1 : (hi == 0) = false := beq_eq_false_iff_ne.2 hz
      have z2 : (hi != 0) = true := bne_iff_ne.2 hz
      clear hz
      have a1 := (blk_cell HG.out 1).trans (show _ = some (.int .i64 0) from rfl)
      have a2 := (blk_cell HG.out 2).trans (show _ = some (.int .i64 0) from rfl)
      have a3 := (blk_cell HG.out 3).trans (show _ = some (.int .i64 hi) from rfl)
      go_wp2
      repeat (go_step3; go_wp2)
      try rw [Exit.noGoto_ret]
      go_ret
      rw [HW.out]
      exact ⟨rfl, HB.out⟩
    ·skip
     have HW := Lib.hid (show wrongC ⟨5, 0, lo, hi, t⟩ = 1 by simp [wrongC, hz, HBL.out])
     have z1 : (lo == 0) = false := beq_eq_false_iff_ne.2 hz
     have z2 : (lo != 0) = true := bne_iff_ne.2 hz
     clear hz
     have a1 := (blk_cell HG.out 1).trans (show _ = some (.int .i64 0) from rfl)
     have a2 := (blk_cell HG.out 2).trans (show _ = some (.int .i64 lo) from rfl)
     have a3 := (blk_cell HG.out 3).trans (show _ = some (.int .i64 hi) from rfl)
     go_wp2
     repeat (go_step3; go_wp2)
     try rw [Exit.noGoto_ret]
     go_ret
     rw [HW.out]
     exact ⟨rfl, HB.out⟩
   ·skip
    have HW := Lib.hid (show wrongC ⟨5, n, lo, hi, t⟩ = 1 by simp [wrongC, hz, HBL.out])
    have z1 : (n == 0) = false := beq_eq_false_iff_ne.2 hz
    have z2 : (n != 0) = true := bne_iff_ne.2 hz
    clear hz
    have a1 := (blk_cell HG.out 1).trans (show _ = some (.int .i64 n) from rfl)
    have a2 := (blk_cell HG.out 2).trans (show _ = some (.int .i64 lo) from rfl)
    have a3 := (blk_cell HG.out 3).trans (show _ = some (.int .i64 hi) from rfl)
    go_wp2
    repeat (go_step3; go_wp2)
    try rw [Exit.noGoto_ret]
    go_ret
    rw [HW.out]
    exact ⟨rfl, HB.out⟩
 have n5 := hk
 clear hk
 by_cases hk : k = 0
 ·skip
  subst hk
  have a0 := (blk_cell HG.out 0).trans (show _ = some (.int .i64 0) from rfl)
  by_cases hz : n = 0
  ·skip
   subst hz
   by_cases hz : lo = 0
   ·skip
    subst hz
    by_cases hz : hi = 0
    ·skip
     subst hz
     have HW := Lib.hid (show wrongC ⟨0, 0, 0, 0, t⟩ = 0 by simp [wrongC])
     have y4 := (blk_cell HX.out 4).trans (show _ = some (.string t) from rfl)
     have yf4 := blk_frozen HX.out 4
     go_upto_region 17 with (fail)
     clear y4 yf4
     have HX2 := Lib.hid (blk_put (cs' := #[.int .i64 0, .int .i64 0, .int .i64 0, .int .i64 0, .string ⟨#[]⟩]) HX.out 4 (.string ⟨#[]⟩) rfl)
     have hbs : Below w.heap.size w (w2.setCell ⟨h, 4, none⟩ (.string ⟨#[]⟩)) := below_set (HB.out) HHE.out
     replace HB := Lib.hid hbs
     clear hbs
     have a0 := (blk_cell HG.out 0).trans (show _ = some (.int .i64 0) from rfl)
     have HG2 := Lib.hid (show (w2.setCell ⟨h, 4, none⟩ (.string ⟨#[]⟩)).cell? ⟨g, 0, none⟩ = some (.int .i64 0) from (cell_far _ _ _ _ (show g ≠ h by have := HGH.out; omega)).trans (a0))
     clear a0
     generalize (w2.setCell ⟨h, 4, none⟩ (.string ⟨#[]⟩)) = w5 at HX2 HB HG2 ⊢
     obtain ⟨b0, b1, b2, b3, b4⟩ := cells5 HX2.out
     have a0 := HG2.out
     go_wp2
     go_ret
     rw [HW.out]
     exact ⟨rfl, HB.out⟩
    ·skip
     have HW := Lib.hid (show wrongC ⟨0, 0, 0, hi, t⟩ = 1 by simp [wrongC, hz])
     have z1 : (hi == 0) = false := beq_eq_false_iff_ne.2 hz
     have z2 : (hi != 0) = true := bne_iff_ne.2 hz
     clear hz
     have y4 := (blk_cell HX.out 4).trans (show _ = some (.string t) from rfl)
     have yf4 := blk_frozen HX.out 4
     go_upto_region 17 with (fail)
     clear y4 yf4
     have HX2 := Lib.hid (blk_put (cs' := #[.int .i64 0, .int .i64 0, .int .i64 0, .int .i64 hi, .string ⟨#[]⟩]) HX.out 4 (.string ⟨#[]⟩) rfl)
     have hbs : Below w.heap.size w (w2.setCell ⟨h, 4, none⟩ (.string ⟨#[]⟩)) := below_set (HB.out) HHE.out
     replace HB := Lib.hid hbs
     clear hbs
     have a0 := (blk_cell HG.out 0).trans (show _ = some (.int .i64 0) from rfl)
     have HG2 := Lib.hid (show (w2.setCell ⟨h, 4, none⟩ (.string ⟨#[]⟩)).cell? ⟨g, 0, none⟩ = some (.int .i64 0) from (cell_far _ _ _ _ (show g ≠ h by have := HGH.out; omega)).trans (a0))
     clear a0
     generalize (w2.setCell ⟨h, 4, none⟩ (.string ⟨#[]⟩)) = w5 at HX2 HB HG2 ⊢
     obtain ⟨b0, b1, b2, b3, b4⟩ := cells5 HX2.out
     have a0 := HG2.out
     go_wp2
     go_ret
     rw [HW.out]
     exact ⟨rfl, HB.out⟩
   ·skip
    have HW := Lib.hid (show wrongC ⟨0, 0, lo, hi, t⟩ = 1 by simp [wrongC, hz])
    have z1 : (lo == 0) = false := beq_eq_false_iff_ne.2 hz
    have z2 : (lo != 0) = true := bne_iff_ne.2 hz
    clear hz
    have y4 := (blk_cell HX.out 4).trans (show _ = some (.string t) from rfl)
    have yf4 := blk_frozen HX.out 4
    go_upto_region 17 with (fail)
    clear y4 yf4
    have HX2 := Lib.hid (blk_put (cs' := #[.int .i64 0, .int .i64 0, .int .i64 lo, .int .i64 hi, .string ⟨#[]⟩]) HX.out 4 (.string ⟨#[]⟩) rfl)
    have hbs : Below w.heap.size w (w2.setCell ⟨h, 4, none⟩ (.string ⟨#[]⟩)) := below_set (HB.out) HHE.out
    replace HB := Lib.hid hbs
    clear hbs
    have a0 := (blk_cell HG.out 0).trans (show _ = some (.int .i64 0) from rfl)
    have HG2 := Lib.hid (show (w2.setCell ⟨h, 4, none⟩ (.string ⟨#[]⟩)).cell? ⟨g, 0, none⟩ = some (.int .i64 0) from (cell_far _ _ _ _ (show g ≠ h by have := HGH.out; omega)).trans (a0))
    clear a0
    generalize (w2.setCell ⟨h, 4, none⟩ (.string ⟨#[]⟩)) = w5 at HX2 HB HG2 ⊢
    obtain ⟨b0, b1, b2, b3, b4⟩ := cells5 HX2.out
    have a0 := HG2.out
    go_wp2
    go_ret
    rw [HW.out]
    exact ⟨rfl, HB.out⟩
  ·skip
   have HW := Lib.hid (show wrongC ⟨0, n, lo, hi, t⟩ = 1 by simp [wrongC, hz])
   have z1 : (n == 0) = false := beq_eq_false_iff_ne.2 hz
   have z2 : (n != 0) = true := bne_iff_ne.2 hz
   clear hz
   have y4 := (blk_cell HX.out 4).trans (show _ = some (.string t) from rfl)
   have yf4 := blk_frozen HX.out 4
   go_upto_region 17 with (fail)
   clear y4 yf4
   have HX2 := Lib.hid (blk_put (cs' := #[.int .i64 0, .int .i64 n, .int .i64 lo, .int .i64 hi, .string ⟨#[]⟩]) HX.out 4 (.string ⟨#[]⟩) rfl)
   have hbs : Below w.heap.size w (w2.setCell ⟨h, 4, none⟩ (.string ⟨#[]⟩)) := below_set (HB.out) HHE.out
   replace HB := Lib.hid hbs
   clear hbs
   have a0 := (blk_cell HG.out 0).trans (show _ = some (.int .i64 0) from rfl)
   have HG2 := Lib.hid (show (w2.setCell ⟨h, 4, none⟩ (.string ⟨#[]⟩)).cell? ⟨g, 0, none⟩ = some (.int .i64 0) from (cell_far _ _ _ _ (show g ≠ h by have := HGH.out; omega)).trans (a0))
   clear a0
   generalize (w2.setCell ⟨h, 4, none⟩ (.string ⟨#[]⟩)) = w5 at HX2 HB HG2 ⊢
   obtain ⟨b0, b1, b2, b3, b4⟩ := cells5 HX2.out
   have a0 := HG2.out
   go_wp2
   go_ret
   rw [HW.out]
   exact ⟨rfl, HB.out⟩
 have n0 := hk
 clear hk
 by_cases hk : k = 1
 ·skip
  subst hk
  have a0 := (blk_cell HG.out 0).trans (show _ = some (.int .i64 1) from rfl)
  by_cases hz : lo = 0
  ·skip
   subst hz
   by_cases hz : hi = 0
   ·skip
    subst hz
    by_cases hz : t = ⟨#[]⟩
    ·skip
     subst hz
     have HW := Lib.hid (show wrongC ⟨1, n, 0, 0, ⟨#[]⟩⟩ = 0 by simp [wrongC])
     have y1 := (blk_cell HX.out 1).trans (show _ = some (.int .i64 n) from rfl)
     have yf1 := blk_frozen HX.out 1
     go_upto_region 17 with (fail)
     clear y1 yf1
     have HX2 := Lib.hid (blk_put (cs' := #[.int .i64 1, .int .i64 0, .int .i64 0, .int .i64 0, .string ⟨#[]⟩]) HX.out 1 (.int .i64 0) rfl)
     have hbs : Below w.heap.size w (w2.setCell ⟨h, 1, none⟩ (.int .i64 0)) := below_set (HB.out) HHE.out
     replace HB := Lib.hid hbs
     clear hbs
     have a0 := (blk_cell HG.out 0).trans (show _ = some (.int .i64 1) from rfl)
     have HG2 := Lib.hid (show (w2.setCell ⟨h, 1, none⟩ (.int .i64 0)).cell? ⟨g, 0, none⟩ = some (.int .i64 1) from (cell_far _ _ _ _ (show g ≠ h by have := HGH.out; omega)).trans (a0))
     clear a0
     generalize (w2.setCell ⟨h, 1, none⟩ (.int .i64 0)) = w5 at HX2 HB HG2 ⊢
     obtain ⟨b0, b1, b2, b3, b4⟩ := cells5 HX2.out
     have a0 := HG2.out
     go_wp2
     go_ret
     rw [HW.out]
     exact ⟨rfl, HB.out⟩
    ·skip
     have HW := Lib.hid (show wrongC ⟨1, n, 0, 0, t⟩ = 1 by simp [wrongC, hz])
     have z1 : (t.toList == ([] : List UInt8)) = false := by rw [beq_eq_false_iff_ne]; intro h_; exact hz (Pure.toList_inj.1 (h_.trans (by kernel_rfl)))
     clear hz
     have y1 := (blk_cell HX.out 1).trans (show _ = some (.int .i64 n) from rfl)
     have yf1 := blk_frozen HX.out 1
     go_upto_region 17 with (fail)
     clear y1 yf1
     have HX2 := Lib.hid (blk_put (cs' := #[.int .i64 1, .int .i64 0, .int .i64 0, .int .i64 0, .string t]) HX.out 1 (.int .i64 0) rfl)
     have hbs : Below w.heap.size w (w2.setCell ⟨h, 1, none⟩ (.int .i64 0)) := below_set (HB.out) HHE.out
     replace HB := Lib.hid hbs
     clear hbs
     have a0 := (blk_cell HG.out 0).trans (show _ = some (.int .i64 1) from rfl)
     have HG2 := Lib.hid (show (w2.setCell ⟨h, 1, none⟩ (.int .i64 0)).cell? ⟨g, 0, none⟩ = some (.int .i64 1) from (cell_far _ _ _ _ (show g ≠ h by have := HGH.out; omega)).trans (a0))
     clear a0
     generalize (w2.setCell ⟨h, 1, none⟩ (.int .i64 0)) = w5 at HX2 HB HG2 ⊢
     obtain ⟨b0, b1, b2, b3, b4⟩ := cells5 HX2.out
     have a0 := HG2.out
     go_wp2
     go_ret
     rw [HW.out]
     exact ⟨rfl, HB.out⟩
   ·skip
    have HW := Lib.hid (show wrongC ⟨1, n, 0, hi, t⟩ = 1 by simp [wrongC, hz])
    have z1 : (hi == 0) = false := beq_eq_false_iff_ne.2 hz
    have z2 : (hi != 0) = true := bne_iff_ne.2 hz
    clear hz
    have y1 := (blk_cell HX.out 1).trans (show _ = some (.int .i64 n) from rfl)
    have yf1 := blk_frozen HX.out 1
    go_upto_region 17 with (fail)
    clear y1 yf1
    have HX2 := Lib.hid (blk_put (cs' := #[.int .i64 1, .int .i64 0, .int .i64 0, .int .i64 hi, .string t]) HX.out 1 (.int .i64 0) rfl)
    have hbs : Below w.heap.size w (w2.setCell ⟨h, 1, none⟩ (.int .i64 0)) := below_set (HB.out) HHE.out
    replace HB := Lib.hid hbs
    clear hbs
    have a0 := (blk_cell HG.out 0).trans (show _ = some (.int .i64 1) from rfl)
    have HG2 := Lib.hid (show (w2.setCell ⟨h, 1, none⟩ (.int .i64 0)).cell? ⟨g, 0, none⟩ = some (.int .i64 1) from (cell_far _ _ _ _ (show g ≠ h by have := HGH.out; omega)).trans (a0))
    clear a0
    generalize (w2.setCell ⟨h, 1, none⟩ (.int .i64 0)) = w5 at HX2 HB HG2 ⊢
    obtain ⟨b0, b1, b2, b3, b4⟩ := cells5 HX2.out
    have a0 := HG2.out
    go_wp2
    go_ret
    rw [HW.out]
    exact ⟨rfl, HB.out⟩
  ·skip
   have HW := Lib.hid (show wrongC ⟨1, n, lo, hi, t⟩ = 1 by simp [wrongC, hz])
   have z1 : (lo == 0) = false := beq_eq_false_iff_ne.2 hz
   have z2 : (lo != 0) = true := bne_iff_ne.2 hz
   clear hz
   have y1 := (blk_cell HX.out 1).trans (show _ = some (.int .i64 n) from rfl)
   have yf1 := blk_frozen HX.out 1
   go_upto_region 17 with (fail)
   clear y1 yf1
   have HX2 := Lib.hid (blk_put (cs' := #[.int .i64 1, .int .i64 0, .int .i64 lo, .int .i64 hi, .string t]) HX.out 1 (.int .i64 0) rfl)
   have hbs : Below w.heap.size w (w2.setCell ⟨h, 1, none⟩ (.int .i64 0)) := below_set (HB.out) HHE.out
   replace HB := Lib.hid hbs
   clear hbs
   have a0 := (blk_cell HG.out 0).trans (show _ = some (.int .i64 1) from rfl)
   have HG2 := Lib.hid (show (w2.setCell ⟨h, 1, none⟩ (.int .i64 0)).cell? ⟨g, 0, none⟩ = some (.int .i64 1) from (cell_far _ _ _ _ (show g ≠ h by have := HGH.out; omega)).trans (a0))
   clear a0
   generalize (w2.setCell ⟨h, 1, none⟩ (.int .i64 0)) = w5 at HX2 HB HG2 ⊢
   obtain ⟨b0, b1, b2, b3, b4⟩ := cells5 HX2.out
   have a0 := HG2.out
   go_wp2
   go_ret
   rw [HW.out]
   exact ⟨rfl, HB.out⟩
 have n1 := hk
 clear hk
 by_cases hk : k = 2
 ·skip
  subst hk
  have a0 := (blk_cell HG.out 0).trans (show _ = some (.int .i64 2) from rfl)
  by_cases hz : n = 0
  ·skip
   subst hz
   by_cases hz : t = ⟨#[]⟩
   ·skip
    subst hz
    have HW := Lib.hid (show wrongC ⟨2, 0, lo, hi, ⟨#[]⟩⟩ = 0 by simp [wrongC])
    have y2 := (blk_cell HX.out 2).trans (show _ = some (.int .i64 lo) from rfl)
    have yf2 := blk_frozen HX.out 2
    have y3 := (blk_cell HX.out 3).trans (show _ = some (.int .i64 hi) from rfl)
    have yf3 := blk_frozen HX.out 3
    go_upto_region 17 with (fail)
    clear y2 yf2 y3 yf3
    have HX2 := Lib.hid (blk_put (cs' := #[.int .i64 2, .int .i64 0, .int .i64 0, .int .i64 0, .string ⟨#[]⟩]) (blk_put (cs' := #[.int .i64 2, .int .i64 0, .int .i64 0, .int .i64 hi, .string ⟨#[]⟩]) HX.out 2 (.int .i64 0) rfl) 3 (.int .i64 0) rfl)
    have hbs : Below w.heap.size w ((w2.setCell ⟨h, 2, none⟩ (.int .i64 0)).setCell ⟨h, 3, none⟩ (.int .i64 0)) := below_set (below_set (HB.out) HHE.out) HHE.out
    replace HB := Lib.hid hbs
    clear hbs
    have a0 := (blk_cell HG.out 0).trans (show _ = some (.int .i64 2) from rfl)
    have HG2 := Lib.hid (show ((w2.setCell ⟨h, 2, none⟩ (.int .i64 0)).setCell ⟨h, 3, none⟩ (.int .i64 0)).cell? ⟨g, 0, none⟩ = some (.int .i64 2) from (cell_far _ _ _ _ (show g ≠ h by have := HGH.out; omega)).trans ((cell_far _ _ _ _ (show g ≠ h by have := HGH.out; omega)).trans (a0)))
    clear a0
    generalize ((w2.setCell ⟨h, 2, none⟩ (.int .i64 0)).setCell ⟨h, 3, none⟩ (.int .i64 0)) = w5 at HX2 HB HG2 ⊢
    obtain ⟨b0, b1, b2, b3, b4⟩ := cells5 HX2.out
    have a0 := HG2.out
    go_wp2
    go_ret
    rw [HW.out]
    exact ⟨rfl, HB.out⟩
   ·skip
    have HW := Lib.hid (show wrongC ⟨2, 0, lo, hi, t⟩ = 1 by simp [wrongC, hz])
    have z1 : (t.toList == ([] : List UInt8)) = false := by rw [beq_eq_false_iff_ne]; intro h_; exact hz (Pure.toList_inj.1 (h_.trans (by kernel_rfl)))
    clear hz
    have y2 := (blk_cell HX.out 2).trans (show _ = some (.int .i64 lo) from rfl)
    have yf2 := blk_frozen HX.out 2
    have y3 := (blk_cell HX.out 3).trans (show _ = some (.int .i64 hi) from rfl)
    have yf3 := blk_frozen HX.out 3
    go_upto_region 17 with (fail)
    clear y2 yf2 y3 yf3
    have HX2 := Lib.hid (blk_put (cs' := #[.int .i64 2, .int .i64 0, .int .i64 0, .int .i64 0, .string t]) (blk_put (cs' := #[.int .i64 2, .int .i64 0, .int .i64 0, .int .i64 hi, .string t]) HX.out 2 (.int .i64 0) rfl) 3 (.int .i64 0) rfl)
    have hbs : Below w.heap.size w ((w2.setCell ⟨h, 2, none⟩ (.int .i64 0)).setCell ⟨h, 3, none⟩ (.int .i64 0)) := below_set (below_set (HB.out) HHE.out) HHE.out
    replace HB := Lib.hid hbs
    clear hbs
    have a0 := (blk_cell HG.out 0).trans (show _ = some (.int .i64 2) from rfl)
    have HG2 := Lib.hid (show ((w2.setCell ⟨h, 2, none⟩ (.int .i64 0)).setCell ⟨h, 3, none⟩ (.int .i64 0)).cell? ⟨g, 0, none⟩ = some (.int .i64 2) from (cell_far _ _ _ _ (show g ≠ h by have := HGH.out; omega)).trans ((cell_far _ _ _ _ (show g ≠ h by have := HGH.out; omega)).trans (a0)))
    clear a0
    generalize ((w2.setCell ⟨h, 2, none⟩ (.int .i64 0)).setCell ⟨h, 3, none⟩ (.int .i64 0)) = w5 at HX2 HB HG2 ⊢
    obtain ⟨b0, b1, b2, b3, b4⟩ := cells5 HX2.out
    have a0 := HG2.out
    go_wp2
    go_ret
    rw [HW.out]
    exact ⟨rfl, HB.out⟩
  ·skip
   have HW := Lib.hid (show wrongC ⟨2, n, lo, hi, t⟩ = 1 by simp [wrongC, hz])
   have z1 : (n == 0) = false := beq_eq_false_iff_ne.2 hz
   have z2 : (n != 0) = true := bne_iff_ne.2 hz
   clear hz
   have y2 := (blk_cell HX.out 2).trans (show _ = some (.int .i64 lo) from rfl)
   have yf2 := blk_frozen HX.out 2
   have y3 := (blk_cell HX.out 3).trans (show _ = some (.int .i64 hi) from rfl)
   have yf3 := blk_frozen HX.out 3
   go_upto_region 17 with (fail)
   clear y2 yf2 y3 yf3
   have HX2 := Lib.hid (blk_put (cs' := #[.int .i64 2, .int .i64 n, .int .i64 0, .int .i64 0, .string t]) (blk_put (cs' := #[.int .i64 2, .int .i64 n, .int .i64 0, .int .i64 hi, .string t]) HX.out 2 (.int .i64 0) rfl) 3 (.int .i64 0) rfl)
   have hbs : Below w.heap.size w ((w2.setCell ⟨h, 2, none⟩ (.int .i64 0)).setCell ⟨h, 3, none⟩ (.int .i64 0)) := below_set (below_set (HB.out) HHE.out) HHE.out
   replace HB := Lib.hid hbs
   clear hbs
   have a0 := (blk_cell HG.out 0).trans (show _ = some (.int .i64 2) from rfl)
   have HG2 := Lib.hid (show ((w2.setCell ⟨h, 2, none⟩ (.int .i64 0)).setCell ⟨h, 3, none⟩ (.int .i64 0)).cell? ⟨g, 0, none⟩ = some (.int .i64 2) from (cell_far _ _ _ _ (show g ≠ h by have := HGH.out; omega)).trans ((cell_far _ _ _ _ (show g ≠ h by have := HGH.out; omega)).trans (a0)))
   clear a0
   generalize ((w2.setCell ⟨h, 2, none⟩ (.int .i64 0)).setCell ⟨h, 3, none⟩ (.int .i64 0)) = w5 at HX2 HB HG2 ⊢
   obtain ⟨b0, b1, b2, b3, b4⟩ := cells5 HX2.out
   have a0 := HG2.out
   go_wp2
   go_ret
   rw [HW.out]
   exact ⟨rfl, HB.out⟩
 have n2 := hk
 clear hk
 by_cases hk : k = 3
 ·skip
  subst hk
  have a0 := (blk_cell HG.out 0).trans (show _ = some (.int .i64 3) from rfl)
  by_cases hz : n = 0
  ·skip
   subst hz
   by_cases hz : lo = 0
   ·skip
    subst hz
    by_cases hz : hi = 0
    ·skip
     subst hz
     by_cases hz : t = ⟨#[]⟩
     ·skip
      subst hz
      have HW := Lib.hid (show wrongC ⟨3, 0, 0, 0, ⟨#[]⟩⟩ = 0 by simp [wrongC])
      go_upto_region 17 with (fail)
      have HX2 := HX
      have HG2 := Lib.hid ((blk_cell HG.out 0).trans (show _ = some (.int .i64 3) from rfl))
      obtain ⟨b0, b1, b2, b3, b4⟩ := cells5 HX2.out
      have a0 := HG2.out
      go_wp2
      go_ret
      rw [HW.out]
      exact ⟨rfl, HB.out⟩
     ·skip
      have HW := Lib.hid (show wrongC ⟨3, 0, 0, 0, t⟩ = 1 by simp [wrongC, hz])
      have z1 : (t.toList == ([] : List UInt8)) = false := by rw [beq_eq_false_iff_ne]; intro h_; exact hz (Pure.toList_inj.1 (h_.trans (by kernel_rfl)))
      clear hz
      go_upto_region 17 with (fail)
      have HX2 := HX
      have HG2 := Lib.hid ((blk_cell HG.out 0).trans (show _ = some (.int .i64 3) from rfl))
      obtain ⟨b0, b1, b2, b3, b4⟩ := cells5 HX2.out
      have a0 := HG2.out
      go_wp2
      go_ret
      rw [HW.out]
      exact ⟨rfl, HB.out⟩
    ·skip
     have HW := Lib.hid (show wrongC ⟨3, 0, 0, hi, t⟩ = 1 by simp [wrongC, hz])
     have z1 : (hi == 0) = false := beq_eq_false_iff_ne.2 hz
     have z2 : (hi != 0) = true := bne_iff_ne.2 hz
     clear hz
     go_upto_region 17 with (fail)
     have HX2 := HX
     have HG2 := Lib.hid ((blk_cell HG.out 0).trans (show _ = some (.int .i64 3) from rfl))
     obtain ⟨b0, b1, b2, b3, b4⟩ := cells5 HX2.out
     have a0 := HG2.out
     go_wp2
     go_ret
     rw [HW.out]
     exact ⟨rfl, HB.out⟩
   ·skip
    have HW := Lib.hid (show wrongC ⟨3, 0, lo, hi, t⟩ = 1 by simp [wrongC, hz])
    have z1 : (lo == 0) = false := beq_eq_false_iff_ne.2 hz
    have z2 : (lo != 0) = true := bne_iff_ne.2 hz
    clear hz
    go_upto_region 17 with (fail)
    have HX2 := HX
    have HG2 := Lib.hid ((blk_cell HG.out 0).trans (show _ = some (.int .i64 3) from rfl))
    obtain ⟨b0, b1, b2, b3, b4⟩ := cells5 HX2.out
    have a0 := HG2.out
    go_wp2
    go_ret
    rw [HW.out]
    exact ⟨rfl, HB.out⟩
  ·skip
   have HW := Lib.hid (show wrongC ⟨3, n, lo, hi, t⟩ = 1 by simp [wrongC, hz])
   have z1 : (n == 0) = false := beq_eq_false_iff_ne.2 hz
   have z2 : (n != 0) = true := bne_iff_ne.2 hz
   clear hz
   go_upto_region 17 with (fail)
   have HX2 := HX
   have HG2 := Lib.hid ((blk_cell HG.out 0).trans (show _ = some (.int .i64 3) from rfl))
   obtain ⟨b0, b1, b2, b3, b4⟩ := cells5 HX2.out
   have a0 := HG2.out
   go_wp2
   go_ret
   rw [HW.out]
   exact ⟨rfl, HB.out⟩
 have n3 := hk
 clear hk
 by_cases hk : k = 4
 ·skip
  subst hk
  have a0 := (blk_cell HG.out 0).trans (show _ = some (.int .i64 4) from rfl)
  by_cases hz : n = 0
  ·skip
   subst hz
   by_cases hz : lo = 0
   ·skip
    subst hz
    by_cases hz : hi = 0
    ·skip
     subst hz
     by_cases hz : t = ⟨#[]⟩
     ·skip
      subst hz
      have HW := Lib.hid (show wrongC ⟨4, 0, 0, 0, ⟨#[]⟩⟩ = 0 by simp [wrongC])
      go_upto_region 17 with (fail)
      have HX2 := HX
      have HG2 := Lib.hid ((blk_cell HG.out 0).trans (show _ = some (.int .i64 4) from rfl))
      obtain ⟨b0, b1, b2, b3, b4⟩ := cells5 HX2.out
      have a0 := HG2.out
      go_wp2
      go_ret
      rw [HW.out]
      exact ⟨rfl, HB.out⟩
     ·skip
      have HW := Lib.hid (show wrongC ⟨4, 0, 0, 0, t⟩ = 1 by simp [wrongC, hz])
      have z1 : (t.toList == ([] : List UInt8)) = false := by rw [beq_eq_false_iff_ne]; intro h_; exact hz (Pure.toList_inj.1 (h_.trans (by kernel_rfl)))
      clear hz
      go_upto_region 17 with (fail)
      have HX2 := HX
      have HG2 := Lib.hid ((blk_cell HG.out 0).trans (show _ = some (.int .i64 4) from rfl))
      obtain ⟨b0, b1, b2, b3, b4⟩ := cells5 HX2.out
      have a0 := HG2.out
      go_wp2
      go_ret
      rw [HW.out]
      exact ⟨rfl, HB.out⟩
    ·skip
     have HW := Lib.hid (show wrongC ⟨4, 0, 0, hi, t⟩ = 1 by simp [wrongC, hz])
     have z1 : (hi == 0) = false := beq_eq_false_iff_ne.2 hz
     have z2 : (hi != 0) = true := bne_iff_ne.2 hz
     clear hz
     go_upto_region 17 with (fail)
     have HX2 := HX
     have HG2 := Lib.hid ((blk_cell HG.out 0).trans (show _ = some (.int .i64 4) from rfl))
     obtain ⟨b0, b1, b2, b3, b4⟩ := cells5 HX2.out
     have a0 := HG2.out
     go_wp2
     go_ret
     rw [HW.out]
     exact ⟨rfl, HB.out⟩
   ·skip
    have HW := Lib.hid (show wrongC ⟨4, 0, lo, hi, t⟩ = 1 by simp [wrongC, hz])
    have z1 : (lo == 0) = false := beq_eq_false_iff_ne.2 hz
    have z2 : (lo != 0) = true := bne_iff_ne.2 hz
    clear hz
    go_upto_region 17 with (fail)
    have HX2 := HX
    have HG2 := Lib.hid ((blk_cell HG.out 0).trans (show _ = some (.int .i64 4) from rfl))
    obtain ⟨b0, b1, b2, b3, b4⟩ := cells5 HX2.out
    have a0 := HG2.out
    go_wp2
    go_ret
    rw [HW.out]
    exact ⟨rfl, HB.out⟩
  ·skip
   have HW := Lib.hid (show wrongC ⟨4, n, lo, hi, t⟩ = 1 by simp [wrongC, hz])
   have z1 : (n == 0) = false := beq_eq_false_iff_ne.2 hz
   have z2 : (n != 0) = true := bne_iff_ne.2 hz
   clear hz
   go_upto_region 17 with (fail)
   have HX2 := HX
   have HG2 := Lib.hid ((blk_cell HG.out 0).trans (show _ = some (.int .i64 4) from rfl))
   obtain ⟨b0, b1, b2, b3, b4⟩ := cells5 HX2.out
   have a0 := HG2.out
   go_wp2
   go_ret
   rw [HW.out]
   exact ⟨rfl, HB.out⟩
 have n4 := hk
 clear hk
 have HW := Lib.hid (show wrongC ⟨k, n, lo, hi, t⟩ = 1 by simp [wrongC, n0, n1, n2, n3, n4, n5])
 have m0 : (k == 0) = false := beq_eq_false_iff_ne.2 n0
 have m1 : (k == 1) = false := beq_eq_false_iff_ne.2 n1
 have m2 : (k == 2) = false := beq_eq_false_iff_ne.2 n2
 have m3 : (k == 3) = false := beq_eq_false_iff_ne.2 n3
 have m4 : (k == 4) = false := beq_eq_false_iff_ne.2 n4
 have m5 : (k == 5) = false := beq_eq_false_iff_ne.2 n5
 clear n0 n1 n2 n3 n4 n5
 have a0 := (blk_cell HG.out 0).trans (show _ = some (.int .i64 k) from rfl)
 go_wp2
 repeat (go_step3; go_wp2)
 try rw [Exit.noGoto_ret]
 go_ret
 rw [HW.out]
 exact ⟨rfl, HB.out⟩
def checkF : List S83 → Int → Option (Int × Int)
 | [], _ => none
 | x :: xs, i => if wrongC x = 0 then checkF xs (i + 1) else some (i, wrongC x)
def checkC (l : List S83) : Option (Int × Int) := if l.length > 32 then some (32, 14) else checkF l 0
def CheckPost (r : Option (Int × Int)) (e : Ending) (w' : World) : Prop :=
 match r with
 | none => e = .returned .nilIface
 | some (p, c) => ∃ v, e = .returned v ∧ Err w' v [p] (some c)
theorem rd_seg {l : List S83} {x : Int} {t : S83} {us : List S83} (h : l.drop x.toNat = t :: us) : rd_T83 l x = t := by
 have h1 : (l.drop x.toNat)[0]? = some t := by rw [h]; rfl
 have h2 : l[x.toNat]? = some t := by rw [List.getElem?_drop] at h1; exact h1
 simp [rd_T83, h2]
set_option maxRecDepth 100000 in
set_option maxHeartbeats 8000000 in
theorem check_calls (A : Option Addr) (c : Nat) (l : List S83) (w : World) (hs : Signs w) (hC : Kd.C k83 w A l.length l) (hc : l.length ≤ c) (htx : ∀ x ∈ l, x.f4.size ≤ 140737488351232) :
  Calls Tryd.prog 34 #[.slice A l.length c] w fun e w' => CheckPost (checkC l) e w' ∧ Below w.heap.size w w' := by
 have HS := Lib.hid hs
 have HC := Lib.hid hC
 have HCP := Lib.hid hc
 have HTX := Lib.hid htx
 clear hs hC hc htx
 go_enter Tryd.func34, Tryd.ntmps34
 by_cases h32 : (l.length : Int) > 32
 ·have HR := Lib.hid (show checkC l = some (32, 14) by unfold checkC; rw [if_pos (by omega)])
  have b32 : decide ((32 : Int) < (l.length : Int)) = true := decide_eq_true h32
  go_wp2_with fail
  refine (new_calls 14 32 w (by decide)).mono ?_
  rintro e w1 ⟨v, rfl, he, hb⟩
  have HE := Lib.hid he
  have HB := Lib.hid hb
  clear he hb
  go_wp2
  go_ret
  rw [HR.out]
  exact ⟨⟨v, rfl, HE.out⟩, HB.out⟩
 have HR := Lib.hid (show checkC l = checkF l 0 by unfold checkC; rw [if_neg (by omega)])
 have b32 : decide ((32 : Int) < (l.length : Int)) = false := decide_eq_false h32
 have hlen : (l.length : Int) ≤ 32 := by omega
 clear h32
 go_wp2
 repeat (go_step3; go_wp2)
 clear b32
 go_loopg [12] l.length (fun k vx wr => ∃ (x : Int), vx = .int .i64 x ∧ 0 ≤ x ∧ x ≤ (l.length : Int) ∧ checkF l 0 = checkF (l.drop x.toNat) x ∧ k + x.toNat = l.length ∧ Below w.heap.size w wr)
 case atStart => exact ⟨0, rfl, by omega, by omega, rfl, rfl, Below.refl _ _⟩
 case round =>
  obtain ⟨x, rfl, hx0, hx1, hD, hk, hB⟩ := hrel
  have HB := Lib.hid hB
  have HD := Lib.hid hD
  have HM := Lib.hid hk
  clear hB hD hk
  by_cases hx : x < (l.length : Int)
  case neg =>
   have hd : l.drop x.toNat = [] := List.drop_eq_nil_of_le (by omega)
   have HR2 := Lib.hid (show checkC l = none by rw [HR.out, HD.out, hd]; rfl)
   clear hd
   go_wp2
   go_ret
   rw [HR2.out]
   exact ⟨rfl, HB.out⟩
  obtain ⟨t, us, hd⟩ : ∃ t us, l.drop x.toNat = t :: us := by
   cases hd : l.drop x.toNat with
   | nil => have := List.drop_eq_nil_iff.1 hd; omega
   | cons t us => exact ⟨t, us, rfl⟩
  have hus : l.drop (x + 1).toNat = us := by
   rw [show (x + 1).toNat = x.toNat + 1 by omega, ← List.drop_drop, hd]
   rfl
  have HTS := Lib.hid (HTX.out t (List.mem_of_mem_drop (show t ∈ l.drop x.toNat by rw [hd]; exact List.mem_cons_self)))
  rw [hd] at HD
  have hCr := Kd.C_below HC.out (show Below w.heap.size w wr from HB.out)
  obtain ⟨ad, ea, k0, k1, k2, k3, k4⟩ := at_T83 hCr x hx0 hx
  clear hCr
  subst ea
  rw [rd_seg hd] at k0 k1 k2 k3 k4
  obtain ⟨t0, t1, t2, t3, t4⟩ := t
  dsimp only at k0 k1 k2 k3 k4 HTS
  have HUS := Lib.hid hus
  clear hd hus
  go_upto_region 6 with (fail)
  have hba := below_alloc (Below.refl wr.heap.size wr) (.cells #[.int .i64 t0, .int .i64 t1, .int .i64 t2, .int .i64 t3, .string t4] 83)
  have HT := Lib.hid (blk_new wr (.cells #[.int .i64 t0, .int .i64 t1, .int .i64 t2, .int .i64 t3, .string t4] 83))
  replace HB := Lib.hid (below_then HB.out HB.out.size hba)
  clear hba k0 k1 k2 k3 k4
  generalize (wr.alloc (.cells #[.int .i64 t0, .int .i64 t1, .int .i64 t2, .int .i64 t3, .string t4] 83)) = w5 at *
  generalize wr.heap.size = gt at *
  obtain ⟨c0, c1, c2, c3, c4⟩ := cells5 HT.out
  go_wp2_with fail
  refine (wrong_calls ⟨t0, t1, t2, t3, t4⟩ _ (HS.out.below HB.out (Nat.le_refl _)) HTS.out).mono ?_
  rintro e w6 ⟨rfl, hb_⟩
  replace HB := Lib.hid (below_then HB.out HB.out.size hb_)
  clear hb_ c0 c1 c2 c3 c4
  obtain ⟨q, hq⟩ : ∃ q, wrongC ⟨t0, t1, t2, t3, t4⟩ = q := ⟨_, rfl⟩
  have HD2 := Lib.hid (show checkF l 0 = if q = 0 then checkF us (x + 1) else some (x, q) by rw [HD.out]; simp only [checkF, hq])
  rw [hq]
  clear hq
  by_cases h0 : q = 0
  ·subst h0
   have HD3 := Lib.hid (show checkF l 0 = checkF (l.drop (x + 1).toNat) (x + 1) by rw [HD2.out, HUS.out]; rfl)
   go_wp2
   repeat (go_step3; go_wp2)
   go_roundg (l.length - (x.toNat + 1))
   case measure => have := HM.out; omega
   case rel => exact ⟨x + 1, rfl, by omega, by omega, HD3.out, by have := HM.out; omega, HB.out⟩
  ·have HR2 := Lib.hid (show checkC l = some (x, q) by rw [HR.out, HD2.out, if_neg h0])
   have b0 : (q != 0) = true := bne_iff_ne.2 h0
   have b1 : (q == 0) = false := beq_eq_false_iff_ne.2 h0
   have HQ := Lib.hid h0
   clear h0
   go_wp2_with fail
   refine (new_calls q x _ HQ.out).mono ?_
   rintro e w7 ⟨v, rfl, he, hb⟩
   have HE := Lib.hid he
   replace HB := Lib.hid (below_then HB.out HB.out.size hb)
   clear he hb
   go_wp2
   repeat (go_step3; go_wp2)
   try rw [Exit.noGoto_ret]
   go_ret
   rw [HR2.out]
   exact ⟨⟨v, rfl, HE.out⟩, HB.out⟩
end Go.Proofs.YtkbjblhompkdkaaDoor
