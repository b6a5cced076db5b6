/- YtkbjblhompkdkaaDoorRouteToldQ11: LawRouteTold -/
import Derived.Test.YtkbjblhompkdkaaDoorRouteToldQ4
import Derived.Test.YtkbjblhompkdkaaDoorRouteToldQ10
namespace Go.Proofs.YtkbjblhompkdkaaDoor.routeTold
open Go.ChangeShapes Go.WideShapes Go.ChangeAt Go.RowKit Go.Proofs.YtkbjblhompkdkaaDoor.LexRow
open Go.ChangeMaps (open_string shut_string)
set_option linter.unusedVariables false
set_option maxRecDepth 100000 in
theorem lifted (os : Os) (started : os.Started) (H : Type) (enc : TypeId × Value → H) :
  ReturnsInHanded {} Tryd.checked os 11 .any (fun w args => (Rows.routeToldSpec.pre enc Tryd.prog Tryd.f11 [] false w args ∧ laidMetH Tryd.prog laidS w) ∧ sizedMet enc Tryd.prog Tryd.f11 (OpenSpec.ofChange Rows.routeToldSpec) false w args)
   (Rows.routeToldSpec.post enc Tryd.prog Tryd.f11 false true false false) := by
 refine returnsInHanded_of_change_and (C := Tryd.checked) (X := fun w _ => laidMetH Tryd.prog laidS w) (fun _ _ _ hh h => h.of_heap hh) own started (by kernel_rfl) Tryd.func11
  (ChangeSpec.witness_at (enc := enc) (C := Tryd.checked) (os := os) (X := fun w _ => laidMetH Tryd.prog laidS w) false (laidWorld os) #[.slice none 0 0] 8 rfl (by kernel_rfl) (by kernel_rfl) (by kernel_rfl) (by kernel_rfl) (by kernel_rfl) (laidWorld_signs os _)) ?_
 intro W base args ds gs before hval0 hW hcnd hsz0 hL _
 have hsz : (DataW.weightsEach Tryd.prog (Tryd.f11.params.toList ++ Rows.routeToldSpec.plain.varTypes Tryd.prog) (ds ++ gs)).all (· ≤ reachBytes) = true := hsz0
 have hval : ∀ (j : Nat) t v, Tryd.f11.params[j]? = some t → args[j]? = some v → Value.okWide Tryd.prog W .any base t v := hval0
 have hW' := hW
 obtain ⟨p, q, hA0, hV, rfl, hfz, hnd⟩ := hW
 have hA : DataW.TrodAll enc Tryd.prog W 0 (fun _ => true) true Tryd.f11.params.toList args.toList ds p := hA0
 rw [Tryd.params11] at hA hval hsz
 obtain ⟨v0, vs0, d0, ds0, p0, q0, hargs, rfl, rfl, h0, r0⟩ := trodAll_cons hA
 obtain ⟨rfl, rfl, rfl⟩ := trodAll_nil r0
 obtain rfl : args = #[v0] := by cases args; simp_all
 obtain ⟨rfl, rfl⟩ := trodVars_none hV
 obtain ⟨a0, len0, cap0, rfl⟩ := okWide_slice Tryd.underlying57 (hval 0 57 v0 rfl rfl)
 have k0 := h0
 have lt0 : ∀ x ∈ p0, x.block < W.heap.size := by obtain ⟨m, hm⟩ := k0; exact DataW.trod_lt m _ _ _ hm
 obtain ⟨l0, rfl, hC0, hcap0, hin0⟩ : ∃ l, len0 = List.length l ∧ Go.Proofs.YtkbjblhompkdkaaDoorW.PrintWords.Kd.C PB.k59 W a0 l.length l ∧ l.length ≤ cap0 ∧ ∀ y ∈ l, -9223372036854775808 ≤ y.f0 ∧ y.f0 ≤ 9223372036854775807 ∧ -9223372036854775808 ≤ y.f1 ∧ y.f1 ≤ 9223372036854775807 := by
  obtain ⟨fuel, hf⟩ := h0
  exact open_steps hf
 have hs := signs_of_met hL
 clear hA0 hval0 hsz0
 refine (routeTold_walk a0 cap0 l0 W hs hC0 hcap0).mono fun e W' ⟨he, bel⟩ => ?_
 subst he
 exact ⟨_, rfl, _, _, _, [], _, [], hW', trodAll_mk1 (shut_bool Tryd.underlying4 _), (trodAll_cons_mk (Below.trod laidOut (by kernel_rfl) (of_decide_eq_true (by kernel_rfl)) k0 bel lt0) trodAll_mk0), rfl, bel.frame _, fun h => by cases h⟩
theorem over : Rows.routeToldRow.holds Tryd.pinned (OpenSpec.ofChange Rows.routeToldSpec) :=
 OpenClaim.holds_of_wide 11 Tryd.f11 rfl rfl rfl rfl rfl rfl rfl ⟨rfl, rfl, rfl, rfl, rfl⟩ rfl rfl rfl rfl rfl (by kernel_rfl) Tryd.func11 (by kernel_rfl)
  (of_decide_eq_true (by kernel_rfl)) (by unfold Func.isWrapper; first | (rw [if_pos (by decide +kernel)]; kernel_rfl) | (rw [if_neg (by decide +kernel)]; exact ⟨rfl, rfl⟩))
  (fun os started H enc _ => lifted os started H enc)
theorem wants (j : Nat) (t : TypeId) (ht : Tryd.f11.params[j]? = some t) : Tryd.prog.wantsStandIn t = false := by
 have h := Array.mem_of_getElem? ht
 rw [Tryd.params11] at h
 simp only [List.mem_toArray, List.mem_cons, List.not_mem_nil, or_false] at h
 rcases h with h
 ·subst h; exact (show Tryd.prog.wantsStandIn 57 = false by kernel_rfl)
theorem card : Rows.RouteToldCardSaid :=
 Claim7.holds_tied_plain_at .later [] [.data] true (true, "edcbbcd970a0f93c54c5d8bd4b7b7f91c6e5e73c78f36d4bf8626c668a52f856") true
  over (fun _ h => by cases h) (by kernel_rfl) (fun _ h => by cases h) routeTold_row_tie rfl ⟨rfl, rfl⟩ (by kernel_rfl) rfl
  (fun f fn hf hfn => by
   obtain rfl : f = 11 := Option.some.inj ((show Tryd.prog.funcNamed "placket/placketlaw16.RouteTold" = some 11 by kernel_rfl).symm.trans hf) |>.symm
   obtain rfl : fn = Tryd.f11 := (Option.some.inj (Tryd.func11.symm.trans hfn)).symm
   exact ⟨by kernel_rfl, fun j t ht => wants j t ht⟩)
  (by kernel_rfl)
end Go.Proofs.YtkbjblhompkdkaaDoor.routeTold
namespace Go.Proofs.YtkbjblhompkdkaaDoor
theorem routeTold_card : Rows.RouteToldCardSaid := routeTold.card
#print axioms routeTold_card
end Go.Proofs.YtkbjblhompkdkaaDoor
