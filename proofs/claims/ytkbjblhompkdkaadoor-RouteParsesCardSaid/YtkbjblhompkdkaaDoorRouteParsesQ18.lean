/- YtkbjblhompkdkaaDoorRouteParsesQ18: LawRouteParses -/
import Derived.Test.YtkbjblhompkdkaaDoorRouteParsesQ5
import Derived.Test.YtkbjblhompkdkaaDoorRouteParsesQ17
namespace Go.Proofs.YtkbjblhompkdkaaDoor.routeParses
open Go.ChangeShapes Go.WideShapes Go.ChangeAt Go.RowKit Go.Proofs.YtkbjblhompkdkaaDoor.LexRow
open Go.ChangeMaps (open_string shut_string)
set_option linter.unusedVariables false
set_option maxRecDepth 100000 in
theorem lifted (os:Os) (started:os.Started) (H:Type) (enc:TypeId × Value→H) :
  ReturnsInHanded {} Tryd.checked os 14 .any (fun w args=>(Rows.routeParsesSpec.pre enc Tryd.prog Tryd.f14 [] false w args∧laidMetH Tryd.prog laid w)∧sizedMet enc Tryd.prog Tryd.f14 (OpenSpec.ofChange Rows.routeParsesSpec) false w args)
   (Rows.routeParsesSpec.post enc Tryd.prog Tryd.f14 false true false false):=by
 refine returnsInHanded_of_change_and (C:=Tryd.checked) (X:=fun w _=>laidMetH Tryd.prog laid w) (fun _ _ _ hh h=>h.of_heap hh) own started (by kernel_rfl) Tryd.func14
  (ChangeSpec.witness_at (enc:=enc) (C:=Tryd.checked) (os:=os) (X:=fun w _=>laidMetH Tryd.prog laid w) false (laidWorld os) #[.string ByteArray.empty] 8 rfl (by kernel_rfl) (by kernel_rfl) (by kernel_rfl) (by kernel_rfl) (by kernel_rfl) (laidWorld_met os _)) ?_
 intro W base args ds gs before hval0 hW hcnd hsz0 hL _;have hsz:(DataW.weightsEach Tryd.prog (Tryd.f14.params.toList++Rows.routeParsesSpec.plain.varTypes Tryd.prog) (ds++gs)).all (· ≤ reachBytes)=true:=hsz0;have hval:∀ (j:Nat) t v,Tryd.f14.params[j]? = some t→args[j]? = some v→Value.okWide Tryd.prog W .any base t v:=hval0;have hW':=hW;obtain ⟨p,q,hA0,hV,rfl,hfz,hnd⟩:=hW;have hA:DataW.TrodAll enc Tryd.prog W 0 (fun _=>true) true Tryd.f14.params.toList args.toList ds p:=hA0;rw [Tryd.params14] at hA hval hsz;obtain ⟨v0,vs0,d0,ds0,p0,q0,hargs,rfl,rfl,h0,r0⟩:=trodAll_cons hA;obtain ⟨rfl,rfl,rfl⟩:=trodAll_nil r0;(obtain rfl:args = #[v0]:=by cases args;simp_all);obtain ⟨rfl,rfl⟩:=trodVars_none hV;obtain ⟨a0,rfl,rfl,rfl,y0⟩:=open_string Tryd.underlying9 (hval 0 9 v0 rfl rfl) h0;have w0:a0.size≤140737488351232:=by
  have z:=sized_string hsz (j:=0) (t:=9) rfl rfl;rw [Array.length_toList] at z;exact z
 have hg:=handle_of_laid hL;have hs:=signs_of_laid hL;clear hA0 hval0 hsz0;refine (routeParses_walk a0 W hs hg w0).mono fun e W' ⟨he,bel⟩=>?_;subst he;exact ⟨_,rfl,_,_,_,[],_,[],hW',trodAll_mk1 (shut_bool Tryd.underlying4 _),(trodAll_cons_mk (shut_string Tryd.underlying9 y0) trodAll_mk0),rfl,bel.frame _,fun h=>by cases h⟩
theorem over:Rows.routeParsesRow.holds Tryd.pinned (OpenSpec.ofChange Rows.routeParsesSpec):=
 OpenClaim.holds_of_wide 14 Tryd.f14 rfl rfl rfl rfl rfl rfl rfl ⟨rfl,rfl,rfl,rfl,rfl⟩ rfl rfl rfl rfl rfl (by kernel_rfl) Tryd.func14 (by kernel_rfl)
  (of_decide_eq_true (by kernel_rfl)) (by unfold Func.isWrapper;first|(rw [if_pos (by decide +kernel)];kernel_rfl)|(rw [if_neg (by decide +kernel)];exact ⟨rfl,rfl⟩))
  (fun os started H enc _=>lifted os started H enc)
theorem wants (j:Nat) (t:TypeId) (ht:Tryd.f14.params[j]? = some t):Tryd.prog.wantsStandIn t=false:=by
 have h:=Array.mem_of_getElem? ht;rw [Tryd.params14] at h;simp only [List.mem_toArray,List.mem_cons,List.not_mem_nil,or_false] at h;rcases h with h
 ·subst h;exact (show Tryd.prog.wantsStandIn 9=false by kernel_rfl)
theorem card:Rows.RouteParsesCardSaid:=
 Claim7.holds_tied_plain_at .later [] [.handle,.data] true (true, "edcbbcd970a0f93c54c5d8bd4b7b7f91c6e5e73c78f36d4bf8626c668a52f856") true
  over (fun _ h=>by cases h) (by kernel_rfl) (fun _ h=>by cases h) routeParses_row_tie rfl ⟨rfl,rfl⟩ (by kernel_rfl) rfl
  (fun f fn hf hfn=>by
   obtain rfl:f=14:=Option.some.inj ((show Tryd.prog.funcNamed "placket/placketlaw16.RouteParses" = some 14 by kernel_rfl).symm.trans hf) |>.symm;obtain rfl:fn=Tryd.f14:=(Option.some.inj (Tryd.func14.symm.trans hfn)).symm;exact ⟨by kernel_rfl,fun j t ht=>wants j t ht⟩)
  (by kernel_rfl)
end Go.Proofs.YtkbjblhompkdkaaDoor.routeParses
namespace Go.Proofs.YtkbjblhompkdkaaDoor
theorem routeParses_card:Rows.RouteParsesCardSaid:=routeParses.card
#print axioms routeParses_card
end Go.Proofs.YtkbjblhompkdkaaDoor
