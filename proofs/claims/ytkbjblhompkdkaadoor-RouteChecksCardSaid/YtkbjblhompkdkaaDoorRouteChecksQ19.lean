/- YtkbjblhompkdkaaDoorRouteChecksQ19: LawRouteChecks -/
import Derived.Test.YtkbjblhompkdkaaDoorRouteChecksQ7
import Derived.Test.YtkbjblhompkdkaaDoorRouteChecksQ18
namespace Go.Proofs.YtkbjblhompkdkaaDoor.routeChecks
open Go.ChangeShapes Go.WideShapes Go.ChangeAt Go.RowKit Go.Proofs.YtkbjblhompkdkaaDoor.LexRow
open Go.ChangeMaps (open_string shut_string)
set_option linter.unusedVariables false
set_option maxRecDepth 100000 in
theorem lifted (os:Os) (started:os.Started) (H:Type) (enc:TypeId × Value→H) :
  ReturnsInHanded {} Tryd.checked os 13 .any (fun w args=>(Rows.routeChecksSpec.pre enc Tryd.prog Tryd.f13 [] false w args∧laidMetH Tryd.prog laid w)∧sizedMet enc Tryd.prog Tryd.f13 (OpenSpec.ofChange Rows.routeChecksSpec) false w args)
   (Rows.routeChecksSpec.post enc Tryd.prog Tryd.f13 false true false false):=by
 refine returnsInHanded_of_change_and (C:=Tryd.checked) (X:=fun w _=>laidMetH Tryd.prog laid w) (fun _ _ _ hh h=>h.of_heap hh) own started (by kernel_rfl) Tryd.func13
  (ChangeSpec.witness_at (enc:=enc) (C:=Tryd.checked) (os:=os) (X:=fun w _=>laidMetH Tryd.prog laid w) false (laidWorld os) #[.slice none 0 0] 8 rfl (by kernel_rfl) (by kernel_rfl) (by kernel_rfl) (by kernel_rfl) (by kernel_rfl) (laidWorld_met os _)) ?_
 intro W base args ds gs before hval0 hW hcnd hsz0 hL _;have hsz:(DataW.weightsEach Tryd.prog (Tryd.f13.params.toList++Rows.routeChecksSpec.plain.varTypes Tryd.prog) (ds++gs)).all (· ≤ reachBytes)=true:=hsz0;have hval:∀ (j:Nat) t v,Tryd.f13.params[j]? = some t→args[j]? = some v→Value.okWide Tryd.prog W .any base t v:=hval0;have hW':=hW;obtain ⟨p,q,hA0,hV,rfl,hfz,hnd⟩:=hW;have hA:DataW.TrodAll enc Tryd.prog W 0 (fun _=>true) true Tryd.f13.params.toList args.toList ds p:=hA0;rw [Tryd.params13] at hA hval hsz;obtain ⟨v0,vs0,d0,ds0,p0,q0,hargs,rfl,rfl,h0,r0⟩:=trodAll_cons hA;obtain ⟨rfl,rfl,rfl⟩:=trodAll_nil r0;(obtain rfl:args = #[v0]:=by cases args;simp_all);obtain ⟨rfl,rfl⟩:=trodVars_none hV;obtain ⟨a0,len0,cap0,rfl⟩:=okWide_slice Tryd.underlying50 (hval 0 50 v0 rfl rfl);have k0:=h0;(have lt0:∀ x ∈ p0,x.block < W.heap.size:=by obtain ⟨m,hm⟩:=k0;exact DataW.trod_lt m _ _ _ hm);obtain ⟨l0,rfl,hC0,hcap0,hin0⟩:∃ l,len0=List.length l∧Go.Proofs.YtkbjblhompkdkaaDoorW.PrintWords.Kd.C PB.k83 W a0 l.length l∧l.length≤cap0∧∀ y ∈ l,-9223372036854775808≤y.f0∧y.f0≤9223372036854775807 ∧ -9223372036854775808≤y.f1∧y.f1≤9223372036854775807 ∧ -9223372036854775808≤y.f2∧y.f2≤9223372036854775807 ∧ -9223372036854775808≤y.f3∧y.f3≤9223372036854775807:=by
  obtain ⟨fuel,hf⟩:=h0;exact open_segs hf
 have hg:=handle_of_laid hL;have hs:=signs_of_laid hL;clear hA0 hval0 hsz0;refine (routeChecks_walk a0 cap0 l0 W hs hg hC0 hcap0 (fun y hy=>⟨(hin0 y hy).2.2.1,(hin0 y hy).2.2.2.1,(hin0 y hy).2.2.2.2.1,(hin0 y hy).2.2.2.2.2.1,(hin0 y hy).2.2.2.2.2.2.1,(hin0 y hy).2.2.2.2.2.2.2⟩)).mono fun e W' ⟨he,bel⟩=>?_;subst he;exact ⟨_,rfl,_,_,_,[],_,[],hW',trodAll_mk1 (shut_bool Tryd.underlying4 _),(trodAll_cons_mk (Below.trod laidOut (by kernel_rfl) (of_decide_eq_true (by kernel_rfl)) k0 bel lt0) trodAll_mk0),rfl,bel.frame _,fun h=>by cases h⟩
theorem over:Rows.routeChecksRow.holds Tryd.pinned (OpenSpec.ofChange Rows.routeChecksSpec):=
 OpenClaim.holds_of_wide 13 Tryd.f13 rfl rfl rfl rfl rfl rfl rfl ⟨rfl,rfl,rfl,rfl,rfl⟩ rfl rfl rfl rfl rfl (by kernel_rfl) Tryd.func13 (by kernel_rfl)
  (of_decide_eq_true (by kernel_rfl)) (by unfold Func.isWrapper;first|(rw [if_pos (by decide +kernel)];kernel_rfl)|(rw [if_neg (by decide +kernel)];exact ⟨rfl,rfl⟩))
  (fun os started H enc _=>lifted os started H enc)
theorem wants (j:Nat) (t:TypeId) (ht:Tryd.f13.params[j]? = some t):Tryd.prog.wantsStandIn t=false:=by
 have h:=Array.mem_of_getElem? ht;rw [Tryd.params13] at h;simp only [List.mem_toArray,List.mem_cons,List.not_mem_nil,or_false] at h;rcases h with h
 ·subst h;exact (show Tryd.prog.wantsStandIn 50=false by kernel_rfl)
theorem card:Rows.RouteChecksCardSaid:=
 Claim7.holds_tied_plain_at .later [] [.handle,.data] true (true, "edcbbcd970a0f93c54c5d8bd4b7b7f91c6e5e73c78f36d4bf8626c668a52f856") true
  over (fun _ h=>by cases h) (by kernel_rfl) (fun _ h=>by cases h) routeChecks_row_tie rfl ⟨rfl,rfl⟩ (by kernel_rfl) rfl
  (fun f fn hf hfn=>by
   obtain rfl:f=13:=Option.some.inj ((show Tryd.prog.funcNamed "placket/placketlaw16.RouteChecks" = some 13 by kernel_rfl).symm.trans hf) |>.symm;obtain rfl:fn=Tryd.f13:=(Option.some.inj (Tryd.func13.symm.trans hfn)).symm;exact ⟨by kernel_rfl,fun j t ht=>wants j t ht⟩)
  (by kernel_rfl)
end Go.Proofs.YtkbjblhompkdkaaDoor.routeChecks
namespace Go.Proofs.YtkbjblhompkdkaaDoor
theorem routeChecks_card:Rows.RouteChecksCardSaid:=routeChecks.card
#print axioms routeChecks_card
end Go.Proofs.YtkbjblhompkdkaaDoor
