/- YtkbjblhompkdkaaDoorRouteParsesQ2: LexErr, Given, PAx0 -/
import Derived.Test.YtkbjblhompkdkaaDoorProg
import Derived.WalkKit
import Derived.LaidEql
import Derived.Stop.Asserts
import Derived.RowKitTokens
import Derived.Deep.LoopGhost
import Derived.Below
import Derived.Lib.Hide
import Derived.Test.YtkbjblhompkdkaaDoorRouteParsesQ0
import Derived.Test.YtkbjblhompkdkaaDoorRouteParsesQ1
import Derived.KernelRfl
import Derived.RowKit3
import Derived.Laws.BytesArg
import Derived.Deep.Draws
import Derived.Deep.AppendLies
import Derived.Maps.AppendAt
import Derived.OwnWalk
import Derived.Laws.MakeOwn
import Derived.Laws.OwnMore
import Derived.Deep.OwnRows
import Derived.Tactics
import Derived.Lib.ConvBytes
import Derived.Laws.Slices
import Derived.Deep.QuietTactic
import Derived.BigQuiet
import Derived.WideLaws
import Derived.Deep.DeepCutAuto
import Derived.Deep.CutBlock
import Derived.Deep.RegionHeld3
import Derived.Laws.Rows
import Derived.Lib.AppendStr
import Derived.ArgAppend
import Derived.Laws.IdiomCopy
import Derived.OrdersHeld
import Derived.Laws.BitsLemmas
import Derived.RowKit
namespace Go.Proofs.YtkbjblhompkdkaaDoor
open Go.RowKit Go.Extern.Stop Go.Stop Go.Extern
set_option linter.unusedVariables false
set_option linter.unusedSimpArgs false
def Err (w:World):Value→List Int→Option Int→Prop
 | v,[],some c=>v = .iface 29 (.int .i64 c)
 | v,[],none=>v = .nilIface
 | v,a :: l,c=>∃ b u,v = .iface 100 (.pointer (some ⟨b,0,none⟩))∧w.cell? ⟨b,0,none⟩=some (.int .i64 a)∧w.cell? ⟨b,1,none⟩=some u∧Err w u l c
theorem lt_of_cell {w:World} {b o:Nat} {v:Value} (h:w.cell? ⟨b,o,none⟩=some v):b < w.heap.size:=by
 rcases Nat.lt_or_ge b w.heap.size with h'|h'
 ·exact h'
 ·simp [World.cell?,Array.getElem?_eq_none h'] at h
theorem Err.below {w w':World} {n:Nat} (hb:Below n w w') (hn:w.heap.size≤n) {l:List Int} {c:Option Int}:∀ {v:Value},Err w v l c→Err w' v l c:=by
 induction l with
 | nil=>intro v h;cases c <;> exact h
 | cons a l ih=>
  rintro v ⟨b,u,rfl,h1,h2,h3⟩;have hlt:=lt_of_cell h1;exact ⟨b,u,rfl,(hb.cell (by show b < n;omega)).trans h1,(hb.cell (by show b < n;omega)).trans h2,ih h3⟩
theorem R.valueOfPF (t:Addr) (w:World):(ReflectliteValue.unpack (.iface 110 (.pointer (some t)))).run Tryd.prog w
  = .ok (.agg #[.pointer (some ⟨2,110,none⟩),.pointer (some ⟨w.heap.size,0,none⟩),.int .u64 150]) (w.alloc (.cells #[.pointer (some t)] 110)):=by kernel_rfl
theorem R.valueOfPE (t:Addr) (w:World):(ReflectliteValue.unpack (.iface 109 (.pointer (some t)))).run Tryd.prog w
  = .ok (.agg #[.pointer (some ⟨2,109,none⟩),.pointer (some ⟨w.heap.size,0,none⟩),.int .u64 150]) (w.alloc (.cells #[.pointer (some t)] 109)):=by kernel_rfl
theorem R.valueOfF (e:Addr) (w:World):(ReflectliteValue.unpack (.iface 100 (.pointer (some e)))).run Tryd.prog w
  = .ok (.agg #[.pointer (some ⟨2,100,none⟩),.pointer (some ⟨w.heap.size,0,none⟩),.int .u64 150]) (w.alloc (.cells #[.pointer (some e)] 100)):=by kernel_rfl
theorem R.valueOfE (c:Int) (w:World):(ReflectliteValue.unpack (.iface 29 (.int .i64 c))).run Tryd.prog w
  = .ok (.agg #[.pointer (some ⟨2,29,none⟩),.pointer (some ⟨w.heap.size,0,none⟩),.int .u64 130]) (w.alloc (.cells #[.int .i64 c] 29)):=by kernel_rfl
theorem R.typePF (a:Addr) (w:World):(ReflectliteValue.methodAny (ReflectliteValue.valueError "reflectlite.Value.Type" 0) (fun t _ _ _=>ReflectliteType.toType t) #[.agg #[.pointer (some ⟨2,110,none⟩),.pointer (some a),.int .u64 150]]).run Tryd.prog w
  = .ok (.iface 137 (.agg #[.pointer (some ⟨2,110,none⟩)])) w:=by kernel_rfl
theorem R.typePE (a:Addr) (w:World):(ReflectliteValue.methodAny (ReflectliteValue.valueError "reflectlite.Value.Type" 0) (fun t _ _ _=>ReflectliteType.toType t) #[.agg #[.pointer (some ⟨2,109,none⟩),.pointer (some a),.int .u64 150]]).run Tryd.prog w
  = .ok (.iface 137 (.agg #[.pointer (some ⟨2,109,none⟩)])) w:=by kernel_rfl
theorem R.methodKind (h:Value) (w:World):(Go.method 280 137 (.agg #[h]) "Kind").run Tryd.prog w = .ok (120,h) w:=by kernel_rfl
theorem R.kindPF (w:World):((ReflectliteType.abiMethod fun t=>(fun a:Nat=>Value.int IntKind.u8 (a:Int)) <$> Rtype.kind t) #[.pointer (some ⟨2,110,none⟩)]).run Tryd.prog w = .ok (.int .u8 22) w:=by kernel_rfl
theorem R.kindF (w:World):((ReflectliteType.abiMethod fun t=>(fun a:Nat=>Value.int IntKind.u8 (a:Int)) <$> Rtype.kind t) #[.pointer (some ⟨2,100,none⟩)]).run Tryd.prog w = .ok (.int .u8 22) w:=by kernel_rfl
theorem R.kindPE (w:World):((ReflectliteType.abiMethod fun t=>(fun a:Nat=>Value.int IntKind.u8 (a:Int)) <$> Rtype.kind t) #[.pointer (some ⟨2,109,none⟩)]).run Tryd.prog w = .ok (.int .u8 22) w:=by kernel_rfl
theorem R.kindE (w:World):((ReflectliteType.abiMethod fun t=>(fun a:Nat=>Value.int IntKind.u8 (a:Int)) <$> Rtype.kind t) #[.pointer (some ⟨2,29,none⟩)]).run Tryd.prog w = .ok (.int .u8 2) w:=by kernel_rfl
theorem rlm (z:Sem Value) (f:TypeId→Addr→Nat→Nat→Sem Value) (v:Value) :
  ReflectliteValue.method z f #[v]=(do match ← ReflectliteValue.parts v with|none=>z|some (t,a,fl)=>f t a fl (fl % 32)):=rfl
theorem R.partsPF (a:Addr) (w:World):(ReflectliteValue.parts (.agg #[.pointer (some ⟨2,110,none⟩),.pointer (some a),.int .u64 150])).run Tryd.prog w = .ok (some (110,a,150)) w:=by kernel_rfl
theorem R.partsPE (a:Addr) (w:World):(ReflectliteValue.parts (.agg #[.pointer (some ⟨2,109,none⟩),.pointer (some a),.int .u64 150])).run Tryd.prog w = .ok (some (109,a,150)) w:=by kernel_rfl
theorem R.isNilPF (a p:Addr) (W:World) (ha:W.cell? a=some (.pointer (some p))) :
  (ReflectliteValue.method (ReflectliteValue.valueError "reflectlite.Value.IsNil" 0) ReflectliteValue.isNil #[.agg #[.pointer (some ⟨2,110,none⟩),.pointer (some a),.int .u64 150]]).run Tryd.prog W = .ok (.bool false) W:=by
 rw [rlm];simp only [Sem.run_bind,R.partsPF,Result.andThen];simp [ReflectliteValue.isNil,loadVar,isAgg,underlying,Tryd.underlying110,ha,Result.andThen]
theorem R.isNilPE (a p:Addr) (W:World) (ha:W.cell? a=some (.pointer (some p))) :
  (ReflectliteValue.method (ReflectliteValue.valueError "reflectlite.Value.IsNil" 0) ReflectliteValue.isNil #[.agg #[.pointer (some ⟨2,109,none⟩),.pointer (some a),.int .u64 150]]).run Tryd.prog W = .ok (.bool false) W:=by
 rw [rlm];simp only [Sem.run_bind,R.partsPE,Result.andThen];simp [ReflectliteValue.isNil,loadVar,isAgg,underlying,Tryd.underlying109,ha,Result.andThen]
theorem R.methodElem (h:Value) (w:World):(Go.method 280 137 (.agg #[h]) "Elem").run Tryd.prog w = .ok (132,.agg #[h]) w:=by kernel_rfl
theorem R.methodImplements (h:Value) (w:World):(Go.method 280 137 (.agg #[h]) "Implements").run Tryd.prog w = .ok (133,.agg #[h]) w:=by kernel_rfl
theorem R.methodAssignableTo (h:Value) (w:World):(Go.method 280 137 (.agg #[h]) "AssignableTo").run Tryd.prog w = .ok (130,.agg #[h]) w:=by kernel_rfl
theorem R.methodUnwrap (h:Value) (w:World):(Go.method 280 100 h "Unwrap").run Tryd.prog w = .ok (125,h) w:=by kernel_rfl
theorem R.elemPF (w:World):(ReflectliteType.method ReflectliteType.elem #[.agg #[.pointer (some ⟨2,110,none⟩)]]).run Tryd.prog w = .ok (.iface 137 (.agg #[.pointer (some ⟨2,100,none⟩)])) w:=by kernel_rfl
theorem R.elemPE (w:World):(ReflectliteType.method ReflectliteType.elem #[.agg #[.pointer (some ⟨2,109,none⟩)]]).run Tryd.prog w = .ok (.iface 137 (.agg #[.pointer (some ⟨2,29,none⟩)])) w:=by kernel_rfl
theorem R.implementsF (w:World):(ReflectliteType.relation "Implements" ReflectliteType.implements_ #[.agg #[.pointer (some ⟨2,100,none⟩)],.iface 137 (.agg #[.pointer (some ⟨2,26,none⟩)])]).run Tryd.prog w = .ok (.bool true) w:=by kernel_rfl
theorem R.implementsE (w:World):(ReflectliteType.relation "Implements" ReflectliteType.implements_ #[.agg #[.pointer (some ⟨2,29,none⟩)],.iface 137 (.agg #[.pointer (some ⟨2,26,none⟩)])]).run Tryd.prog w = .ok (.bool true) w:=by kernel_rfl
theorem R.typeOfF (v:Value) (w:World):(ReflectliteType.typeOf #[.iface 100 v]).run Tryd.prog w = .ok (.iface 137 (.agg #[.pointer (some ⟨2,100,none⟩)])) w:=by kernel_rfl
theorem R.typeOfE (v:Value) (w:World):(ReflectliteType.typeOf #[.iface 29 v]).run Tryd.prog w = .ok (.iface 137 (.agg #[.pointer (some ⟨2,29,none⟩)])) w:=by kernel_rfl
theorem R.assignableFF (w:World):(ReflectliteType.relation "AssignableTo" ReflectliteType.assignableTo #[.agg #[.pointer (some ⟨2,100,none⟩)],.iface 137 (.agg #[.pointer (some ⟨2,100,none⟩)])]).run Tryd.prog w = .ok (.bool true) w:=by kernel_rfl
theorem R.assignableFE (w:World):(ReflectliteType.relation "AssignableTo" ReflectliteType.assignableTo #[.agg #[.pointer (some ⟨2,100,none⟩)],.iface 137 (.agg #[.pointer (some ⟨2,29,none⟩)])]).run Tryd.prog w = .ok (.bool false) w:=by kernel_rfl
theorem R.assignableEF (w:World):(ReflectliteType.relation "AssignableTo" ReflectliteType.assignableTo #[.agg #[.pointer (some ⟨2,29,none⟩)],.iface 137 (.agg #[.pointer (some ⟨2,100,none⟩)])]).run Tryd.prog w = .ok (.bool false) w:=by kernel_rfl
theorem R.assignableEE (w:World):(ReflectliteType.relation "AssignableTo" ReflectliteType.assignableTo #[.agg #[.pointer (some ⟨2,29,none⟩)],.iface 137 (.agg #[.pointer (some ⟨2,29,none⟩)])]).run Tryd.prog w = .ok (.bool true) w:=by kernel_rfl
theorem R.noAsF (v:Value) (xT:TypeId) (w:World):(Instr.typeAssert (.iface 100 v) xT 142 true).run Tryd.prog w = .ok (.tuple #[.nilIface,.bool false]) w:=run_typeAssert_lacksB Tryd.underlying142 (by kernel_rfl) (by kernel_rfl) v xT w
theorem R.noAsE (v:Value) (xT:TypeId) (w:World):(Instr.typeAssert (.iface 29 v) xT 142 true).run Tryd.prog w = .ok (.tuple #[.nilIface,.bool false]) w:=run_typeAssert_lacksB Tryd.underlying142 (by kernel_rfl) (by kernel_rfl) v xT w
theorem R.hasUnwrapF (v:Value) (xT:TypeId) (w:World):(Instr.typeAssert (.iface 100 v) xT 145 true).run Tryd.prog w = .ok (.tuple #[.iface 100 v,.bool true]) w:=run_typeAssert_hasB Tryd.underlying145 (by kernel_rfl) v xT w
theorem R.noUnwrapE (v:Value) (xT:TypeId) (w:World):(Instr.typeAssert (.iface 29 v) xT 145 true).run Tryd.prog w = .ok (.tuple #[.nilIface,.bool false]) w:=run_typeAssert_lacksB Tryd.underlying145 (by kernel_rfl) (by kernel_rfl) v xT w
theorem R.noUnwrapsE (v:Value) (xT:TypeId) (w:World):(Instr.typeAssert (.iface 29 v) xT 147 true).run Tryd.prog w = .ok (.tuple #[.nilIface,.bool false]) w:=run_typeAssert_lacksB Tryd.underlying147 (by kernel_rfl) (by kernel_rfl) v xT w
theorem R.elemOfPF (w:World):(Rtype.elem? 110).run Tryd.prog w = .ok (some 100) w:=by kernel_rfl
theorem R.elemOfPE (w:World):(Rtype.elem? 109).run Tryd.prog w = .ok (some 29) w:=by kernel_rfl
theorem R.mkF (p:Addr) (w:World):(ReflectliteValue.mk 100 p ReflectliteValue.flagAddr).run Tryd.prog w = .ok (.agg #[.pointer (some ⟨2,100,none⟩),.pointer (some p),.int .u64 406]) w:=by kernel_rfl
theorem R.mkE (p:Addr) (w:World):(ReflectliteValue.mk 29 p ReflectliteValue.flagAddr).run Tryd.prog w = .ok (.agg #[.pointer (some ⟨2,29,none⟩),.pointer (some p),.int .u64 386]) w:=by kernel_rfl
theorem R.elemVPF (a p:Addr) (W:World) (ha:W.cell? a=some (.pointer (some p))) :
  (ReflectliteValue.method (ReflectliteValue.valueError "reflectlite.Value.Elem" 0) ReflectliteValue.elem #[.agg #[.pointer (some ⟨2,110,none⟩),.pointer (some a),.int .u64 150]]).run Tryd.prog W
   = .ok (.agg #[.pointer (some ⟨2,100,none⟩),.pointer (some p),.int .u64 406]) W:=by
 rw [rlm];simp only [Sem.run_bind,R.partsPF,Result.andThen];simp [ReflectliteValue.elem,loadVar,isAgg,underlying,Tryd.underlying110,ha,Result.andThen,R.elemOfPF,R.mkF]
theorem R.elemVPE (a p:Addr) (W:World) (ha:W.cell? a=some (.pointer (some p))) :
  (ReflectliteValue.method (ReflectliteValue.valueError "reflectlite.Value.Elem" 0) ReflectliteValue.elem #[.agg #[.pointer (some ⟨2,109,none⟩),.pointer (some a),.int .u64 150]]).run Tryd.prog W
   = .ok (.agg #[.pointer (some ⟨2,29,none⟩),.pointer (some p),.int .u64 386]) W:=by
 rw [rlm];simp only [Sem.run_bind,R.partsPE,Result.andThen];simp [ReflectliteValue.elem,loadVar,isAgg,underlying,Tryd.underlying109,ha,Result.andThen,R.elemOfPE,R.mkE]
theorem rls (v x:Value):ReflectliteValue.set #[v,x]=(do
  let (some (dst,a,fl),some (src,b,_)):=(← ReflectliteValue.parts v,← ReflectliteValue.parts x)
   | unsupported (.noEntry "extern/(internal/reflectlite.Value).Set.zeroValue")
  if fl / ReflectliteValue.flagAddr % 2 == 0 then unsupported (.noEntry "extern/(internal/reflectlite.Value).Set.unaddressable")
  let val ← loadVar src b
  if ← Rtype.directlyAssignable dst src then storeVar dst a val
  else if ← Rtype.implements dst src then
   if (← Rtype.kind src) == 20 then
    match val with
    | .nilIface=>unsupported (.noEntry "extern/reflectlite: a nil value of one interface type handed on as a value of another")
    | _=>storeVar dst a val
   else storeVar dst a (.iface src val)
  else panicString ("reflectlite.Set: value of type " ++ (← Rtype.spelt src) ++ " is not assignable to type " ++ (← Rtype.spelt dst))
  pure (.tuple #[])):=rfl
theorem R.partsFa (a:Addr) (w:World):(ReflectliteValue.parts (.agg #[.pointer (some ⟨2,100,none⟩),.pointer (some a),.int .u64 406])).run Tryd.prog w = .ok (some (100,a,406)) w:=by kernel_rfl
theorem R.partsF (a:Addr) (w:World):(ReflectliteValue.parts (.agg #[.pointer (some ⟨2,100,none⟩),.pointer (some a),.int .u64 150])).run Tryd.prog w = .ok (some (100,a,150)) w:=by kernel_rfl
theorem R.partsEa (a:Addr) (w:World):(ReflectliteValue.parts (.agg #[.pointer (some ⟨2,29,none⟩),.pointer (some a),.int .u64 386])).run Tryd.prog w = .ok (some (29,a,386)) w:=by kernel_rfl
theorem R.partsE (a:Addr) (w:World):(ReflectliteValue.parts (.agg #[.pointer (some ⟨2,29,none⟩),.pointer (some a),.int .u64 130])).run Tryd.prog w = .ok (some (29,a,130)) w:=by kernel_rfl
theorem R.directF (w:World):(Rtype.directlyAssignable 100 100).run Tryd.prog w = .ok true w:=by kernel_rfl
theorem R.directE (w:World):(Rtype.directlyAssignable 29 29).run Tryd.prog w = .ok true w:=by kernel_rfl
theorem R.setF (ta b e:Addr) (old:Value) (W:World) (hb:W.cell? b=some (.pointer (some e))) (ht:W.cell? ta=some old) (hf:W.frozen? ta=false) :
  (ReflectliteValue.set #[.agg #[.pointer (some ⟨2,100,none⟩),.pointer (some ta),.int .u64 406],.agg #[.pointer (some ⟨2,100,none⟩),.pointer (some b),.int .u64 150]]).run Tryd.prog W
   = .ok (.tuple #[]) (W.setCell ta (.pointer (some e))):=by
 rw [rls];simp only [Sem.run_bind,R.partsFa,R.partsF,Result.andThen];simp [ReflectliteValue.flagAddr,loadVar,isAgg,underlying,Tryd.underlying100,hb,Result.andThen,R.directF,storeVar,Value.cells,storeCells,Addr.add];rw [run_store Tryd.prog W ta _ _ (by rfl)];simp [ht,hf]
theorem R.setE (ta b:Addr) (c:Int) (old:Value) (W:World) (hb:W.cell? b=some (.int .i64 c)) (ht:W.cell? ta=some old) (hf:W.frozen? ta=false) :
  (ReflectliteValue.set #[.agg #[.pointer (some ⟨2,29,none⟩),.pointer (some ta),.int .u64 386],.agg #[.pointer (some ⟨2,29,none⟩),.pointer (some b),.int .u64 130]]).run Tryd.prog W
   = .ok (.tuple #[]) (W.setCell ta (.int .i64 c)):=by
 rw [rls];simp only [Sem.run_bind,R.partsEa,R.partsE,Result.andThen];simp [ReflectliteValue.flagAddr,loadVar,isAgg,underlying,Tryd.underlying29,hb,Result.andThen,R.directE,storeVar,Value.cells,storeCells,Addr.add];rw [run_store Tryd.prog W ta _ _ (by rfl)];simp [ht,hf]
end Go.Proofs.YtkbjblhompkdkaaDoor
namespace Go.Proofs.YtkbjblhompkdkaaDoor
open Go.RowKit Go.Extern.Stop Go.Stop Go.Extern
set_option linter.unusedVariables false
set_option linter.unusedSimpArgs false
def Laid (w:World):Prop:=w.cell? ⟨1,0,none⟩=some (.iface 137 (.agg #[.pointer (some ⟨2,26,none⟩)]))
theorem Laid.below {w w':World} {n:Nat} (h:Laid w) (hb:Below n w w') (hn:w.heap.size≤n):Laid w':=
 (hb.cell (by have:=lt_of_cell h;show 1 < n;omega)).trans h
def three (w:World) (T:TypeId) (t:Addr):World:=
 ((w.alloc (.cells #[.pointer (some t)] T)).alloc (.cells #[.pointer (some ⟨2,T,none⟩),.pointer (some ⟨w.heap.size,0,none⟩),.int .u64 150] 123)).alloc (.cells #[.pointer (some ⟨2,T,none⟩),.pointer (some ⟨w.heap.size,0,none⟩),.int .u64 150] 123)
set_option maxHeartbeats 4000000 in
theorem as_hitF (e t:Addr) (old:Value) (w:World) (hg:Laid w) (ht0:w.cell? t=some old) (hf0:w.frozen? t=false) :
  Calls Tryd.prog 84 #[.iface 100 (.pointer (some e)),.iface 110 (.pointer (some t))] w fun ev w'=>ev = .returned (.bool true)∧w'=((three w 110 t).alloc (.cells #[.pointer (some e)] 100)).setCell t (.pointer (some e)):=by
 unfold three;have h6:=@run_callFunc_extern Tryd.prog 95 _ (fun args=>ReflectliteValue.unpack (args.getD 0 (.tuple #[]))) Tryd.func95 (by kernel_rfl) (by kernel_rfl) (by kernel_rfl) (by kernel_rfl);have h7:=@run_callFunc_extern Tryd.prog 96 _ (ReflectliteValue.methodAny (ReflectliteValue.valueError "reflectlite.Value.Type" 0) (fun t _ _ _=>ReflectliteType.toType t)) Tryd.func96 (by kernel_rfl) (by kernel_rfl) (by kernel_rfl) (by kernel_rfl);have h8:=@run_callFunc_extern Tryd.prog 97 _ (ReflectliteValue.method (ReflectliteValue.valueError "reflectlite.Value.IsNil" 0) ReflectliteValue.isNil) Tryd.func97 (by kernel_rfl) (by kernel_rfl) (by kernel_rfl) (by kernel_rfl);have h27:=@run_callFunc_extern Tryd.prog 120 _ (ReflectliteType.abiMethod fun t=>do pure (.int .u8 (← Rtype.kind t))) Tryd.func120 (by kernel_rfl) (by kernel_rfl) (by kernel_rfl) (by kernel_rfl);have h37:=@run_callFunc_extern Tryd.prog 132 _ (ReflectliteType.method ReflectliteType.elem) Tryd.func132 (by kernel_rfl) (by kernel_rfl) (by kernel_rfl) (by kernel_rfl);have h38:=@run_callFunc_extern Tryd.prog 133 _ (ReflectliteType.relation "Implements" ReflectliteType.implements_) Tryd.func133 (by kernel_rfl) (by kernel_rfl) (by kernel_rfl) (by kernel_rfl);have h10:=@run_callFunc_extern Tryd.prog 102 _ ReflectliteType.typeOf Tryd.func102 (by kernel_rfl) (by kernel_rfl) (by kernel_rfl) (by kernel_rfl);have h35:=@run_callFunc_extern Tryd.prog 130 _ (ReflectliteType.relation "AssignableTo" ReflectliteType.assignableTo) Tryd.func130 (by kernel_rfl) (by kernel_rfl) (by kernel_rfl) (by kernel_rfl);have h11:=@run_callFunc_extern Tryd.prog 103 _ (ReflectliteValue.method (ReflectliteValue.valueError "reflectlite.Value.Elem" 0) ReflectliteValue.elem) Tryd.func103 (by kernel_rfl) (by kernel_rfl) (by kernel_rfl) (by kernel_rfl);have h12:=@run_callFunc_extern Tryd.prog 104 _ ReflectliteValue.set Tryd.func104 (by kernel_rfl) (by kernel_rfl) (by kernel_rfl) (by kernel_rfl);have tO:=R.typeOfF;have mA:=R.methodAssignableTo;have a25:=R.assignableFF;have v25:=R.valueOfF;have f6:=R.valueOfPF;have f7:=R.typePF;have mK:=R.methodKind;have mE:=R.methodElem;have mI:=R.methodImplements;have k27:=R.kindPF;have k25:=R.kindF;have e27:=R.elemPF;have i25:=R.implementsF;have n8:=R.isNilPF ⟨w.heap.size,0,none⟩ t ((w.alloc (.cells #[.pointer (some t)] 110)).alloc (.cells #[.pointer (some ⟨2,110,none⟩),.pointer (some ⟨w.heap.size,0,none⟩),.int .u64 150] 123)) (by simp);have hlt:=lt_of_cell hg;have hg2:((w.alloc (.cells #[.pointer (some t)] 110)).alloc (.cells #[.pointer (some ⟨2,110,none⟩),.pointer (some ⟨w.heap.size,0,none⟩),.int .u64 150] 123)).cell? ⟨1,0,none⟩=some (.iface 137 (.agg #[.pointer (some ⟨2,26,none⟩)])):=by
  rw [World.cell?_alloc_lt _ _ ⟨1,0,none⟩ (by first|(simp;done)|(simp;omega)),World.cell?_alloc_lt _ _ ⟨1,0,none⟩ hlt];exact hg
 have htl:t.block < w.heap.size:=by
  rcases Nat.lt_or_ge t.block w.heap.size with h|h
  ·exact h
  ·simp [World.cell?,Array.getElem?_eq_none h] at ht0
 have el:=R.elemVPF ⟨w.heap.size,0,none⟩ t (((w.alloc (.cells #[.pointer (some t)] 110)).alloc (.cells #[.pointer (some ⟨2,110,none⟩),.pointer (some ⟨w.heap.size,0,none⟩),.int .u64 150] 123)).alloc (.cells #[.pointer (some ⟨2,110,none⟩),.pointer (some ⟨w.heap.size,0,none⟩),.int .u64 150] 123)) (by rw [World.cell?_alloc_lt _ _ ⟨w.heap.size,0,none⟩ (by simp;omega)];simp);have st:=R.setF t ⟨w.heap.size+1+1+1,0,none⟩ e old ((((w.alloc (.cells #[.pointer (some t)] 110)).alloc (.cells #[.pointer (some ⟨2,110,none⟩),.pointer (some ⟨w.heap.size,0,none⟩),.int .u64 150] 123)).alloc (.cells #[.pointer (some ⟨2,110,none⟩),.pointer (some ⟨w.heap.size,0,none⟩),.int .u64 150] 123)).alloc (.cells #[.pointer (some e)] 100))
  (by rw [World.cell?_alloc_at _ _ _ _ (by simp)];rfl)
  (by rw [World.cell?_alloc_lt _ _ t (by simp;omega),World.cell?_alloc_lt _ _ t (by simp;omega),World.cell?_alloc_lt _ _ t (by simp;omega),World.cell?_alloc_lt _ _ t htl];exact ht0)
  (by rw [World.frozen?_alloc_old _ _ t (by simp;omega),World.frozen?_alloc_old _ _ t (by simp;omega),World.frozen?_alloc_old _ _ t (by simp;omega),World.frozen?_alloc_old _ _ t (Nat.ne_of_lt htl)];exact hf0)
 clear hg;(go_enter Tryd.func84,Tryd.ntmps84);go_wp2;refine wp_loop_rounds 1 ?_;rw [rounds_succ];go_wp2;go_ret;exact ⟨rfl,rfl⟩
set_option maxHeartbeats 4000000 in
theorem as_missE (c:Int) (t:Addr) (old:Value) (w:World) (hg:Laid w) (ht0:w.cell? t=some old) :
  Calls Tryd.prog 84 #[.iface 29 (.int .i64 c),.iface 110 (.pointer (some t))] w fun ev w'=>ev = .returned (.bool false)∧w'=three w 110 t:=by
 unfold three;have h6:=@run_callFunc_extern Tryd.prog 95 _ (fun args=>ReflectliteValue.unpack (args.getD 0 (.tuple #[]))) Tryd.func95 (by kernel_rfl) (by kernel_rfl) (by kernel_rfl) (by kernel_rfl);have h7:=@run_callFunc_extern Tryd.prog 96 _ (ReflectliteValue.methodAny (ReflectliteValue.valueError "reflectlite.Value.Type" 0) (fun t _ _ _=>ReflectliteType.toType t)) Tryd.func96 (by kernel_rfl) (by kernel_rfl) (by kernel_rfl) (by kernel_rfl);have h8:=@run_callFunc_extern Tryd.prog 97 _ (ReflectliteValue.method (ReflectliteValue.valueError "reflectlite.Value.IsNil" 0) ReflectliteValue.isNil) Tryd.func97 (by kernel_rfl) (by kernel_rfl) (by kernel_rfl) (by kernel_rfl);have h27:=@run_callFunc_extern Tryd.prog 120 _ (ReflectliteType.abiMethod fun t=>do pure (.int .u8 (← Rtype.kind t))) Tryd.func120 (by kernel_rfl) (by kernel_rfl) (by kernel_rfl) (by kernel_rfl);have h37:=@run_callFunc_extern Tryd.prog 132 _ (ReflectliteType.method ReflectliteType.elem) Tryd.func132 (by kernel_rfl) (by kernel_rfl) (by kernel_rfl) (by kernel_rfl);have h38:=@run_callFunc_extern Tryd.prog 133 _ (ReflectliteType.relation "Implements" ReflectliteType.implements_) Tryd.func133 (by kernel_rfl) (by kernel_rfl) (by kernel_rfl) (by kernel_rfl);have h10:=@run_callFunc_extern Tryd.prog 102 _ ReflectliteType.typeOf Tryd.func102 (by kernel_rfl) (by kernel_rfl) (by kernel_rfl) (by kernel_rfl);have h35:=@run_callFunc_extern Tryd.prog 130 _ (ReflectliteType.relation "AssignableTo" ReflectliteType.assignableTo) Tryd.func130 (by kernel_rfl) (by kernel_rfl) (by kernel_rfl) (by kernel_rfl);have tO:=R.typeOfE;have mA:=R.methodAssignableTo;have a25:=R.assignableEF;have f6:=R.valueOfPF;have f7:=R.typePF;have mK:=R.methodKind;have mE:=R.methodElem;have mI:=R.methodImplements;have k27:=R.kindPF;have k25:=R.kindF;have e27:=R.elemPF;have i25:=R.implementsF;have nA:=R.noAsE;have nU:=R.noUnwrapE;have nV:=R.noUnwrapsE;have n8:=R.isNilPF ⟨w.heap.size,0,none⟩ t ((w.alloc (.cells #[.pointer (some t)] 110)).alloc (.cells #[.pointer (some ⟨2,110,none⟩),.pointer (some ⟨w.heap.size,0,none⟩),.int .u64 150] 123)) (by simp);have hlt:=lt_of_cell hg;have hg2:((w.alloc (.cells #[.pointer (some t)] 110)).alloc (.cells #[.pointer (some ⟨2,110,none⟩),.pointer (some ⟨w.heap.size,0,none⟩),.int .u64 150] 123)).cell? ⟨1,0,none⟩=some (.iface 137 (.agg #[.pointer (some ⟨2,26,none⟩)])):=by
  rw [World.cell?_alloc_lt _ _ ⟨1,0,none⟩ (by first|(simp;done)|(simp;omega)),World.cell?_alloc_lt _ _ ⟨1,0,none⟩ hlt];exact hg
 clear hg;(go_enter Tryd.func84,Tryd.ntmps84);go_wp2;refine wp_loop_rounds 1 ?_;rw [rounds_succ];go_wp2;go_ret;exact ⟨rfl,rfl⟩
end Go.Proofs.YtkbjblhompkdkaaDoor
namespace Go.Proofs.YtkbjblhompkdkaaDoor
open Go.RowKit Go.Extern.Stop Go.Stop Go.Extern
set_option linter.unusedVariables false
set_option linter.unusedSimpArgs false
theorem Err.iface {w:World} {v:Value} {l:List Int} {c:Option Int} (h:Err w v l c) (hn:l ≠ [] ∨ c ≠ none):∃ T x,v = .iface T x:=by
 cases l with
 | nil=>
  cases c with
  | none=>simp at hn
  | some c=>exact ⟨_,_,h⟩
 | cons a l=>
  obtain ⟨b,u,rfl,_⟩:=h;exact ⟨_,_,rfl⟩
set_option maxHeartbeats 4000000 in
theorem as_code (c:Int) (l:List Int) (v:Value) (t:Addr) (old:Value) (w:World) (hg:Laid w) (he:Err w v l (some c)) (ht0:w.cell? t=some old) (hf0:w.frozen? t=false) :
  Calls Tryd.prog 84 #[v,.iface 109 (.pointer (some t))] w fun ev w'=>ev = .returned (.bool true)∧w'=((three w 109 t).alloc (.cells #[.int .i64 c] 29)).setCell t (.int .i64 c):=by
 unfold three;have h6:=@run_callFunc_extern Tryd.prog 95 _ (fun args=>ReflectliteValue.unpack (args.getD 0 (.tuple #[]))) Tryd.func95 (by kernel_rfl) (by kernel_rfl) (by kernel_rfl) (by kernel_rfl);have h7:=@run_callFunc_extern Tryd.prog 96 _ (ReflectliteValue.methodAny (ReflectliteValue.valueError "reflectlite.Value.Type" 0) (fun t _ _ _=>ReflectliteType.toType t)) Tryd.func96 (by kernel_rfl) (by kernel_rfl) (by kernel_rfl) (by kernel_rfl);have h8:=@run_callFunc_extern Tryd.prog 97 _ (ReflectliteValue.method (ReflectliteValue.valueError "reflectlite.Value.IsNil" 0) ReflectliteValue.isNil) Tryd.func97 (by kernel_rfl) (by kernel_rfl) (by kernel_rfl) (by kernel_rfl);have h27:=@run_callFunc_extern Tryd.prog 120 _ (ReflectliteType.abiMethod fun t=>do pure (.int .u8 (← Rtype.kind t))) Tryd.func120 (by kernel_rfl) (by kernel_rfl) (by kernel_rfl) (by kernel_rfl);have h37:=@run_callFunc_extern Tryd.prog 132 _ (ReflectliteType.method ReflectliteType.elem) Tryd.func132 (by kernel_rfl) (by kernel_rfl) (by kernel_rfl) (by kernel_rfl);have h38:=@run_callFunc_extern Tryd.prog 133 _ (ReflectliteType.relation "Implements" ReflectliteType.implements_) Tryd.func133 (by kernel_rfl) (by kernel_rfl) (by kernel_rfl) (by kernel_rfl);have h10:=@run_callFunc_extern Tryd.prog 102 _ ReflectliteType.typeOf Tryd.func102 (by kernel_rfl) (by kernel_rfl) (by kernel_rfl) (by kernel_rfl);have h35:=@run_callFunc_extern Tryd.prog 130 _ (ReflectliteType.relation "AssignableTo" ReflectliteType.assignableTo) Tryd.func130 (by kernel_rfl) (by kernel_rfl) (by kernel_rfl) (by kernel_rfl);have h11:=@run_callFunc_extern Tryd.prog 103 _ (ReflectliteValue.method (ReflectliteValue.valueError "reflectlite.Value.Elem" 0) ReflectliteValue.elem) Tryd.func103 (by kernel_rfl) (by kernel_rfl) (by kernel_rfl) (by kernel_rfl);have h12:=@run_callFunc_extern Tryd.prog 104 _ ReflectliteValue.set Tryd.func104 (by kernel_rfl) (by kernel_rfl) (by kernel_rfl) (by kernel_rfl);have tO:=R.typeOfE;have tF:=R.typeOfF;have mA:=R.methodAssignableTo;have aE:=R.assignableEE;have aF:=R.assignableFE;have v25:=R.valueOfE;have f6:=R.valueOfPE;have f7:=R.typePE;have mK:=R.methodKind;have mE:=R.methodElem;have mI:=R.methodImplements;have mU:=R.methodUnwrap;have nA:=R.noAsF;have hU:=R.hasUnwrapF;have k27:=R.kindPE;have k25:=R.kindE;have e27:=R.elemPE;have i25:=R.implementsE;have n8:=R.isNilPE ⟨w.heap.size,0,none⟩ t ((w.alloc (.cells #[.pointer (some t)] 109)).alloc (.cells #[.pointer (some ⟨2,109,none⟩),.pointer (some ⟨w.heap.size,0,none⟩),.int .u64 150] 123)) (by simp);have hlt:=lt_of_cell hg;have hg2:((w.alloc (.cells #[.pointer (some t)] 109)).alloc (.cells #[.pointer (some ⟨2,109,none⟩),.pointer (some ⟨w.heap.size,0,none⟩),.int .u64 150] 123)).cell? ⟨1,0,none⟩=some (.iface 137 (.agg #[.pointer (some ⟨2,26,none⟩)])):=by
  rw [World.cell?_alloc_lt _ _ ⟨1,0,none⟩ (by first|(simp;done)|(simp;omega)),World.cell?_alloc_lt _ _ ⟨1,0,none⟩ hlt];exact hg
 have htl:t.block < w.heap.size:=by
  rcases Nat.lt_or_ge t.block w.heap.size with h|h
  ·exact h
  ·simp [World.cell?,Array.getElem?_eq_none h] at ht0
 have el:=R.elemVPE ⟨w.heap.size,0,none⟩ t (((w.alloc (.cells #[.pointer (some t)] 109)).alloc (.cells #[.pointer (some ⟨2,109,none⟩),.pointer (some ⟨w.heap.size,0,none⟩),.int .u64 150] 123)).alloc (.cells #[.pointer (some ⟨2,109,none⟩),.pointer (some ⟨w.heap.size,0,none⟩),.int .u64 150] 123)) (by rw [World.cell?_alloc_lt _ _ ⟨w.heap.size,0,none⟩ (by simp;omega)];simp);have st:=R.setE t ⟨w.heap.size+1+1+1,0,none⟩ c old ((((w.alloc (.cells #[.pointer (some t)] 109)).alloc (.cells #[.pointer (some ⟨2,109,none⟩),.pointer (some ⟨w.heap.size,0,none⟩),.int .u64 150] 123)).alloc (.cells #[.pointer (some ⟨2,109,none⟩),.pointer (some ⟨w.heap.size,0,none⟩),.int .u64 150] 123)).alloc (.cells #[.int .i64 c] 29))
  (by rw [World.cell?_alloc_at _ _ _ _ (by simp)];rfl)
  (by rw [World.cell?_alloc_lt _ _ t (by simp;omega),World.cell?_alloc_lt _ _ t (by simp;omega),World.cell?_alloc_lt _ _ t (by simp;omega),World.cell?_alloc_lt _ _ t htl];exact ht0)
  (by rw [World.frozen?_alloc_old _ _ t (by simp;omega),World.frozen?_alloc_old _ _ t (by simp;omega),World.frozen?_alloc_old _ _ t (by simp;omega),World.frozen?_alloc_old _ _ t (Nat.ne_of_lt htl)];exact hf0)
 have HE:=Lib.hid he;clear hg ht0;obtain ⟨T,x,rfl⟩:=he.iface (.inr (by simp));clear he;(go_enter Tryd.func84,Tryd.ntmps84);go_wp2;go_loopg [0] (l.length+1) (fun k v wr=>∃ l',k=l'.length+1∧Err w v l' (some c)∧wr=(((w.alloc (.cells #[.pointer (some t)] 109)).alloc (.cells #[.pointer (some ⟨2,109,none⟩),.pointer (some ⟨w.heap.size,0,none⟩),.int .u64 150] 123)).alloc (.cells #[.pointer (some ⟨2,109,none⟩),.pointer (some ⟨w.heap.size,0,none⟩),.int .u64 150] 123)))
 case atStart=>exact ⟨l,rfl,HE.out,rfl⟩
 case round=>
  obtain ⟨l',hk,he,rfl⟩:=hrel;cases l' with
  | nil=>
   have he':_=_:=he;subst he';clear he;go_wp2;go_ret;exact ⟨rfl,rfl⟩
  | cons a l'=>
   obtain ⟨b,u,rfl,h1,h2,h3⟩:=he;have hb:=lt_of_cell h1;have hu:(((w.alloc (.cells #[.pointer (some t)] 109)).alloc (.cells #[.pointer (some ⟨2,109,none⟩),.pointer (some ⟨w.heap.size,0,none⟩),.int .u64 150] 123)).alloc (.cells #[.pointer (some ⟨2,109,none⟩),.pointer (some ⟨w.heap.size,0,none⟩),.int .u64 150] 123)).cell? ⟨b,1,none⟩=some u:=by
    rw [World.cell?_alloc_lt _ _ ⟨b,1,none⟩ (by simp;omega),World.cell?_alloc_lt _ _ ⟨b,1,none⟩ (by simp;omega),World.cell?_alloc_lt _ _ ⟨b,1,none⟩ hb];exact h2
   obtain ⟨T',x',rfl⟩:=h3.iface (.inr (by simp));have H3:=Lib.hid h3;have HK:=Lib.hid hk;clear h1 h2 h3 hk;go_wp2;go_roundg (l'.length+1)
   case measure=>have:=HK.out;simp at this;omega
   case rel=>exact ⟨l',rfl,H3.out,rfl⟩
end Go.Proofs.YtkbjblhompkdkaaDoor
namespace Go.Proofs.YtkbjblhompkdkaaDoor
open Go.RowKit Go.Proofs.YtkbjblhompkdkaaDoorW.PrintWords Go.Proofs.YtkbjblhompkdkaaDoorW.PrintLast
set_option linter.unusedVariables false
set_option linter.unusedSimpArgs false
theorem three_below (w:World) (T:TypeId) (t:Addr):Below w.heap.size w (three w T t):=below_alloc (below_alloc (below_alloc (Below.refl _ _) _) _) _
theorem set_after {w w1:World} {n:Nat} {t:TypeId} {x u:Value} (hblk:w.heap[n]? = some (.cells #[x] t (0,0))) (hb:Below w.heap.size w w1) :
  Below n w (w1.setCell ⟨n,0,none⟩ u)∧KeepBut w (w1.setCell ⟨n,0,none⟩ u) n none∧(w1.setCell ⟨n,0,none⟩ u).heap[n]? = some (.cells #[u] t (0,0)):=
 ⟨(hb.mono (Nat.le_of_lt (blk_lt hblk))).setCell (Nat.le_refl n) u,(KeepBut.of_below hb n none).set_ 0 u,blk_put (blk_below hblk hb) 0 u rfl⟩
theorem as_F (b n:Nat) (x:Value) (w:World) (hg:Laid w) (hblk:w.heap[n]? = some (.cells #[x] 100 (0,0))) :
  Calls Tryd.prog 84 #[.iface 100 (.pointer (some ⟨b,0,none⟩)),.iface 110 (.pointer (some ⟨n,0,none⟩))] w fun e w'=>
   e = .returned (.bool true)∧Below n w w'∧KeepBut w w' n none∧w'.heap[n]? = some (.cells #[.pointer (some ⟨b,0,none⟩)] 100 (0,0)):=by
 refine (as_hitF ⟨b,0,none⟩ ⟨n,0,none⟩ x w hg (blk_cell hblk 0) (blk_frozen hblk 0)).mono ?_;rintro e w' ⟨rfl,rfl⟩;exact ⟨rfl,set_after hblk (below_alloc (three_below _ _ _) _)⟩
theorem as_E (c:Int) (n:Nat) (x:Value) (w:World) (hg:Laid w) (hblk:w.heap[n]? = some (.cells #[x] 100 (0,0))) :
  Calls Tryd.prog 84 #[.iface 29 (.int .i64 c),.iface 110 (.pointer (some ⟨n,0,none⟩))] w fun e w'=>
   e = .returned (.bool false)∧Below w.heap.size w w':=by
 refine (as_missE c ⟨n,0,none⟩ x w hg (blk_cell hblk 0)).mono ?_;rintro e w' ⟨rfl,rfl⟩;exact ⟨rfl,three_below _ _ _⟩
theorem as_C (c:Int) (l:List Int) (v:Value) (n:Nat) (x:Value) (w:World) (hg:Laid w) (he:Err w v l (some c)) (hblk:w.heap[n]? = some (.cells #[x] 29 (0,0))) :
  Calls Tryd.prog 84 #[v,.iface 109 (.pointer (some ⟨n,0,none⟩))] w fun e w'=>
   e = .returned (.bool true)∧Below n w w'∧KeepBut w w' n none∧w'.heap[n]? = some (.cells #[.int .i64 c] 29 (0,0)):=by
 refine (as_code c l v ⟨n,0,none⟩ x w hg he (blk_cell hblk 0) (blk_frozen hblk 0)).mono ?_;rintro e w' ⟨rfl,rfl⟩;exact ⟨rfl,set_after hblk (below_alloc (three_below _ _ _) _)⟩
theorem new_calls (c a:Int) (w:World) (hc:c ≠ 0):Calls Tryd.prog 44 #[.int .i64 c,.int .i64 a] w fun e w'=>∃ v,e = .returned v∧Err w' v [a] (some c)∧Below w.heap.size w w':=by
 (go_enter Tryd.func44,Tryd.ntmps44);go_wp2;go_ret;exact ⟨_,rfl,⟨_,_,rfl,by simp,by simp,rfl⟩,below_alloc (Below.refl _ _) _⟩
theorem code_some (c:Int) (l:List Int) (v:Value) (w:World) (hg:Laid w) (he:Err w v l (some c)):Calls Tryd.prog 55 #[v] w fun e w'=>e = .returned (.int .i64 c)∧Below w.heap.size w w':=by
 obtain ⟨T,x,rfl⟩:=he.iface (.inr (by simp));have HE:=Lib.hid he;have HG:=Lib.hid hg;clear he hg;(go_enter Tryd.func55,Tryd.ntmps55);(go_wp2_with fail);have hb:=below_alloc (Below.refl w.heap.size w) (.cells #[.int .i64 0] 29);refine (as_C c l _ w.heap.size (.int .i64 0) _ (HG.out.below hb (Nat.le_refl _)) (HE.out.below hb (Nat.le_refl _)) (blk_new _ _)).mono ?_;rintro e w' ⟨rfl,hB,hK,hblk⟩;have hc:=blk_cell hblk 0;simp at hc;have HB:=Lib.hid (Below.trans hb hB);clear hb hB hK hblk;go_wp2;go_ret;exact ⟨rfl,HB.out⟩
theorem infoInt:(Tryd.prog.info? 3).map (fun i=>(i.zero,i.size,i.bytes))=some (some (.int .i64 0),1,8):=by kernel_rfl
set_option maxHeartbeats 1000000 in
theorem where_calls (l:List Int) (c:Option Int) (v:Value) (w:World) (hg:Laid w) (he:Err w v l c) (hlen:l.length < 17592186044416) :
  Calls Tryd.prog 56 #[v] w fun e w'=>∃ v':Value,e = .returned v'∧Kd.R (Kd.int .i64) 3 w' w.heap.size (fun _=>True) v' l∧Below w.heap.size w w':=by
 have HE:=Lib.hid he;have HG:=Lib.hid hg;have HL:=Lib.hid hlen;clear he hg hlen;(go_enter Tryd.func56,Tryd.ntmps56);go_wp2;go_loopg [0,3] (l.length+1) (fun k v vo wr=>∃ l1 l2 x,l=l1++l2∧k=l2.length+1∧Err w v l2 c∧Kd.R (Kd.int .i64) 3 wr w.heap.size (fun _=>True) vo l1∧Below w.heap.size w wr∧wr.heap[w.heap.size]? = some (.cells #[x] 100 (0,0)))
 case atStart=>exact ⟨[],l,.pointer none,rfl,rfl,HE.out,Kd.R_nil _ _ _ _ _,below_alloc (Below.refl _ _) _,blk_new _ _⟩
 case round=>
  obtain ⟨l1,l2,x,hl,hk,he,hR,hB,hblk⟩:=hrel;cases l2 with
  | nil=>
   cases c with
   | none=>
    have he':_=_:=he;subst he';rw [List.append_nil] at hl;subst hl;have HR:=Lib.hid hR;have HB:=Lib.hid hB;clear he hk hR hB hblk;go_wp2;go_ret;exact ⟨_,rfl,HR.out,HB.out⟩
   | some c=>
    have he':_=_:=he;subst he';rw [List.append_nil] at hl;subst hl;have HR:=Lib.hid hR;have HB:=Lib.hid hB;have HBK:=Lib.hid hblk;clear he hk hR hB hblk;(go_wp2_with fail);refine (as_E c w.heap.size x wr (HG.out.below HB.out (Nat.le_refl _)) HBK.out).mono ?_;rintro e w1 ⟨rfl,hB1⟩;have HB1:=Lib.hid hB1;clear hB1;go_wp2;go_ret;exact ⟨_,rfl,Kd.R_below HR.out HB1.out,Below.trans HB.out (HB1.out.mono HB.out.size)⟩
  | cons a l2=>
   obtain ⟨b,u,rfl,h1,h2,h3⟩:=he;have hlt:=lt_of_cell h1;have HR:=Lib.hid hR;have HB:=Lib.hid hB;have HBK:=Lib.hid hblk;have HK:=Lib.hid hk;have H1:=Lib.hid h1;have H2:=Lib.hid h2;have H3:=Lib.hid h3;have HA:=Lib.hid hl;have HLT:=Lib.hid hlt;clear hk hR hB hblk h1 h2 h3 hl hlt;(go_wp2_with fail);refine (as_F b w.heap.size x wr (HG.out.below HB.out (Nat.le_refl _)) HBK.out).mono ?_;rintro e w1 ⟨rfl,hB1,hK1,hblk1⟩;have HB1:=Lib.hid (Below.trans HB.out hB1);have hRn:=Kd.R_types HR.out HBK.out (by decide);have hR1:=Kd.R_keep hRn hK1 (fun k hk=>hk.2);have HNE:=Lib.hid (Kd.R_away hR1 (fun k hk=>hk.2));have HR1:=Lib.hid (Kd.R_mono hR1 (fun k hk=>hk.1));have hc0:w1.cell? ⟨w.heap.size,0,none⟩=some (.pointer (some ⟨b,0,none⟩)):=(blk_cell hblk1 0).trans (by simp);have hca:w1.cell? ⟨b,0,none⟩=some (.int .i64 a):=(HB1.out.cell HLT.out).trans H1.out;have HBK1:=Lib.hid hblk1;have HS1:=Lib.hid (blk_lt hblk1);clear hRn hR1 hB1 hK1 hblk1;(have hll:l1.length < 17592186044416:=by have h1:=HL.out;have h2:=HA.out;rw [h2,List.length_append] at h1;omega);have HLL:=Lib.hid hll;clear hll;go_wp2_with (first|((with_reducible refine gate_builtin (b:=.append) (xs:=#[.tmp 16,.tmp 21]) rfl ?_);at_builtin;refine Kd.R_append (Kd.int .i64) (w0:=w) w.heap.size rfl (.tmp 16) (.tmp 21) 77 3 (.int .i64 0) 8 rfl Tryd.underlying77 infoInt rfl (by decide) (by omega) u3 l1 a [.int .i64 a] (fun _=>True) (fun _=>False) rfl rfl ?aP (fun _ hk=>hk.elim) ?aF ?aO ?aB ?aS ?aL ?_;(case aP=>exact rfl);(case aB=>exact HB1.out);(case aF=>exact (fun _ _=>trivial));(case aO=>exact HR1.out);(case aS=>exact Nat.le_of_lt HS1.out);(case aL=>have:=HLL.out;omega);intro v111 w9 ho hb hg hat;have HO:=Lib.hid ho;have HB9:=Lib.hid hb;have hbk9:=blk_grown HBK1.out hg HNE.out;have hc9:=blk_cell hbk9 0;simp only [List.getElem?_toArray,List.getElem?_cons_zero] at hc9;have hc9u:=(HB9.out.cell HLT.out).trans H2.out;have HBK9:=Lib.hid hbk9;clear hat hg ho hb hbk9));go_roundg (l2.length+1)
   case measure=>have:=HK.out;simp at this;omega
   case rel=>exact ⟨l1++[a],l2,_,by rw [HA.out];simp,rfl,H3.out,HO.out,HB9.out,HBK9.out⟩
theorem last_calls (a:Int) (l:List Int) (c:Option Int) (v:Value) (w:World) (hg:Laid w) (he:Err w v (l++[a]) c) (hlen:l.length < 17592186044415):Calls Tryd.prog 22 #[v] w fun e w'=>e = .returned (.tuple #[.int .i64 a,.bool true])∧Below w.heap.size w w':=by
 have HG:=Lib.hid hg;have HE:=Lib.hid he;have HL:=Lib.hid hlen;clear hg he hlen;(go_enter Tryd.func22,Tryd.ntmps22);(go_wp2_with fail);refine (where_calls (l++[a]) c v w HG.out HE.out (by have:=HL.out;simp;omega)).mono ?_;rintro e w' ⟨v',rfl,hR,hB⟩;obtain ⟨A,cc,rfl,hc,hC⟩:=Kd.R_reads hR;have hlen:=HL.out;(have e1:(((l++[a]).length:Nat):Int)=(l.length:Int)+1:=by simp);obtain ⟨ad,rfl,hx⟩:=Kd.at_int hC (l.length:Int) (by omega) (by omega);(have e2:rd (l++[a]) (l.length:Int)=a:=by simp [rd]);rw [e2,Int.toNat_natCast] at hx;(have e3:(l++[a]).length=l.length+1:=by simp);rw [e3] at hc;rw [e3];have HB:=Lib.hid hB;clear hR hC hB e1 e2 e3;go_wp2;go_ret2;exact ⟨rfl,HB.out⟩
theorem at_nil (a:Int) (w:World):Calls Tryd.prog 18 #[.nilIface,.int .i64 a,.int .i64 0] w fun e w'=>e = .returned (.bool true)∧w'=w:=by
 (go_enter Tryd.func18,Tryd.ntmps18);go_wp2;go_ret;exact ⟨rfl,rfl⟩
theorem at_calls (a c:Int) (v:Value) (w:World) (hg:Laid w) (he:Err w v [a] (some c)) (h0:c ≠ 0):Calls Tryd.prog 18 #[v,.int .i64 a,.int .i64 c] w fun e w'=>e = .returned (.bool true)∧Below w.heap.size w w':=by
 obtain ⟨T,x,rfl⟩:=he.iface (.inl (by simp));have h1:(c == 0)=false:=beq_eq_false_iff_ne.2 h0;have HE:=Lib.hid he;have HG:=Lib.hid hg;clear he hg h0;(go_enter Tryd.func18,Tryd.ntmps18);(go_wp2_with fail);refine (last_calls a [] (some c) _ _ HG.out HE.out (by simp)).mono ?_;rintro e w1 ⟨rfl,hb1⟩;have HE1:=Lib.hid (HE.out.below hb1 (Nat.le_refl _));have HG1:=Lib.hid (HG.out.below hb1 (Nat.le_refl _));have HB1:=Lib.hid hb1;clear hb1;(go_wp2_with fail);refine (code_some c [a] _ _ HG1.out HE1.out).mono ?_;rintro e w2 ⟨rfl,hb2⟩;have HB2:=Lib.hid (below_then HB1.out HB1.out.size hb2);clear hb2;go_wp2;go_ret;exact ⟨rfl,HB2.out⟩
end Go.Proofs.YtkbjblhompkdkaaDoor
namespace Go.Proofs.YtkbjblhompkdkaaDoor
def decL (u:Nat):List Int:=if u < 10 then [48+(u:Int)] else decL (u / 10)++[48+((u:Int) % 10)]
termination_by u
decreasing_by omega
def digL (n:Int):List Int:=if n < 0 then 45 :: decL n.natAbs else decL n.natAbs
theorem decL_small {u:Nat} (h:u < 10):decL u = [48+(u:Int)]:=by rw [decL,if_pos h]
theorem decL_big {u:Nat} (h:¬ u < 10):decL u=decL (u / 10)++[48+((u:Int) % 10)]:=by rw [decL,if_neg h]
structure DecInv (u0 u k:Nat) (xs:List Int):Prop where
 len:xs.length=20
 lo:1≤k
 hi:k≤19
 small:u < 10 ^ k
 left:k=19 ∨ 0 < u
 eq:decL u0=decL u++xs.drop (k+1)
theorem DecInv.start {u0:Nat} (h:u0≤9223372036854775808):DecInv u0 u0 19 (List.replicate 20 0):=
 ⟨by simp,by omega,by omega,by (have:(10:Nat) ^ 19=10000000000000000000:=by decide);omega,.inl rfl,by simp⟩
theorem drop_set_at (xs:List Int) (k:Nat) (d:Int) (h:k < xs.length):(xs.set k d).drop k=d :: xs.drop (k+1):=by
 rw [List.drop_eq_getElem_cons (by simpa using h),List.drop_set_of_lt (by omega)];simp
theorem DecInv.step {u0 u k:Nat} {xs:List Int} (h:DecInv u0 u k xs) (hu:¬ u < 10):DecInv u0 (u / 10) (k - 1) (xs.set k (48+(u:Int) % 10)):=by
 have h10:u < 10 ^ k:=h.small;have hk:2≤k:=by
  rcases Nat.lt_or_ge k 2 with h2|h2
  ·(have:k=1:=by have:=h.lo;omega);subst this;simp at h10;omega
  ·exact h2
 (have hp:(10:Nat) ^ k=10 ^ (k - 1) * 10:=by rw [← Nat.pow_succ];congr 1;omega);refine ⟨by simp [h.len],by omega,by have:=h.hi;omega,?_,.inr (by omega),?_⟩
 ·rw [hp] at h10;omega
 ·rw [show k - 1+1=k by omega,drop_set_at _ _ _ (by rw [h.len];have:=h.hi;omega),h.eq,decL_big hu];simp
theorem DecInv.done {u0 u k:Nat} {xs:List Int} (h:DecInv u0 u k xs) (hu:u < 10):(xs.set k (48+(u:Int) % 10)).drop k=decL u0:=by
 rw [drop_set_at _ _ _ (by rw [h.len];have:=h.hi;omega),h.eq,decL_small hu];rw [show (u:Int) % 10=u by omega];rfl
theorem decL_range (u:Nat):∀ x ∈ decL u,48≤x∧x≤57:=by
 induction u using Nat.strongRecOn with
 | _ u ih=>
 intro x hx;by_cases h:u < 10
 ·rw [decL_small h] at hx;simp at hx;omega
 ·rw [decL_big h] at hx;simp at hx;rcases hx with hx|hx
  ·exact ih (u / 10) (by omega) x hx
  ·omega
end Go.Proofs.YtkbjblhompkdkaaDoor
namespace Go.Proofs.YtkbjblhompkdkaaDoor
open Go.RowKit Go.Proofs.YtkbjblhompkdkaaDoorW.PrintWords Go.Proofs.YtkbjblhompkdkaaDoorW.PrintLast
set_option linter.unusedVariables false
set_option linter.unusedSimpArgs false
theorem ret_num {k:IntKind} {a b:Int} (h:a=b):Ending.returned (.int k a)=Ending.returned (.int k b):=by rw [h]
theorem size_any (n:Int) (w:World) (h0 : -9223372036854775808≤n) (h1:n≤9223372036854775807) :
  Calls Tryd.prog 85 #[.int .i64 n] w fun e w'=>e = .returned (.int .u64 (n.natAbs:Int))∧w=w':=by
 have e1:n < 0→IntKind.u64.wrap (-(IntKind.u64.wrap n))=(n.natAbs:Int):=by
  intro h;simp only [IntKind.wrap,IntKind.bits,IntKind.signed];simp;omega
 have E1:=Lib.hid e1;clear e1;by_cases hn:n < 0
 ·(go_enter Tryd.func85,Tryd.ntmps85);go_wp2;go_ret;exact ⟨ret_num (E1.out hn),rfl⟩
 ·(go_enter Tryd.func85,Tryd.ntmps85);go_wp2;go_ret;exact ⟨ret_num (by omega),rfl⟩
theorem heap_new (w:World) (o:Obj):(w.alloc o).heap[w.heap.size]? = some o:=by
 show (w.heap.push o)[w.heap.size]? = some o;simp
theorem cell_nums {W:World} {B:Nat} {xs:List Int} {T:TypeId} (h:W.heap[B]? = some (.cells (nums .u8 xs).toArray T (0,0))) {i:Nat} (hi:i < xs.length) :
  W.cell? ⟨B,i,none⟩=some (.int .u8 (xs.getD i 0))∧W.frozen? ⟨B,i,none⟩=false:=by
 constructor
 ·simp [World.cell?,h,nums,hi]
 ·simp [World.frozen?,h]
theorem heap_set {W:World} {B:Nat} {xs:List Int} {T:TypeId} (h:W.heap[B]? = some (.cells (nums .u8 xs).toArray T (0,0))) (k:Nat) (d:Int) :
  (W.setCell ⟨B,k,none⟩ (.int .u8 d)).heap[B]? = some (.cells (nums .u8 (xs.set k d)).toArray T (0,0)):=by
 show (W.heap.modify B _)[B]? = _;rw [Array.getElem?_modify];simp [h,nums,List.map_set]
theorem conv_tail {P:Program} {W:World} {B:Nat} {xs:List Int} {T src e dst:TypeId} (h:W.heap[B]? = some (.cells (nums .u8 xs).toArray T (0,0))) (k n c:Nat) (hk:k+n=xs.length)
  (hs:P.underlying src=some (.slice e)) (he:P.underlying e=some (.int .u8)) (hd:P.underlying dst=some .string) :
  (convert src dst (.slice (some ⟨B,k,none⟩) n c)).run P W = .ok (.string (strOfNums (xs.drop k))) W:=by
 refine run_convert_bytes_arg W src e hs he B k n c (xs.drop k) (by simp;omega) (fun i hi=>?_) dst hd;rw [(cell_nums h (i:=k+i) (by omega)).1];simp [List.getD_eq_getElem?_getD]
theorem cut_tail (W:World) (B:Nat) (l:Int) (k:Nat) (h0:l=(k:Int)) (h1:k < 20) :
  (Instr.sliceAt 111 (.pointer (some ⟨B,0,none⟩)) (some (.int .i64 l)) none none).run Tryd.prog W = .ok (.slice (some ⟨B,k,none⟩) (20 - k) (20 - k)) W:=by
 subst h0;(have hl:Tryd.prog.arrayLen 111=20:=by kernel_rfl);(have he:Tryd.prog.elem 111=5:=by kernel_rfl);(have hu:Tryd.prog.underlying 111=some (.array (Tryd.prog.arrayLen 111) (Tryd.prog.elem 111)):=by kernel_rfl);rw [run_sliceAt_array_l W _ _ hu .i64 _ (by omega) (by rw [hl];omega),hl,he];(have hz:(sizeOf 5).run Tryd.prog W = .ok 1 W:=by kernel_rfl);rw [hz];simp [Result.andThen,slicedAt,Addr.add];rw [if_neg (by omega)];split <;> simp_all
set_option maxHeartbeats 2000000 in
set_option maxRecDepth 100000 in
theorem digits_any (n:Int) (w:World) (h0 : -9223372036854775808≤n) (h1:n≤9223372036854775807) :
  Calls Tryd.prog 57 #[.int .i64 n] w fun e w'=>e = .returned (.string (strOfNums (digL n)))∧Below w.heap.size w w':=by
 (have hs:(n.natAbs:Int)≤9223372036854775808:=by omega);(have hs0:(0:Int)≤(n.natAbs:Int):=by omega);have st:=Lib.hid (DecInv.start (u0:=n.natAbs) (by omega));(go_enter Tryd.func57,Tryd.ntmps57);go_wp2_with (go_at_call 85;refine (size_any _ _ h0 h1).mono ?_;rintro e w' ⟨rfl,rfl⟩);go_loopw [4,5] (fun i u wr=>∃ (k uu:Nat) (xs:List Int),i = .int .i64 ((k:Int)+1)∧u = .int .u64 (uu:Int)∧uu≤9223372036854775808∧Hid (DecInv n.natAbs uu k xs)∧Hid (wr.heap[w.heap.size]? = some (.cells (nums .u8 xs).toArray 111 (0,0)))∧Below w.heap.size w wr)
  (fun i _ _=>(intOf i).toNat)
 case atStart=>exact ⟨19,n.natAbs,List.replicate 20 0,rfl,rfl,by omega,st,heap_new w _,(Below.refl _ _).alloc (Nat.le_refl _) _⟩
 case round=>
  obtain ⟨k,u,xs,rfl,rfl,hub,hinv,hheap,hbel⟩:=hrel;have hk1:=hinv.out.lo;have hk2:=hinv.out.hi;obtain ⟨hc1,hc2⟩:=cell_nums hheap.out (i:=k) (by rw [hinv.out.len];omega);have hset:=Lib.hid (heap_set hheap.out k (48+(u:Int) % 10));by_cases hu:u < 10
  ·(have hu2:((u:Int) / 10 == 0)=true:=by rw [beq_iff_eq];omega);have hdone:=Lib.hid (hinv.out.done hu);(have hlen:(xs.set k (48+(u:Int) % 10)).length=20:=by simp [hinv.out.len]);have hbel1:=Lib.hid (hbel.setCell (p:=⟨w.heap.size,k,none⟩) (Nat.le_refl _) (.int .u8 (48+(u:Int) % 10)));by_cases hn:n < 0
   ·obtain ⟨hd1,hd2⟩:=cell_nums hset.out (i:=k - 1) (by rw [hlen];omega);have hset2:=heap_set hset.out (k - 1) 45;have hcut:=cut_tail ((wr.setCell ⟨w.heap.size,k,none⟩ (.int .u8 (48+(u:Int) % 10))).setCell ⟨w.heap.size,k - 1,none⟩ (.int .u8 45)) w.heap.size ((k:Int) - 1) (k - 1) (by omega) (by omega);have hconv:=conv_tail (P:=Tryd.prog) (src:=44) (e:=5) (dst:=9) hset2 (k - 1) (20 - (k - 1)) (20 - (k - 1)) (by simp [hinv.out.len];omega) Tryd.underlying44 Tryd.underlying5 Tryd.underlying9;have hfin:List.drop (k - 1) ((xs.set k (48+(u:Int) % 10)).set (k - 1) 45)=digL n:=by
     rw [drop_set_at _ _ _ (by rw [hlen];omega),show k - 1+1=k by omega,hdone.out,digL,if_pos hn]
    rw [hfin] at hconv;clear hfin hlen hset2;have hbel2:=Lib.hid (hbel1.out.setCell (p:=⟨w.heap.size,k - 1,none⟩) (Nat.le_refl _) (.int .u8 45));clear hbel;go_wp2;go_ret;exact ⟨rfl,hbel2.out⟩
   ·have hcut:=cut_tail (wr.setCell ⟨w.heap.size,k,none⟩ (.int .u8 (48+(u:Int) % 10))) w.heap.size (k:Int) k rfl (by omega);have hconv:=conv_tail (P:=Tryd.prog) (src:=44) (e:=5) (dst:=9) hset.out k (20 - k) (20 - k) (by simp [hinv.out.len];omega) Tryd.underlying44 Tryd.underlying5 Tryd.underlying9;have hfin:List.drop k (xs.set k (48+(u:Int) % 10))=digL n:=by
     rw [hdone.out,digL,if_neg hn]
    rw [hfin] at hconv;clear hfin hlen hbel;go_wp2;go_ret;exact ⟨rfl,hbel1.out⟩
  ·(have hu2:((u:Int) / 10 == 0)=false:=by rw [beq_eq_false_iff_ne];omega);have hstep:=Lib.hid (hinv.out.step hu);have hbel1:=Lib.hid (hbel.setCell (p:=⟨w.heap.size,k,none⟩) (Nat.le_refl _) (.int .u8 (48+(u:Int) % 10)));have hlo:=hstep.out.lo;clear hbel;go_wp2;go_roundw
   case rel=>exact ⟨k - 1,u / 10,_,by go_num,by go_num,by omega,hstep,hset,hbel1.out⟩
   case measure=>simp [intOf]
def num_Digits.f (a0:Int):Option ByteArray:=if -9223372036854775808≤a0∧a0≤9223372036854775807 then some (strOfNums (digL a0)) else none
theorem num_Digits.calls (a0:Int) (r:ByteArray) (w:World) (h:num_Digits.f a0=some r) :
  Calls Tryd.prog 57 #[.int .i64 a0] w fun e w'=>e = .returned (.string r)∧Below w.heap.size w w':=by
 unfold num_Digits.f at h;split at h
 ·rename_i hb;obtain rfl:=Option.some.inj h;exact digits_any a0 w hb.1 hb.2
 ·cases h
end Go.Proofs.YtkbjblhompkdkaaDoor
namespace Go.Proofs.YtkbjblhompkdkaaDoor
open Go.RowKit Go.Proofs.YtkbjblhompkdkaaDoorW.PrintWords Go.Proofs.YtkbjblhompkdkaaDoorW.PrintLast
set_option linter.unusedVariables false
section
variable {P:Program} {ops:Array Oper} {rest:List Oper} {o:Oper} {a:Act} {Q:Exit→Act→World→Prop} {α:Type} {W:World}
theorem R_make0 (d:Kd α) {w0:World} (base e:Nat) (hgd:o.guard=none) {N:Tmp} (hd:o.dst=some N) (t:TypeId) (x y:Operand) (ho:o.op = .makeSlice t x y) (n:Int) (hx:a.eval x = .int .i64 0) (hy:a.eval y = .int .i64 n)
  (ht:P.underlying t=some (.slice e)) (z:Value) (bytes:Nat) (hinfo:(P.info? e).map (fun i=>(i.zero,i.size,i.bytes))=some (some z,d.sz,bytes)) (hz:z.cells.size=d.sz) (hs0:0 < d.sz) (hb0:0 < bytes)
  (z0:α) {ok okp:Nat→Prop} (hzero:d.M W base okp z0 z.cells.toList) (hok:∀ k,okp k→ok k) (hfresh:ok W.heap.size) (h0:0≤n) (hl:n.toNat * bytes≤281474976710656) (HB:Below base w0 W) (hbase:base≤W.heap.size)
  (h:∀ v1 w1,d.R e w1 base ok v1 []→Below base w0 w1→W.grownBy w1 none→(∃ b,v1.ownBlock=some b∧W.heap.size≤b)→wpList P ops Q rest (a.put o.dst v1) w1):wpList P ops Q (o :: rest) a W:=by
 obtain ⟨m,rfl⟩:=Int.eq_ofNat_of_zero_le h0;simp only [Int.toNat_natCast] at hl;obtain ⟨i0,hi,hzz⟩:=Option.map_eq_some_iff.1 hinfo;simp only [Prod.mk.injEq] at hzz;obtain ⟨hz0,hz1,hz2⟩:=hzz;have hm:m≤281474976710656:=Nat.le_trans (Nat.le_mul_of_pos_right _ hb0) hl;have hr:=run_make (P:=P) W t e i0 z ht hi hz0 .i64 .i64 0 (m:Int) (by omega) (by omega)
  (by
   (have h3:((i0.bytes * m:Nat):Int)≤281474976710656:=by rw [hz2,Nat.mul_comm];omega);rwa [Int.natCast_mul] at h3) (by omega)
 simp only [Int.toNat_natCast,Int.toNat_zero] at hr;rw [hz1] at hr;have hrep:Reps (d.M W base okp) d.sz (List.replicate m z0) (madeCells z.cells (m * d.sz)).toList:=Kd.reps_made hz hs0 hzero m;have full:d.R e (W.alloc (.cells (madeCells z.cells (m * d.sz)) e)) base ok (.slice (some ⟨W.heap.size,0,none⟩) m m) (List.replicate m z0):=by
  refine ⟨fun k hk=>?_,(madeCells z.cells (m * d.sz)).toList,?_,?_⟩
  ·(have:W.heap.size=k:=by simpa [Value.ownBlock] using hk);subst this;exact hfresh
  ·have h2:=World.ownsRow_lit (base:=base) (e:=e) (size:=d.sz) W (madeCells z.cells (m * d.sz)) m hbase (by simp only [maxLen];omega) (by simp [size_madeCells]);simpa using h2
  ·refine hrep.imp_ (fun p c hp=>d.M_mono (fun k hk=>⟨hok k hk.1,fun he=>?_⟩) (Kd.M_below (d.M_bound hp) (below_alloc (Below.refl _ _) _)));(have h3:k=W.heap.size:=by simpa [Value.ownBlock] using he);have:=hk.2.2.1;omega
 have none_:d.R e (W.alloc (.cells (madeCells z.cells (m * d.sz)) e)) base ok (.slice (some ⟨W.heap.size,0,none⟩) 0 m) []:=by
  have:=Kd.R_take full (m:=0) (by omega);simpa using this
 refine Kd.event_run hgd (w1:=W.alloc (.cells (madeCells z.cells (m * d.sz)) e)) (v:=.slice (some ⟨W.heap.size,0,none⟩) 0 m) ?_ (h _ _ none_ (HB.alloc hbase _) (World.grownBy_alloc W _ none) ⟨W.heap.size,by simp [Value.ownBlock],Nat.le_refl _⟩);simp [execOp,ho,hx,hy,hr]
end
end Go.Proofs.YtkbjblhompkdkaaDoor
namespace Go.Proofs.YtkbjblhompkdkaaDoor
open Go.RowKit Go.Proofs.YtkbjblhompkdkaaDoorW.PrintWords Go.Proofs.YtkbjblhompkdkaaDoorW.PrintLast
set_option linter.unusedVariables false
set_option linter.unusedSimpArgs false
set_option maxHeartbeats 1000000 in
theorem letters_any (w:World):Calls Tryd.prog 99 #[] w fun e w'=>e = .returned (.agg #[.int .u8 34,.int .u8 34,.int .u8 92,.int .u8 92,.int .u8 10,.int .u8 110,.int .u8 9,.int .u8 116,.int .u8 13,.int .u8 114])∧Below w.heap.size w w':=by
 (go_enter Tryd.func99,Tryd.ntmps99);go_wp2;exact bodyPost_ret (v:=.agg #[.int .u8 34,.int .u8 34,.int .u8 92,.int .u8 92,.int .u8 10,.int .u8 110,.int .u8 9,.int .u8 116,.int .u8 13,.int .u8 114]) (by simp [results,Tryd.results99,go_sem]) rfl ⟨rfl,(Below.refl _ _).alloc (Nat.le_refl _) _⟩
def letterS (c:Int):Int:=if c=34 then 34 else if c=92 then 92 else if c=10 then 110 else if c=9 then 116 else if c=13 then 114 else 0
def byLetterS (c:Int):Int × Bool:=if c=47 then (47,true) else if c=34 then (34,true) else if c=92 then (92,true) else if c=110 then (10,true) else if c=116 then (9,true) else if c=114 then (13,true) else (0,false)
theorem row_at0 (w:World):(Instr.index 134 (.agg #[.int .u8 34,.int .u8 34,.int .u8 92,.int .u8 92,.int .u8 10,.int .u8 110,.int .u8 9,.int .u8 116,.int .u8 13,.int .u8 114]) (.int .i64 0)).run Tryd.prog w = .ok (.agg #[.int .u8 34,.int .u8 34]) w:=by kernel_rfl
theorem row_at1 (w:World):(Instr.index 134 (.agg #[.int .u8 34,.int .u8 34,.int .u8 92,.int .u8 92,.int .u8 10,.int .u8 110,.int .u8 9,.int .u8 116,.int .u8 13,.int .u8 114]) (.int .i64 1)).run Tryd.prog w = .ok (.agg #[.int .u8 92,.int .u8 92]) w:=by kernel_rfl
theorem row_at2 (w:World):(Instr.index 134 (.agg #[.int .u8 34,.int .u8 34,.int .u8 92,.int .u8 92,.int .u8 10,.int .u8 110,.int .u8 9,.int .u8 116,.int .u8 13,.int .u8 114]) (.int .i64 2)).run Tryd.prog w = .ok (.agg #[.int .u8 10,.int .u8 110]) w:=by kernel_rfl
theorem row_at3 (w:World):(Instr.index 134 (.agg #[.int .u8 34,.int .u8 34,.int .u8 92,.int .u8 92,.int .u8 10,.int .u8 110,.int .u8 9,.int .u8 116,.int .u8 13,.int .u8 114]) (.int .i64 3)).run Tryd.prog w = .ok (.agg #[.int .u8 9,.int .u8 116]) w:=by kernel_rfl
theorem row_at4 (w:World):(Instr.index 134 (.agg #[.int .u8 34,.int .u8 34,.int .u8 92,.int .u8 92,.int .u8 10,.int .u8 110,.int .u8 9,.int .u8 116,.int .u8 13,.int .u8 114]) (.int .i64 4)).run Tryd.prog w = .ok (.agg #[.int .u8 13,.int .u8 114]) w:=by kernel_rfl
theorem row_at (i:Nat) (hi:i < 5) (x y:Int) (h:([((34:Int),(34:Int)),(92,92),(10,110),(9,116),(13,114)]:List (Int × Int))[i]? = some (x,y)) (w:World) :
  (Instr.index 134 (.agg #[.int .u8 34,.int .u8 34,.int .u8 92,.int .u8 92,.int .u8 10,.int .u8 110,.int .u8 9,.int .u8 116,.int .u8 13,.int .u8 114]) (.int .i64 (i:Int))).run Tryd.prog w = .ok (.agg #[.int .u8 x,.int .u8 y]) w:=by
 match i,hi with
 | 0,_=>simp at h;obtain ⟨rfl,rfl⟩:=h;exact row_at0 w
 | 1,_=>simp at h;obtain ⟨rfl,rfl⟩:=h;exact row_at1 w
 | 2,_=>simp at h;obtain ⟨rfl,rfl⟩:=h;exact row_at2 w
 | 3,_=>simp at h;obtain ⟨rfl,rfl⟩:=h;exact row_at3 w
 | 4,_=>simp at h;obtain ⟨rfl,rfl⟩:=h;exact row_at4 w
def lettersL:List (Int × Int):=[(34,34),(92,92),(10,110),(9,116),(13,114)]
def Lets (r:Int) (e:Ending):Prop:=e = .returned (.int .u8 r)
def NotYet (c:Int) (k:Nat):Prop:=∀ j p,j < k→lettersL[j]? = some p→p.1 ≠ c
theorem NotYet.start (c:Int):NotYet c 0:=fun j p h=>absurd h (by omega)
theorem NotYet.next {c:Int} {k:Nat} {x y:Int} (h:NotYet c k) (hk:lettersL[k]? = some (x,y)) (hx:¬ x=c):NotYet c (k+1):=by
 intro j p hj hp;rcases Nat.lt_or_eq_of_le (Nat.le_of_lt_succ hj) with h1|rfl
 ·exact h j p h1 hp
 ·rw [hk] at hp;obtain rfl:=Option.some.inj hp;exact hx
theorem NotYet.hit {c:Int} {k:Nat} {x y:Int} (h:NotYet c k) (hk:lettersL[k]? = some (x,y)) (hx:x=c):letterS c=y:=by
 subst hx;match k,hk with
 | 0,hk=>simp [lettersL] at hk;obtain ⟨rfl,rfl⟩:=hk;rfl
 | 1,hk=>simp [lettersL] at hk;obtain ⟨rfl,rfl⟩:=hk;rfl
 | 2,hk=>simp [lettersL] at hk;obtain ⟨rfl,rfl⟩:=hk;rfl
 | 3,hk=>simp [lettersL] at hk;obtain ⟨rfl,rfl⟩:=hk;rfl
 | 4,hk=>simp [lettersL] at hk;obtain ⟨rfl,rfl⟩:=hk;rfl
 | n+5,hk=>simp [lettersL] at hk
theorem NotYet.none_ {c:Int} (h:NotYet c 5):letterS c=0:=by
 have h0:=h 0 (34,34) (by omega) rfl;have h1:=h 1 (92,92) (by omega) rfl;have h2:=h 2 (10,110) (by omega) rfl;have h3:=h 3 (9,116) (by omega) rfl;have h4:=h 4 (13,114) (by omega) rfl;simp only [] at h0 h1 h2 h3 h4;unfold letterS;rw [if_neg (Ne.symm h0),if_neg (Ne.symm h1),if_neg (Ne.symm h2),if_neg (Ne.symm h3),if_neg (Ne.symm h4)]
set_option maxHeartbeats 2000000 in
theorem letter_any (c:Int) (w:World):Calls Tryd.prog 86 #[.int .u8 c] w fun e w'=>Lets (letterS c) e∧Below w.heap.size w w':=by
 (go_enter Tryd.func86,Tryd.ntmps86);go_wp2_with (go_at_call 99;refine (letters_any _).mono ?_;rintro e w1 ⟨rfl,hb⟩);go_loopw [6] (fun i wr=>∃ k:Nat,k≤5∧i = .int .i64 (k:Int)∧Hid (NotYet c k)∧Below w.heap.size w wr) (fun i _=>5 - (intOf i).toNat)
 case atStart=>exact ⟨0,by omega,rfl,NotYet.start c,hb⟩
 case round=>
  obtain ⟨k,hk,rfl,hn,hbel⟩:=hrel;clear hb;by_cases h5:k < 5
  ·obtain ⟨⟨x,y⟩,hxy⟩:∃ p,lettersL[k]? = some p:=⟨_,List.getElem?_eq_getElem (show k < lettersL.length by simpa [lettersL] using h5)⟩;have hi:=row_at k h5 x y hxy;have Hxy:=Lib.hid hxy;clear hxy;have hb2:=Lib.hid (hbel.alloc hbel.size (.cells #[.int .u8 x,.int .u8 y] 133));clear hbel;by_cases hx:x=c
   ·have hit:=Lib.hid (hn.out.hit Hxy.out hx);have hd:(x == c)=true:=beq_iff_eq.2 hx;clear hx;go_wp2;go_ret;exact ⟨by unfold Lets;rw [hit.out];rfl,hb2.out⟩
   ·have hne:=Lib.hid (hn.out.next Hxy.out hx);have hd:(x == c)=false:=beq_eq_false_iff_ne.2 hx;clear hx;go_wp2;go_roundw
    case rel=>exact ⟨k+1,by omega,by go_num,hne,hb2.out⟩
    case measure=>simp [intOf];omega
  ·have h0:letterS c=0:=NotYet.none_ (by rw [show (5:Nat)=k by omega];exact hn.out);have H0:=Lib.hid h0;clear h0;go_wp2;go_ret;exact ⟨by unfold Lets;rw [H0.out];rfl,hbel⟩
def Lets2 (r:Int × Bool) (e:Ending):Prop:=e = .returned (.tuple #[.int .u8 r.1,.bool r.2])
def NotYet2 (c:Int) (k:Nat):Prop:=∀ j p,j < k→lettersL[j]? = some p→p.2 ≠ c
theorem NotYet2.start (c:Int):NotYet2 c 0:=fun j p h=>absurd h (by omega)
theorem NotYet2.next {c:Int} {k:Nat} {x y:Int} (h:NotYet2 c k) (hk:lettersL[k]? = some (x,y)) (hx:¬ y=c):NotYet2 c (k+1):=by
 intro j p hj hp;rcases Nat.lt_or_eq_of_le (Nat.le_of_lt_succ hj) with h1|rfl
 ·exact h j p h1 hp
 ·rw [hk] at hp;obtain rfl:=Option.some.inj hp;exact hx
theorem NotYet2.hit {c:Int} {k:Nat} {x y:Int} (hk:lettersL[k]? = some (x,y)) (hx:y=c):byLetterS c=(x,true):=by
 subst hx;match k,hk with
 | 0,hk=>simp [lettersL] at hk;obtain ⟨rfl,rfl⟩:=hk;rfl
 | 1,hk=>simp [lettersL] at hk;obtain ⟨rfl,rfl⟩:=hk;rfl
 | 2,hk=>simp [lettersL] at hk;obtain ⟨rfl,rfl⟩:=hk;rfl
 | 3,hk=>simp [lettersL] at hk;obtain ⟨rfl,rfl⟩:=hk;rfl
 | 4,hk=>simp [lettersL] at hk;obtain ⟨rfl,rfl⟩:=hk;rfl
 | n+5,hk=>simp [lettersL] at hk
theorem NotYet2.none_ {c:Int} (hc:¬ c=47) (h:NotYet2 c 5):byLetterS c=(0,false):=by
 have h0:=h 0 (34,34) (by omega) rfl;have h1:=h 1 (92,92) (by omega) rfl;have h2:=h 2 (10,110) (by omega) rfl;have h3:=h 3 (9,116) (by omega) rfl;have h4:=h 4 (13,114) (by omega) rfl;simp only [] at h0 h1 h2 h3 h4;unfold byLetterS;rw [if_neg hc,if_neg (Ne.symm h0),if_neg (Ne.symm h1),if_neg (Ne.symm h2),if_neg (Ne.symm h3),if_neg (Ne.symm h4)]
set_option maxHeartbeats 2000000 in
theorem byLetter_any (c:Int) (w:World):Calls Tryd.prog 93 #[.int .u8 c] w fun e w'=>Lets2 (byLetterS c) e∧Below w.heap.size w w':=by
 by_cases h47:c=47
 ·subst h47;(go_enter Tryd.func93,Tryd.ntmps93);go_wp2;go_ret2;exact ⟨rfl,Below.refl _ _⟩
 have h47d:(c == 47)=false:=beq_eq_false_iff_ne.2 h47;have H47:=Lib.hid h47;clear h47;(go_enter Tryd.func93,Tryd.ntmps93);go_wp2_with (go_at_call 99;refine (letters_any _).mono ?_;rintro e w1 ⟨rfl,hb⟩);go_loopw [10] (fun i wr=>∃ k:Nat,k≤5∧i = .int .i64 (k:Int)∧Hid (NotYet2 c k)∧Below w.heap.size w wr) (fun i _=>5 - (intOf i).toNat)
 case atStart=>exact ⟨0,by omega,rfl,NotYet2.start c,hb⟩
 case round=>
  obtain ⟨k,hk,rfl,hn,hbel⟩:=hrel;clear hb;by_cases h5:k < 5
  ·obtain ⟨⟨x,y⟩,hxy⟩:∃ p,lettersL[k]? = some p:=⟨_,List.getElem?_eq_getElem (show k < lettersL.length by simpa [lettersL] using h5)⟩;have hi:=row_at k h5 x y hxy;have Hxy:=Lib.hid hxy;clear hxy;have hb2:=Lib.hid (hbel.alloc hbel.size (.cells #[.int .u8 x,.int .u8 y] 133));clear hbel;by_cases hx:y=c
   ·have hit:=Lib.hid (NotYet2.hit Hxy.out hx);have hd:(y == c)=true:=beq_iff_eq.2 hx;clear hx;go_wp2;go_ret2;exact ⟨by unfold Lets2;rw [hit.out];rfl,hb2.out⟩
   ·have hne:=Lib.hid (hn.out.next Hxy.out hx);have hd:(y == c)=false:=beq_eq_false_iff_ne.2 hx;clear hx;go_wp2;go_roundw
    case rel=>exact ⟨k+1,by omega,by go_num,hne,hb2.out⟩
    case measure=>simp [intOf];omega
  ·have h0:byLetterS c=(0,false):=NotYet2.none_ H47.out (by rw [show (5:Nat)=k by omega];exact hn.out);have H0:=Lib.hid h0;clear h0;go_wp2;go_ret2;exact ⟨by unfold Lets2;rw [H0.out];rfl,hbel⟩
def quote_letter.f (a0:Int):Option Int:=some (letterS a0)
theorem quote_letter.calls (a0:Int) (r:Int) (w:World) (h:quote_letter.f a0=some r) :
  Calls Tryd.prog 86 #[.int .u8 a0] w fun e w'=>e = .returned (.int .u8 r)∧Below w.heap.size w w':=by
 obtain rfl:=Option.some.inj h;exact letter_any a0 w
def quote_byLetter.f (a0:Int):Option (Int × Bool):=some (byLetterS a0)
theorem quote_byLetter.calls (a0:Int) (r1:Int) (r2:Bool) (w:World) (h:quote_byLetter.f a0=some (r1,r2)) :
  Calls Tryd.prog 93 #[.int .u8 a0] w fun e w'=>e = .returned (.tuple #[.int .u8 r1,.bool r2])∧Below w.heap.size w w':=by
 have h':byLetterS a0=(r1,r2):=Option.some.inj h;refine (byLetter_any a0 w).mono ?_;rintro e w' ⟨he,hb⟩;unfold Lets2 at he;rw [h'] at he;exact ⟨he,hb⟩
end Go.Proofs.YtkbjblhompkdkaaDoor
namespace Go.Proofs.YtkbjblhompkdkaaDoor.PA
open Go.RowKit Go.Proofs.YtkbjblhompkdkaaDoorW.PrintWords Go.Proofs.YtkbjblhompkdkaaDoorW.PrintLast
set_option linter.unusedVariables false
set_option linter.unusedSimpArgs false
def errW:Option Int→Value
 | none=>.nilIface
 | some c=>.iface 29 (.int .i64 c)
theorem errW_none:errW none = .nilIface:=rfl
theorem errW_some (c:Int):errW (some c) = .iface 29 (.int .i64 c):=rfl
theorem info5:(Tryd.prog.info? 5).map (fun i=>(i.zero,i.size,i.bytes))=some (some (.int .u8 0),1,1):=by kernel_rfl
theorem info24:(Tryd.prog.info? 24).map (fun i=>(i.zero,i.size,i.bytes))=some (some (.agg #[(.int .i64 0),(.int .i64 0),(.int .i64 0),(.int .i64 0),(.string ⟨#[]⟩)]),5,48):=by kernel_rfl
structure S24 where
 f0:Int
 f1:Int
 f2:Int
 f3:Int
 f4:ByteArray
def z24:S24:=⟨(0:Int),(0:Int),(0:Int),(0:Int),(⟨#[]⟩:ByteArray)⟩
def k24:Kd S24:=Kd.iso (Kd.pair (Kd.int .i64) (Kd.pair (Kd.int .i64) (Kd.pair (Kd.int .i64) (Kd.pair (Kd.int .i64) Kd.string)))) (fun x:S24=>(x.f0,x.f1,x.f2,x.f3,x.f4))
theorem k24_open {w:World} {x:S24} {cs:List Value} (h:k24.K w x cs):cs = [.int .i64 x.f0,.int .i64 x.f1,.int .i64 x.f2,.int .i64 x.f3,.string x.f4]:=by
 obtain ⟨_,_,rfl,rfl,⟨_,_,rfl,rfl,⟨_,_,rfl,rfl,⟨_,_,rfl,rfl,rfl⟩⟩⟩⟩:=h;exact rfl
theorem k24_mkM (w:World) (base:Nat) (ok:Nat→Prop) (x:S24)  : k24.M w base ok x [.int .i64 x.f0,.int .i64 x.f1,.int .i64 x.f2,.int .i64 x.f3,.string x.f4]:=⟨[.int .i64 x.f0],[.int .i64 x.f1,.int .i64 x.f2,.int .i64 x.f3,.string x.f4],rfl,rfl,⟨[.int .i64 x.f1],[.int .i64 x.f2,.int .i64 x.f3,.string x.f4],rfl,rfl,⟨[.int .i64 x.f2],[.int .i64 x.f3,.string x.f4],rfl,rfl,⟨[.int .i64 x.f3],[.string x.f4],rfl,rfl,rfl⟩⟩⟩⟩
def rd_T24 (xs:List S24) (i:Int):S24:=xs.getD i.toNat z24
theorem at_T24 {w:World} {A:Option Addr} {n:Nat} {xs:List S24} (h:Kd.C k24 w A n xs) (i:Int) (h0:0≤i) (h1:i < n):∃ ad ,A=some ad∧w.cell? (ad.add (i.toNat * 5))=some (.int .i64 (rd_T24 xs i).f0)∧w.cell? ⟨(ad.add (i.toNat * 5)).block,(ad.add (i.toNat * 5)).off+1,none⟩=some (.int .i64 (rd_T24 xs i).f1)∧w.cell? ⟨(ad.add (i.toNat * 5)).block,(ad.add (i.toNat * 5)).off+2,none⟩=some (.int .i64 (rd_T24 xs i).f2)∧w.cell? ⟨(ad.add (i.toNat * 5)).block,(ad.add (i.toNat * 5)).off+3,none⟩=some (.int .i64 (rd_T24 xs i).f3)∧w.cell? ⟨(ad.add (i.toNat * 5)).block,(ad.add (i.toNat * 5)).off+4,none⟩=some (.string (rd_T24 xs i).f4):=by
 obtain ⟨ad,c,e,_,hK,hc0⟩:=Kd.C_get h z24 i h0 h1;have hc:∀ j u,c[j]? = some u→w.cell? (ad.add (i.toNat * 5+j))=some u:=hc0;obtain rfl:=k24_open hK;exact ⟨ad,e,hc 0 _ rfl,by rw [← add_field _ _ 1 (by omega)];exact hc 1 _ rfl,by rw [← add_field _ _ 2 (by omega)];exact hc 2 _ rfl,by rw [← add_field _ _ 3 (by omega)];exact hc 3 _ rfl,by rw [← add_field _ _ 4 (by omega)];exact hc 4 _ rfl⟩
end Go.Proofs.YtkbjblhompkdkaaDoor.PA
