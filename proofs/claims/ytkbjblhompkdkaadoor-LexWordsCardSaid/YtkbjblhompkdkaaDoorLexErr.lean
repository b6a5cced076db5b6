/- errors.As at this program; fault.New, Code, Where, Last; At: by contracts on chains of faults. -/
import Derived.Test.YtkbjblhompkdkaaDoorProg
import Derived.WalkKit
import Derived.LaidEql
import Derived.Stop.Asserts
import Derived.RowKitTokens
import Derived.Deep.LoopGhost
import Derived.Below
import Derived.Lib.Hide
import Derived.Test.YtkbjblhompkdkaaDoorWMore
import Derived.KernelRfl
import Derived.RowKit3
namespace Go.Proofs.YtkbjblhompkdkaaDoor
open Go.RowKit Go.Extern.Stop Go.Stop Go.Extern
set_option linter.unusedVariables false
set_option linter.unusedSimpArgs false

/-- An error as memory holds it: its places, the outermost first, and the code under them, if there is one. -/
def Err (w : World) : Value → List Int → Option Int → Prop
  | v, [], some c => v = .iface 29 (.int .i64 c)
  | v, [], none => v = .nilIface
  | v, a :: l, c => ∃ b u, v = .iface 100 (.pointer (some ⟨b, 0, none⟩)) ∧ w.cell? ⟨b, 0, none⟩ = some (.int .i64 a) ∧ w.cell? ⟨b, 1, none⟩ = some u ∧ Err w u l c

theorem lt_of_cell {w : World} {b o : Nat} {v : Value} (h : w.cell? ⟨b, o, none⟩ = some v) : b < w.heap.size := by
  rcases Nat.lt_or_ge b w.heap.size with h' | h'
  · exact h'
  · simp [World.cell?, Array.getElem?_eq_none h'] at h
theorem Err.below {w w' : World} {n : Nat} (hb : Below n w w') (hn : w.heap.size ≤ n) {l : List Int} {c : Option Int} : ∀ {v : Value}, Err w v l c → Err w' v l c := by
  induction l with
  | nil => intro v h; cases c <;> exact h
  | cons a l ih =>
    rintro v ⟨b, u, rfl, h1, h2, h3⟩
    have hlt := lt_of_cell h1
    exact ⟨b, u, rfl, (hb.cell (by show b < n; omega)).trans h1, (hb.cell (by show b < n; omega)).trans h2, ih h3⟩

/-! ### what the model's entries for internal/reflectlite give at this program's types -/
theorem R.valueOfPF (t : Addr) (w : World) : (ReflectliteValue.unpack (.iface 110 (.pointer (some t)))).run Tryd.prog w
    = .ok (.agg #[.pointer (some ⟨2, 110, none⟩), .pointer (some ⟨w.heap.size, 0, none⟩), .int .u64 150]) (w.alloc (.cells #[.pointer (some t)] 110)) := by kernel_rfl
theorem R.valueOfPE (t : Addr) (w : World) : (ReflectliteValue.unpack (.iface 109 (.pointer (some t)))).run Tryd.prog w
    = .ok (.agg #[.pointer (some ⟨2, 109, none⟩), .pointer (some ⟨w.heap.size, 0, none⟩), .int .u64 150]) (w.alloc (.cells #[.pointer (some t)] 109)) := by kernel_rfl
theorem R.valueOfF (e : Addr) (w : World) : (ReflectliteValue.unpack (.iface 100 (.pointer (some e)))).run Tryd.prog w
    = .ok (.agg #[.pointer (some ⟨2, 100, none⟩), .pointer (some ⟨w.heap.size, 0, none⟩), .int .u64 150]) (w.alloc (.cells #[.pointer (some e)] 100)) := by kernel_rfl
theorem R.valueOfE (c : Int) (w : World) : (ReflectliteValue.unpack (.iface 29 (.int .i64 c))).run Tryd.prog w
    = .ok (.agg #[.pointer (some ⟨2, 29, none⟩), .pointer (some ⟨w.heap.size, 0, none⟩), .int .u64 130]) (w.alloc (.cells #[.int .i64 c] 29)) := by kernel_rfl
theorem R.typePF (a : Addr) (w : World) : (ReflectliteValue.methodAny (ReflectliteValue.valueError "reflectlite.Value.Type" 0) (fun t _ _ _ => ReflectliteType.toType t) #[.agg #[.pointer (some ⟨2, 110, none⟩), .pointer (some a), .int .u64 150]]).run Tryd.prog w
    = .ok (.iface 137 (.agg #[.pointer (some ⟨2, 110, none⟩)])) w := by kernel_rfl
theorem R.typePE (a : Addr) (w : World) : (ReflectliteValue.methodAny (ReflectliteValue.valueError "reflectlite.Value.Type" 0) (fun t _ _ _ => ReflectliteType.toType t) #[.agg #[.pointer (some ⟨2, 109, none⟩), .pointer (some a), .int .u64 150]]).run Tryd.prog w
    = .ok (.iface 137 (.agg #[.pointer (some ⟨2, 109, none⟩)])) w := by kernel_rfl
theorem R.methodKind (h : Value) (w : World) : (Go.method 280 137 (.agg #[h]) "Kind").run Tryd.prog w = .ok (120, h) w := by kernel_rfl
theorem R.kindPF (w : World) : ((ReflectliteType.abiMethod fun t => (fun a : Nat => Value.int IntKind.u8 (a : Int)) <$> Rtype.kind t) #[.pointer (some ⟨2, 110, none⟩)]).run Tryd.prog w = .ok (.int .u8 22) w := by kernel_rfl
theorem R.kindF (w : World) : ((ReflectliteType.abiMethod fun t => (fun a : Nat => Value.int IntKind.u8 (a : Int)) <$> Rtype.kind t) #[.pointer (some ⟨2, 100, none⟩)]).run Tryd.prog w = .ok (.int .u8 22) w := by kernel_rfl
theorem R.kindPE (w : World) : ((ReflectliteType.abiMethod fun t => (fun a : Nat => Value.int IntKind.u8 (a : Int)) <$> Rtype.kind t) #[.pointer (some ⟨2, 109, none⟩)]).run Tryd.prog w = .ok (.int .u8 22) w := by kernel_rfl
theorem R.kindE (w : World) : ((ReflectliteType.abiMethod fun t => (fun a : Nat => Value.int IntKind.u8 (a : Int)) <$> Rtype.kind t) #[.pointer (some ⟨2, 29, none⟩)]).run Tryd.prog w = .ok (.int .u8 2) w := by kernel_rfl

theorem rlm (z : Sem Value) (f : TypeId → Addr → Nat → Nat → Sem Value) (v : Value) :
    ReflectliteValue.method z f #[v] = (do match ← ReflectliteValue.parts v with | none => z | some (t, a, fl) => f t a fl (fl % 32)) := rfl
theorem R.partsPF (a : Addr) (w : World) : (ReflectliteValue.parts (.agg #[.pointer (some ⟨2, 110, none⟩), .pointer (some a), .int .u64 150])).run Tryd.prog w = .ok (some (110, a, 150)) w := by kernel_rfl
theorem R.partsPE (a : Addr) (w : World) : (ReflectliteValue.parts (.agg #[.pointer (some ⟨2, 109, none⟩), .pointer (some a), .int .u64 150])).run Tryd.prog w = .ok (some (109, a, 150)) w := by kernel_rfl
theorem R.isNilPF (a p : Addr) (W : World) (ha : W.cell? a = some (.pointer (some p))) :
    (ReflectliteValue.method (ReflectliteValue.valueError "reflectlite.Value.IsNil" 0) ReflectliteValue.isNil #[.agg #[.pointer (some ⟨2, 110, none⟩), .pointer (some a), .int .u64 150]]).run Tryd.prog W = .ok (.bool false) W := by
  rw [rlm]
  simp only [Sem.run_bind, R.partsPF, Result.andThen]
  simp [ReflectliteValue.isNil, loadVar, isAgg, underlying, Tryd.underlying110, ha, Result.andThen]
theorem R.isNilPE (a p : Addr) (W : World) (ha : W.cell? a = some (.pointer (some p))) :
    (ReflectliteValue.method (ReflectliteValue.valueError "reflectlite.Value.IsNil" 0) ReflectliteValue.isNil #[.agg #[.pointer (some ⟨2, 109, none⟩), .pointer (some a), .int .u64 150]]).run Tryd.prog W = .ok (.bool false) W := by
  rw [rlm]
  simp only [Sem.run_bind, R.partsPE, Result.andThen]
  simp [ReflectliteValue.isNil, loadVar, isAgg, underlying, Tryd.underlying109, ha, Result.andThen]

theorem R.methodElem (h : Value) (w : World) : (Go.method 280 137 (.agg #[h]) "Elem").run Tryd.prog w = .ok (132, .agg #[h]) w := by kernel_rfl
theorem R.methodImplements (h : Value) (w : World) : (Go.method 280 137 (.agg #[h]) "Implements").run Tryd.prog w = .ok (133, .agg #[h]) w := by kernel_rfl
theorem R.methodAssignableTo (h : Value) (w : World) : (Go.method 280 137 (.agg #[h]) "AssignableTo").run Tryd.prog w = .ok (130, .agg #[h]) w := by kernel_rfl
theorem R.methodUnwrap (h : Value) (w : World) : (Go.method 280 100 h "Unwrap").run Tryd.prog w = .ok (125, h) w := by kernel_rfl
theorem R.elemPF (w : World) : (ReflectliteType.method ReflectliteType.elem #[.agg #[.pointer (some ⟨2, 110, none⟩)]]).run Tryd.prog w = .ok (.iface 137 (.agg #[.pointer (some ⟨2, 100, none⟩)])) w := by kernel_rfl
theorem R.elemPE (w : World) : (ReflectliteType.method ReflectliteType.elem #[.agg #[.pointer (some ⟨2, 109, none⟩)]]).run Tryd.prog w = .ok (.iface 137 (.agg #[.pointer (some ⟨2, 29, none⟩)])) w := by kernel_rfl
theorem R.implementsF (w : World) : (ReflectliteType.relation "Implements" ReflectliteType.implements_ #[.agg #[.pointer (some ⟨2, 100, none⟩)], .iface 137 (.agg #[.pointer (some ⟨2, 26, none⟩)])]).run Tryd.prog w = .ok (.bool true) w := by kernel_rfl
theorem R.implementsE (w : World) : (ReflectliteType.relation "Implements" ReflectliteType.implements_ #[.agg #[.pointer (some ⟨2, 29, none⟩)], .iface 137 (.agg #[.pointer (some ⟨2, 26, none⟩)])]).run Tryd.prog w = .ok (.bool true) w := by kernel_rfl
theorem R.typeOfF (v : Value) (w : World) : (ReflectliteType.typeOf #[.iface 100 v]).run Tryd.prog w = .ok (.iface 137 (.agg #[.pointer (some ⟨2, 100, none⟩)])) w := by kernel_rfl
theorem R.typeOfE (v : Value) (w : World) : (ReflectliteType.typeOf #[.iface 29 v]).run Tryd.prog w = .ok (.iface 137 (.agg #[.pointer (some ⟨2, 29, none⟩)])) w := by kernel_rfl
theorem R.assignableFF (w : World) : (ReflectliteType.relation "AssignableTo" ReflectliteType.assignableTo #[.agg #[.pointer (some ⟨2, 100, none⟩)], .iface 137 (.agg #[.pointer (some ⟨2, 100, none⟩)])]).run Tryd.prog w = .ok (.bool true) w := by kernel_rfl
theorem R.assignableFE (w : World) : (ReflectliteType.relation "AssignableTo" ReflectliteType.assignableTo #[.agg #[.pointer (some ⟨2, 100, none⟩)], .iface 137 (.agg #[.pointer (some ⟨2, 29, none⟩)])]).run Tryd.prog w = .ok (.bool false) w := by kernel_rfl
theorem R.assignableEF (w : World) : (ReflectliteType.relation "AssignableTo" ReflectliteType.assignableTo #[.agg #[.pointer (some ⟨2, 29, none⟩)], .iface 137 (.agg #[.pointer (some ⟨2, 100, none⟩)])]).run Tryd.prog w = .ok (.bool false) w := by kernel_rfl
theorem R.assignableEE (w : World) : (ReflectliteType.relation "AssignableTo" ReflectliteType.assignableTo #[.agg #[.pointer (some ⟨2, 29, none⟩)], .iface 137 (.agg #[.pointer (some ⟨2, 29, none⟩)])]).run Tryd.prog w = .ok (.bool true) w := by kernel_rfl
theorem R.noAsF (v : Value) (xT : TypeId) (w : World) : (Instr.typeAssert (.iface 100 v) xT 142 true).run Tryd.prog w = .ok (.tuple #[.nilIface, .bool false]) w := run_typeAssert_lacksB Tryd.underlying142 (by kernel_rfl) (by kernel_rfl) v xT w
theorem R.noAsE (v : Value) (xT : TypeId) (w : World) : (Instr.typeAssert (.iface 29 v) xT 142 true).run Tryd.prog w = .ok (.tuple #[.nilIface, .bool false]) w := run_typeAssert_lacksB Tryd.underlying142 (by kernel_rfl) (by kernel_rfl) v xT w
theorem R.hasUnwrapF (v : Value) (xT : TypeId) (w : World) : (Instr.typeAssert (.iface 100 v) xT 145 true).run Tryd.prog w = .ok (.tuple #[.iface 100 v, .bool true]) w := run_typeAssert_hasB Tryd.underlying145 (by kernel_rfl) v xT w
theorem R.noUnwrapE (v : Value) (xT : TypeId) (w : World) : (Instr.typeAssert (.iface 29 v) xT 145 true).run Tryd.prog w = .ok (.tuple #[.nilIface, .bool false]) w := run_typeAssert_lacksB Tryd.underlying145 (by kernel_rfl) (by kernel_rfl) v xT w
theorem R.noUnwrapsE (v : Value) (xT : TypeId) (w : World) : (Instr.typeAssert (.iface 29 v) xT 147 true).run Tryd.prog w = .ok (.tuple #[.nilIface, .bool false]) w := run_typeAssert_lacksB Tryd.underlying147 (by kernel_rfl) (by kernel_rfl) v xT w

theorem R.elemOfPF (w : World) : (Rtype.elem? 110).run Tryd.prog w = .ok (some 100) w := by kernel_rfl
theorem R.elemOfPE (w : World) : (Rtype.elem? 109).run Tryd.prog w = .ok (some 29) w := by kernel_rfl
theorem R.mkF (p : Addr) (w : World) : (ReflectliteValue.mk 100 p ReflectliteValue.flagAddr).run Tryd.prog w = .ok (.agg #[.pointer (some ⟨2, 100, none⟩), .pointer (some p), .int .u64 406]) w := by kernel_rfl
theorem R.mkE (p : Addr) (w : World) : (ReflectliteValue.mk 29 p ReflectliteValue.flagAddr).run Tryd.prog w = .ok (.agg #[.pointer (some ⟨2, 29, none⟩), .pointer (some p), .int .u64 386]) w := by kernel_rfl
theorem R.elemVPF (a p : Addr) (W : World) (ha : W.cell? a = some (.pointer (some p))) :
    (ReflectliteValue.method (ReflectliteValue.valueError "reflectlite.Value.Elem" 0) ReflectliteValue.elem #[.agg #[.pointer (some ⟨2, 110, none⟩), .pointer (some a), .int .u64 150]]).run Tryd.prog W
      = .ok (.agg #[.pointer (some ⟨2, 100, none⟩), .pointer (some p), .int .u64 406]) W := by
  rw [rlm]
  simp only [Sem.run_bind, R.partsPF, Result.andThen]
  simp [ReflectliteValue.elem, loadVar, isAgg, underlying, Tryd.underlying110, ha, Result.andThen, R.elemOfPF, R.mkF]
theorem R.elemVPE (a p : Addr) (W : World) (ha : W.cell? a = some (.pointer (some p))) :
    (ReflectliteValue.method (ReflectliteValue.valueError "reflectlite.Value.Elem" 0) ReflectliteValue.elem #[.agg #[.pointer (some ⟨2, 109, none⟩), .pointer (some a), .int .u64 150]]).run Tryd.prog W
      = .ok (.agg #[.pointer (some ⟨2, 29, none⟩), .pointer (some p), .int .u64 386]) W := by
  rw [rlm]
  simp only [Sem.run_bind, R.partsPE, Result.andThen]
  simp [ReflectliteValue.elem, loadVar, isAgg, underlying, Tryd.underlying109, ha, Result.andThen, R.elemOfPE, R.mkE]
theorem rls (v x : Value) : ReflectliteValue.set #[v, x] = (do
    let (some (dst, a, fl), some (src, b, _)) := (← ReflectliteValue.parts v, ← ReflectliteValue.parts x)
      | unsupported (.noEntry "extern/(internal/reflectlite.Value).Set.zeroValue")
    if fl / ReflectliteValue.flagAddr % 2 == 0 then unsupported (.noEntry "extern/(internal/reflectlite.Value).Set.unaddressable")
    let val ← loadVar src b
    if ← Rtype.directlyAssignable dst src then storeVar dst a val
    else if ← Rtype.implements dst src then
      if (← Rtype.kind src) == 20 then
        match val with
        | .nilIface => unsupported (.noEntry "extern/reflectlite: a nil value of one interface type handed on as a value of another")
        | _ => storeVar dst a val
      else storeVar dst a (.iface src val)
    else panicString ("reflectlite.Set: value of type " ++ (← Rtype.spelt src) ++ " is not assignable to type " ++ (← Rtype.spelt dst))
    pure (.tuple #[])) := rfl
theorem R.partsFa (a : Addr) (w : World) : (ReflectliteValue.parts (.agg #[.pointer (some ⟨2, 100, none⟩), .pointer (some a), .int .u64 406])).run Tryd.prog w = .ok (some (100, a, 406)) w := by kernel_rfl
theorem R.partsF (a : Addr) (w : World) : (ReflectliteValue.parts (.agg #[.pointer (some ⟨2, 100, none⟩), .pointer (some a), .int .u64 150])).run Tryd.prog w = .ok (some (100, a, 150)) w := by kernel_rfl
theorem R.partsEa (a : Addr) (w : World) : (ReflectliteValue.parts (.agg #[.pointer (some ⟨2, 29, none⟩), .pointer (some a), .int .u64 386])).run Tryd.prog w = .ok (some (29, a, 386)) w := by kernel_rfl
theorem R.partsE (a : Addr) (w : World) : (ReflectliteValue.parts (.agg #[.pointer (some ⟨2, 29, none⟩), .pointer (some a), .int .u64 130])).run Tryd.prog w = .ok (some (29, a, 130)) w := by kernel_rfl
theorem R.directF (w : World) : (Rtype.directlyAssignable 100 100).run Tryd.prog w = .ok true w := by kernel_rfl
theorem R.directE (w : World) : (Rtype.directlyAssignable 29 29).run Tryd.prog w = .ok true w := by kernel_rfl
theorem R.setF (ta b e : Addr) (old : Value) (W : World) (hb : W.cell? b = some (.pointer (some e))) (ht : W.cell? ta = some old) (hf : W.frozen? ta = false) :
    (ReflectliteValue.set #[.agg #[.pointer (some ⟨2, 100, none⟩), .pointer (some ta), .int .u64 406], .agg #[.pointer (some ⟨2, 100, none⟩), .pointer (some b), .int .u64 150]]).run Tryd.prog W
      = .ok (.tuple #[]) (W.setCell ta (.pointer (some e))) := by
  rw [rls]
  simp only [Sem.run_bind, R.partsFa, R.partsF, Result.andThen]
  simp [ReflectliteValue.flagAddr, loadVar, isAgg, underlying, Tryd.underlying100, hb, Result.andThen, R.directF, storeVar, Value.cells, storeCells, Addr.add]
  rw [run_store Tryd.prog W ta _ _ (by rfl)]
  simp [ht, hf]
theorem R.setE (ta b : Addr) (c : Int) (old : Value) (W : World) (hb : W.cell? b = some (.int .i64 c)) (ht : W.cell? ta = some old) (hf : W.frozen? ta = false) :
    (ReflectliteValue.set #[.agg #[.pointer (some ⟨2, 29, none⟩), .pointer (some ta), .int .u64 386], .agg #[.pointer (some ⟨2, 29, none⟩), .pointer (some b), .int .u64 130]]).run Tryd.prog W
      = .ok (.tuple #[]) (W.setCell ta (.int .i64 c)) := by
  rw [rls]
  simp only [Sem.run_bind, R.partsEa, R.partsE, Result.andThen]
  simp [ReflectliteValue.flagAddr, loadVar, isAgg, underlying, Tryd.underlying29, hb, Result.andThen, R.directE, storeVar, Value.cells, storeCells, Addr.add]
  rw [run_store Tryd.prog W ta _ _ (by rfl)]
  simp [ht, hf]
end Go.Proofs.YtkbjblhompkdkaaDoor

namespace Go.Proofs.YtkbjblhompkdkaaDoor
open Go.RowKit Go.Extern.Stop Go.Stop Go.Extern
set_option linter.unusedVariables false
set_option linter.unusedSimpArgs false

/-- What the variable errors.errorType must hold. -/
def Laid (w : World) : Prop := w.cell? ⟨1, 0, none⟩ = some (.iface 137 (.agg #[.pointer (some ⟨2, 26, none⟩)]))
theorem Laid.below {w w' : World} {n : Nat} (h : Laid w) (hb : Below n w w') (hn : w.heap.size ≤ n) : Laid w' :=
  (hb.cell (by have := lt_of_cell h; show 1 < n; omega)).trans h

theorem unwrap_calls (b : Nat) (u : Value) (w : World) (h : w.cell? ⟨b, 1, none⟩ = some u) :
    Calls Tryd.prog 125 #[.pointer (some ⟨b, 0, none⟩)] w fun e w' => e = .returned u ∧ w' = w := by
  go_enter Tryd.func125, Tryd.ntmps125
  go_wp2
  go_ret
  exact ⟨rfl, rfl⟩

theorem as_nil (t : Value) (w : World) :
    Calls Tryd.prog 84 #[.nilIface, t] w fun e w' => e = .returned (.bool false) ∧ w' = w := by
  go_enter Tryd.func84, Tryd.ntmps84
  go_wp2
  go_ret
  exact ⟨rfl, rfl⟩

/-- The three blocks that errors.As makes for a target: the Value's own variable, and two copies of the Value. -/
def three (w : World) (T : TypeId) (t : Addr) : World :=
  ((w.alloc (.cells #[.pointer (some t)] T)).alloc (.cells #[.pointer (some ⟨2, T, none⟩), .pointer (some ⟨w.heap.size, 0, none⟩), .int .u64 150] 123)).alloc (.cells #[.pointer (some ⟨2, T, none⟩), .pointer (some ⟨w.heap.size, 0, none⟩), .int .u64 150] 123)

set_option maxHeartbeats 4000000 in
theorem as_hitF (e t : Addr) (old : Value) (w : World) (hg : Laid w) (ht0 : w.cell? t = some old) (hf0 : w.frozen? t = false) :
    Calls Tryd.prog 84 #[.iface 100 (.pointer (some e)), .iface 110 (.pointer (some t))] w fun ev w' => ev = .returned (.bool true) ∧ w' = ((three w 110 t).alloc (.cells #[.pointer (some e)] 100)).setCell t (.pointer (some e)) := by
  unfold three
  have h6 := @run_callFunc_extern Tryd.prog 95 _ (fun args => ReflectliteValue.unpack (args.getD 0 (.tuple #[]))) Tryd.func95 (by kernel_rfl) (by kernel_rfl) (by kernel_rfl) (by kernel_rfl)
  have h7 := @run_callFunc_extern Tryd.prog 96 _ (ReflectliteValue.methodAny (ReflectliteValue.valueError "reflectlite.Value.Type" 0) (fun t _ _ _ => ReflectliteType.toType t)) Tryd.func96 (by kernel_rfl) (by kernel_rfl) (by kernel_rfl) (by kernel_rfl)
  have h8 := @run_callFunc_extern Tryd.prog 97 _ (ReflectliteValue.method (ReflectliteValue.valueError "reflectlite.Value.IsNil" 0) ReflectliteValue.isNil) Tryd.func97 (by kernel_rfl) (by kernel_rfl) (by kernel_rfl) (by kernel_rfl)
  have h27 := @run_callFunc_extern Tryd.prog 120 _ (ReflectliteType.abiMethod fun t => do pure (.int .u8 (← Rtype.kind t))) Tryd.func120 (by kernel_rfl) (by kernel_rfl) (by kernel_rfl) (by kernel_rfl)
  have h37 := @run_callFunc_extern Tryd.prog 132 _ (ReflectliteType.method ReflectliteType.elem) Tryd.func132 (by kernel_rfl) (by kernel_rfl) (by kernel_rfl) (by kernel_rfl)
  have h38 := @run_callFunc_extern Tryd.prog 133 _ (ReflectliteType.relation "Implements" ReflectliteType.implements_) Tryd.func133 (by kernel_rfl) (by kernel_rfl) (by kernel_rfl) (by kernel_rfl)
  have h10 := @run_callFunc_extern Tryd.prog 102 _ ReflectliteType.typeOf Tryd.func102 (by kernel_rfl) (by kernel_rfl) (by kernel_rfl) (by kernel_rfl)
  have h35 := @run_callFunc_extern Tryd.prog 130 _ (ReflectliteType.relation "AssignableTo" ReflectliteType.assignableTo) Tryd.func130 (by kernel_rfl) (by kernel_rfl) (by kernel_rfl) (by kernel_rfl)
  have h11 := @run_callFunc_extern Tryd.prog 103 _ (ReflectliteValue.method (ReflectliteValue.valueError "reflectlite.Value.Elem" 0) ReflectliteValue.elem) Tryd.func103 (by kernel_rfl) (by kernel_rfl) (by kernel_rfl) (by kernel_rfl)
  have h12 := @run_callFunc_extern Tryd.prog 104 _ ReflectliteValue.set Tryd.func104 (by kernel_rfl) (by kernel_rfl) (by kernel_rfl) (by kernel_rfl)
  have tO := R.typeOfF
  have mA := R.methodAssignableTo
  have a25 := R.assignableFF
  have v25 := R.valueOfF
  have f6 := R.valueOfPF
  have f7 := R.typePF
  have mK := R.methodKind
  have mE := R.methodElem
  have mI := R.methodImplements
  have k27 := R.kindPF
  have k25 := R.kindF
  have e27 := R.elemPF
  have i25 := R.implementsF
  have n8 := R.isNilPF ⟨w.heap.size, 0, none⟩ t ((w.alloc (.cells #[.pointer (some t)] 110)).alloc (.cells #[.pointer (some ⟨2, 110, none⟩), .pointer (some ⟨w.heap.size, 0, none⟩), .int .u64 150] 123)) (by simp)
  have hlt := lt_of_cell hg
  have hg2 : ((w.alloc (.cells #[.pointer (some t)] 110)).alloc (.cells #[.pointer (some ⟨2, 110, none⟩), .pointer (some ⟨w.heap.size, 0, none⟩), .int .u64 150] 123)).cell? ⟨1, 0, none⟩ = some (.iface 137 (.agg #[.pointer (some ⟨2, 26, none⟩)])) := by
    rw [World.cell?_alloc_lt _ _ ⟨1, 0, none⟩ (by first | (simp; done) | (simp; omega)), World.cell?_alloc_lt _ _ ⟨1, 0, none⟩ hlt]; exact hg
  have htl : t.block < w.heap.size := by
    rcases Nat.lt_or_ge t.block w.heap.size with h | h
    · exact h
    · simp [World.cell?, Array.getElem?_eq_none h] at ht0
  have el := R.elemVPF ⟨w.heap.size, 0, none⟩ t (((w.alloc (.cells #[.pointer (some t)] 110)).alloc (.cells #[.pointer (some ⟨2, 110, none⟩), .pointer (some ⟨w.heap.size, 0, none⟩), .int .u64 150] 123)).alloc (.cells #[.pointer (some ⟨2, 110, none⟩), .pointer (some ⟨w.heap.size, 0, none⟩), .int .u64 150] 123)) (by rw [World.cell?_alloc_lt _ _ ⟨w.heap.size, 0, none⟩ (by simp; omega)]; simp)
  have st := R.setF t ⟨w.heap.size + 1 + 1 + 1, 0, none⟩ e old ((((w.alloc (.cells #[.pointer (some t)] 110)).alloc (.cells #[.pointer (some ⟨2, 110, none⟩), .pointer (some ⟨w.heap.size, 0, none⟩), .int .u64 150] 123)).alloc (.cells #[.pointer (some ⟨2, 110, none⟩), .pointer (some ⟨w.heap.size, 0, none⟩), .int .u64 150] 123)).alloc (.cells #[.pointer (some e)] 100))
    (by rw [World.cell?_alloc_at _ _ _ _ (by simp)]; rfl)
    (by rw [World.cell?_alloc_lt _ _ t (by simp; omega), World.cell?_alloc_lt _ _ t (by simp; omega), World.cell?_alloc_lt _ _ t (by simp; omega), World.cell?_alloc_lt _ _ t htl]; exact ht0)
    (by rw [World.frozen?_alloc_old _ _ t (by simp; omega), World.frozen?_alloc_old _ _ t (by simp; omega), World.frozen?_alloc_old _ _ t (by simp; omega), World.frozen?_alloc_old _ _ t (Nat.ne_of_lt htl)]; exact hf0)
  clear hg
  go_enter Tryd.func84, Tryd.ntmps84
  go_wp2
  refine wp_loop_rounds 1 ?_
  rw [rounds_succ]
  go_wp2
  go_ret
  exact ⟨rfl, rfl⟩

set_option maxHeartbeats 4000000 in
theorem as_missE (c : Int) (t : Addr) (old : Value) (w : World) (hg : Laid w) (ht0 : w.cell? t = some old) :
    Calls Tryd.prog 84 #[.iface 29 (.int .i64 c), .iface 110 (.pointer (some t))] w fun ev w' => ev = .returned (.bool false) ∧ w' = three w 110 t := by
  unfold three
  have h6 := @run_callFunc_extern Tryd.prog 95 _ (fun args => ReflectliteValue.unpack (args.getD 0 (.tuple #[]))) Tryd.func95 (by kernel_rfl) (by kernel_rfl) (by kernel_rfl) (by kernel_rfl)
  have h7 := @run_callFunc_extern Tryd.prog 96 _ (ReflectliteValue.methodAny (ReflectliteValue.valueError "reflectlite.Value.Type" 0) (fun t _ _ _ => ReflectliteType.toType t)) Tryd.func96 (by kernel_rfl) (by kernel_rfl) (by kernel_rfl) (by kernel_rfl)
  have h8 := @run_callFunc_extern Tryd.prog 97 _ (ReflectliteValue.method (ReflectliteValue.valueError "reflectlite.Value.IsNil" 0) ReflectliteValue.isNil) Tryd.func97 (by kernel_rfl) (by kernel_rfl) (by kernel_rfl) (by kernel_rfl)
  have h27 := @run_callFunc_extern Tryd.prog 120 _ (ReflectliteType.abiMethod fun t => do pure (.int .u8 (← Rtype.kind t))) Tryd.func120 (by kernel_rfl) (by kernel_rfl) (by kernel_rfl) (by kernel_rfl)
  have h37 := @run_callFunc_extern Tryd.prog 132 _ (ReflectliteType.method ReflectliteType.elem) Tryd.func132 (by kernel_rfl) (by kernel_rfl) (by kernel_rfl) (by kernel_rfl)
  have h38 := @run_callFunc_extern Tryd.prog 133 _ (ReflectliteType.relation "Implements" ReflectliteType.implements_) Tryd.func133 (by kernel_rfl) (by kernel_rfl) (by kernel_rfl) (by kernel_rfl)
  have h10 := @run_callFunc_extern Tryd.prog 102 _ ReflectliteType.typeOf Tryd.func102 (by kernel_rfl) (by kernel_rfl) (by kernel_rfl) (by kernel_rfl)
  have h35 := @run_callFunc_extern Tryd.prog 130 _ (ReflectliteType.relation "AssignableTo" ReflectliteType.assignableTo) Tryd.func130 (by kernel_rfl) (by kernel_rfl) (by kernel_rfl) (by kernel_rfl)
  have tO := R.typeOfE
  have mA := R.methodAssignableTo
  have a25 := R.assignableEF
  have f6 := R.valueOfPF
  have f7 := R.typePF
  have mK := R.methodKind
  have mE := R.methodElem
  have mI := R.methodImplements
  have k27 := R.kindPF
  have k25 := R.kindF
  have e27 := R.elemPF
  have i25 := R.implementsF
  have nA := R.noAsE
  have nU := R.noUnwrapE
  have nV := R.noUnwrapsE
  have n8 := R.isNilPF ⟨w.heap.size, 0, none⟩ t ((w.alloc (.cells #[.pointer (some t)] 110)).alloc (.cells #[.pointer (some ⟨2, 110, none⟩), .pointer (some ⟨w.heap.size, 0, none⟩), .int .u64 150] 123)) (by simp)
  have hlt := lt_of_cell hg
  have hg2 : ((w.alloc (.cells #[.pointer (some t)] 110)).alloc (.cells #[.pointer (some ⟨2, 110, none⟩), .pointer (some ⟨w.heap.size, 0, none⟩), .int .u64 150] 123)).cell? ⟨1, 0, none⟩ = some (.iface 137 (.agg #[.pointer (some ⟨2, 26, none⟩)])) := by
    rw [World.cell?_alloc_lt _ _ ⟨1, 0, none⟩ (by first | (simp; done) | (simp; omega)), World.cell?_alloc_lt _ _ ⟨1, 0, none⟩ hlt]; exact hg
  clear hg
  go_enter Tryd.func84, Tryd.ntmps84
  go_wp2
  refine wp_loop_rounds 1 ?_
  rw [rounds_succ]
  go_wp2
  go_ret
  exact ⟨rfl, rfl⟩
end Go.Proofs.YtkbjblhompkdkaaDoor

namespace Go.Proofs.YtkbjblhompkdkaaDoor
open Go.RowKit Go.Extern.Stop Go.Stop Go.Extern
set_option linter.unusedVariables false
set_option linter.unusedSimpArgs false

theorem Err.iface {w : World} {v : Value} {l : List Int} {c : Option Int} (h : Err w v l c) (hn : l ≠ [] ∨ c ≠ none) : ∃ T x, v = .iface T x := by
  cases l with
  | nil =>
    cases c with
    | none => simp at hn
    | some c => exact ⟨_, _, h⟩
  | cons a l =>
    obtain ⟨b, u, rfl, _⟩ := h
    exact ⟨_, _, rfl⟩

set_option maxHeartbeats 4000000 in
theorem as_code (c : Int) (l : List Int) (v : Value) (t : Addr) (old : Value) (w : World) (hg : Laid w) (he : Err w v l (some c)) (ht0 : w.cell? t = some old) (hf0 : w.frozen? t = false) :
    Calls Tryd.prog 84 #[v, .iface 109 (.pointer (some t))] w fun ev w' => ev = .returned (.bool true) ∧ w' = ((three w 109 t).alloc (.cells #[.int .i64 c] 29)).setCell t (.int .i64 c) := by
  unfold three
  have h6 := @run_callFunc_extern Tryd.prog 95 _ (fun args => ReflectliteValue.unpack (args.getD 0 (.tuple #[]))) Tryd.func95 (by kernel_rfl) (by kernel_rfl) (by kernel_rfl) (by kernel_rfl)
  have h7 := @run_callFunc_extern Tryd.prog 96 _ (ReflectliteValue.methodAny (ReflectliteValue.valueError "reflectlite.Value.Type" 0) (fun t _ _ _ => ReflectliteType.toType t)) Tryd.func96 (by kernel_rfl) (by kernel_rfl) (by kernel_rfl) (by kernel_rfl)
  have h8 := @run_callFunc_extern Tryd.prog 97 _ (ReflectliteValue.method (ReflectliteValue.valueError "reflectlite.Value.IsNil" 0) ReflectliteValue.isNil) Tryd.func97 (by kernel_rfl) (by kernel_rfl) (by kernel_rfl) (by kernel_rfl)
  have h27 := @run_callFunc_extern Tryd.prog 120 _ (ReflectliteType.abiMethod fun t => do pure (.int .u8 (← Rtype.kind t))) Tryd.func120 (by kernel_rfl) (by kernel_rfl) (by kernel_rfl) (by kernel_rfl)
  have h37 := @run_callFunc_extern Tryd.prog 132 _ (ReflectliteType.method ReflectliteType.elem) Tryd.func132 (by kernel_rfl) (by kernel_rfl) (by kernel_rfl) (by kernel_rfl)
  have h38 := @run_callFunc_extern Tryd.prog 133 _ (ReflectliteType.relation "Implements" ReflectliteType.implements_) Tryd.func133 (by kernel_rfl) (by kernel_rfl) (by kernel_rfl) (by kernel_rfl)
  have h10 := @run_callFunc_extern Tryd.prog 102 _ ReflectliteType.typeOf Tryd.func102 (by kernel_rfl) (by kernel_rfl) (by kernel_rfl) (by kernel_rfl)
  have h35 := @run_callFunc_extern Tryd.prog 130 _ (ReflectliteType.relation "AssignableTo" ReflectliteType.assignableTo) Tryd.func130 (by kernel_rfl) (by kernel_rfl) (by kernel_rfl) (by kernel_rfl)
  have h11 := @run_callFunc_extern Tryd.prog 103 _ (ReflectliteValue.method (ReflectliteValue.valueError "reflectlite.Value.Elem" 0) ReflectliteValue.elem) Tryd.func103 (by kernel_rfl) (by kernel_rfl) (by kernel_rfl) (by kernel_rfl)
  have h12 := @run_callFunc_extern Tryd.prog 104 _ ReflectliteValue.set Tryd.func104 (by kernel_rfl) (by kernel_rfl) (by kernel_rfl) (by kernel_rfl)
  have tO := R.typeOfE
  have tF := R.typeOfF
  have mA := R.methodAssignableTo
  have aE := R.assignableEE
  have aF := R.assignableFE
  have v25 := R.valueOfE
  have f6 := R.valueOfPE
  have f7 := R.typePE
  have mK := R.methodKind
  have mE := R.methodElem
  have mI := R.methodImplements
  have mU := R.methodUnwrap
  have nA := R.noAsF
  have hU := R.hasUnwrapF
  have k27 := R.kindPE
  have k25 := R.kindE
  have e27 := R.elemPE
  have i25 := R.implementsE
  have n8 := R.isNilPE ⟨w.heap.size, 0, none⟩ t ((w.alloc (.cells #[.pointer (some t)] 109)).alloc (.cells #[.pointer (some ⟨2, 109, none⟩), .pointer (some ⟨w.heap.size, 0, none⟩), .int .u64 150] 123)) (by simp)
  have hlt := lt_of_cell hg
  have hg2 : ((w.alloc (.cells #[.pointer (some t)] 109)).alloc (.cells #[.pointer (some ⟨2, 109, none⟩), .pointer (some ⟨w.heap.size, 0, none⟩), .int .u64 150] 123)).cell? ⟨1, 0, none⟩ = some (.iface 137 (.agg #[.pointer (some ⟨2, 26, none⟩)])) := by
    rw [World.cell?_alloc_lt _ _ ⟨1, 0, none⟩ (by first | (simp; done) | (simp; omega)), World.cell?_alloc_lt _ _ ⟨1, 0, none⟩ hlt]; exact hg
  have htl : t.block < w.heap.size := by
    rcases Nat.lt_or_ge t.block w.heap.size with h | h
    · exact h
    · simp [World.cell?, Array.getElem?_eq_none h] at ht0
  have el := R.elemVPE ⟨w.heap.size, 0, none⟩ t (((w.alloc (.cells #[.pointer (some t)] 109)).alloc (.cells #[.pointer (some ⟨2, 109, none⟩), .pointer (some ⟨w.heap.size, 0, none⟩), .int .u64 150] 123)).alloc (.cells #[.pointer (some ⟨2, 109, none⟩), .pointer (some ⟨w.heap.size, 0, none⟩), .int .u64 150] 123)) (by rw [World.cell?_alloc_lt _ _ ⟨w.heap.size, 0, none⟩ (by simp; omega)]; simp)
  have st := R.setE t ⟨w.heap.size + 1 + 1 + 1, 0, none⟩ c old ((((w.alloc (.cells #[.pointer (some t)] 109)).alloc (.cells #[.pointer (some ⟨2, 109, none⟩), .pointer (some ⟨w.heap.size, 0, none⟩), .int .u64 150] 123)).alloc (.cells #[.pointer (some ⟨2, 109, none⟩), .pointer (some ⟨w.heap.size, 0, none⟩), .int .u64 150] 123)).alloc (.cells #[.int .i64 c] 29))
    (by rw [World.cell?_alloc_at _ _ _ _ (by simp)]; rfl)
    (by rw [World.cell?_alloc_lt _ _ t (by simp; omega), World.cell?_alloc_lt _ _ t (by simp; omega), World.cell?_alloc_lt _ _ t (by simp; omega), World.cell?_alloc_lt _ _ t htl]; exact ht0)
    (by rw [World.frozen?_alloc_old _ _ t (by simp; omega), World.frozen?_alloc_old _ _ t (by simp; omega), World.frozen?_alloc_old _ _ t (by simp; omega), World.frozen?_alloc_old _ _ t (Nat.ne_of_lt htl)]; exact hf0)
  have HE := Lib.hid he
  clear hg ht0
  obtain ⟨T, x, rfl⟩ := he.iface (.inr (by simp))
  clear he
  go_enter Tryd.func84, Tryd.ntmps84
  go_wp2
  go_loopg [0] (l.length + 1) (fun k v wr => ∃ l', k = l'.length + 1 ∧ Err w v l' (some c) ∧ wr = (((w.alloc (.cells #[.pointer (some t)] 109)).alloc (.cells #[.pointer (some ⟨2, 109, none⟩), .pointer (some ⟨w.heap.size, 0, none⟩), .int .u64 150] 123)).alloc (.cells #[.pointer (some ⟨2, 109, none⟩), .pointer (some ⟨w.heap.size, 0, none⟩), .int .u64 150] 123)))
  case atStart => exact ⟨l, rfl, HE.out, rfl⟩
  case round =>
    obtain ⟨l', hk, he, rfl⟩ := hrel
    cases l' with
    | nil =>
      have he' : _ = _ := he
      subst he'
      clear he
      go_wp2
      go_ret
      exact ⟨rfl, rfl⟩
    | cons a l' =>
      obtain ⟨b, u, rfl, h1, h2, h3⟩ := he
      have hb := lt_of_cell h1
      have hu : (((w.alloc (.cells #[.pointer (some t)] 109)).alloc (.cells #[.pointer (some ⟨2, 109, none⟩), .pointer (some ⟨w.heap.size, 0, none⟩), .int .u64 150] 123)).alloc (.cells #[.pointer (some ⟨2, 109, none⟩), .pointer (some ⟨w.heap.size, 0, none⟩), .int .u64 150] 123)).cell? ⟨b, 1, none⟩ = some u := by
        rw [World.cell?_alloc_lt _ _ ⟨b, 1, none⟩ (by simp; omega), World.cell?_alloc_lt _ _ ⟨b, 1, none⟩ (by simp; omega), World.cell?_alloc_lt _ _ ⟨b, 1, none⟩ hb]; exact h2
      obtain ⟨T', x', rfl⟩ := h3.iface (.inr (by simp))
      have H3 := Lib.hid h3
      have HK := Lib.hid hk
      clear h1 h2 h3 hk
      go_wp2
      go_roundg (l'.length + 1)
      case measure => have := HK.out; simp at this; omega
      case rel => exact ⟨l', rfl, H3.out, rfl⟩
end Go.Proofs.YtkbjblhompkdkaaDoor

namespace Go.Proofs.YtkbjblhompkdkaaDoor
open Go.RowKit Go.Proofs.YtkbjblhompkdkaaDoorW.PrintWords Go.Proofs.YtkbjblhompkdkaaDoorW.PrintLast Go.Proofs.YtkbjblhompkdkaaDoorW.PrintMore
set_option linter.unusedVariables false
set_option linter.unusedSimpArgs false

theorem three_size (w : World) (T : TypeId) (t : Addr) : (three w T t).heap.size = w.heap.size + 3 := by simp [three]
theorem three_below (w : World) (T : TypeId) (t : Addr) : Below w.heap.size w (three w T t) := below_alloc (below_alloc (below_alloc (Below.refl _ _) _) _) _

/-- A block that is still as it was, and one of its cells set: what errors.As does to its target. -/
theorem set_after {w w1 : World} {n : Nat} {t : TypeId} {x u : Value} (hblk : w.heap[n]? = some (.cells #[x] t (0, 0))) (hb : Below w.heap.size w w1) :
    Below n w (w1.setCell ⟨n, 0, none⟩ u) ∧ KeepBut w (w1.setCell ⟨n, 0, none⟩ u) n none ∧ (w1.setCell ⟨n, 0, none⟩ u).heap[n]? = some (.cells #[u] t (0, 0)) :=
  ⟨(hb.mono (Nat.le_of_lt (blk_lt hblk))).setCell (Nat.le_refl n) u, (KeepBut.of_below hb n none).set_ 0 u, blk_put (blk_below hblk hb) 0 u rfl⟩

theorem as_F (b n : Nat) (x : Value) (w : World) (hg : Laid w) (hblk : w.heap[n]? = some (.cells #[x] 100 (0, 0))) :
    Calls Tryd.prog 84 #[.iface 100 (.pointer (some ⟨b, 0, none⟩)), .iface 110 (.pointer (some ⟨n, 0, none⟩))] w fun e w' =>
      e = .returned (.bool true) ∧ Below n w w' ∧ KeepBut w w' n none ∧ w'.heap[n]? = some (.cells #[.pointer (some ⟨b, 0, none⟩)] 100 (0, 0)) := by
  refine (as_hitF ⟨b, 0, none⟩ ⟨n, 0, none⟩ x w hg (blk_cell hblk 0) (blk_frozen hblk 0)).mono ?_
  rintro e w' ⟨rfl, rfl⟩
  exact ⟨rfl, set_after hblk (below_alloc (three_below _ _ _) _)⟩
theorem as_E (c : Int) (n : Nat) (x : Value) (w : World) (hg : Laid w) (hblk : w.heap[n]? = some (.cells #[x] 100 (0, 0))) :
    Calls Tryd.prog 84 #[.iface 29 (.int .i64 c), .iface 110 (.pointer (some ⟨n, 0, none⟩))] w fun e w' =>
      e = .returned (.bool false) ∧ Below w.heap.size w w' := by
  refine (as_missE c ⟨n, 0, none⟩ x w hg (blk_cell hblk 0)).mono ?_
  rintro e w' ⟨rfl, rfl⟩
  exact ⟨rfl, three_below _ _ _⟩
theorem as_C (c : Int) (l : List Int) (v : Value) (n : Nat) (x : Value) (w : World) (hg : Laid w) (he : Err w v l (some c)) (hblk : w.heap[n]? = some (.cells #[x] 29 (0, 0))) :
    Calls Tryd.prog 84 #[v, .iface 109 (.pointer (some ⟨n, 0, none⟩))] w fun e w' =>
      e = .returned (.bool true) ∧ Below n w w' ∧ KeepBut w w' n none ∧ w'.heap[n]? = some (.cells #[.int .i64 c] 29 (0, 0)) := by
  refine (as_code c l v ⟨n, 0, none⟩ x w hg he (blk_cell hblk 0) (blk_frozen hblk 0)).mono ?_
  rintro e w' ⟨rfl, rfl⟩
  exact ⟨rfl, set_after hblk (below_alloc (three_below _ _ _) _)⟩

theorem new_nil (a : Int) (w : World) : Calls Tryd.prog 44 #[.int .i64 0, .int .i64 a] w fun e w' => e = .returned .nilIface ∧ w' = w := by
  go_enter Tryd.func44, Tryd.ntmps44
  go_wp2
  go_ret
  exact ⟨rfl, rfl⟩
theorem new_calls (c a : Int) (w : World) (hc : c ≠ 0) : Calls Tryd.prog 44 #[.int .i64 c, .int .i64 a] w fun e w' => ∃ v, e = .returned v ∧ Err w' v [a] (some c) ∧ Below w.heap.size w w' := by
  go_enter Tryd.func44, Tryd.ntmps44
  go_wp2
  go_ret
  exact ⟨_, rfl, ⟨_, _, rfl, by simp, by simp, rfl⟩, below_alloc (Below.refl _ _) _⟩
/-- What is told of an error: its code; 0 of none; 19 of faults with no code. -/
def asked (l : List Int) : Option Int → Int
  | some c => c
  | none => if l = [] then 0 else 19
theorem code_nil (w : World) : Calls Tryd.prog 55 #[.nilIface] w fun e w' => e = .returned (.int .i64 0) ∧ w' = w := by
  go_enter Tryd.func55, Tryd.ntmps55
  go_wp2
  go_ret
  exact ⟨rfl, rfl⟩
theorem code_some (c : Int) (l : List Int) (v : Value) (w : World) (hg : Laid w) (he : Err w v l (some c)) : Calls Tryd.prog 55 #[v] w fun e w' => e = .returned (.int .i64 c) ∧ Below w.heap.size w w' := by
  obtain ⟨T, x, rfl⟩ := he.iface (.inr (by simp))
  have HE := Lib.hid he
  have HG := Lib.hid hg
  clear he hg
  go_enter Tryd.func55, Tryd.ntmps55
  go_wp2_with fail
  have hb := below_alloc (Below.refl w.heap.size w) (.cells #[.int .i64 0] 29)
  refine (as_C c l _ w.heap.size (.int .i64 0) _ (HG.out.below hb (Nat.le_refl _)) (HE.out.below hb (Nat.le_refl _)) (blk_new _ _)).mono ?_
  rintro e w' ⟨rfl, hB, hK, hblk⟩
  have hc := blk_cell hblk 0
  simp at hc
  have HB := Lib.hid (Below.trans hb hB)
  clear hb hB hK hblk
  go_wp2
  go_ret
  exact ⟨rfl, HB.out⟩

theorem infoInt : (Tryd.prog.info? 3).map (fun i => (i.zero, i.size, i.bytes)) = some (some (.int .i64 0), 1, 8) := by kernel_rfl
set_option maxHeartbeats 1000000 in
theorem where_calls (l : List Int) (c : Option Int) (v : Value) (w : World) (hg : Laid w) (he : Err w v l c) (hlen : l.length < 17592186044416) :
    Calls Tryd.prog 56 #[v] w fun e w' => ∃ v' : Value, e = .returned v' ∧ Kd.R (Kd.int .i64) 3 w' w.heap.size (fun _ => True) v' l ∧ Below w.heap.size w w' := by
  have HE := Lib.hid he
  have HG := Lib.hid hg
  have HL := Lib.hid hlen
  clear he hg hlen
  go_enter Tryd.func56, Tryd.ntmps56
  go_wp2
  go_loopg [0, 3] (l.length + 1) (fun k v vo wr => ∃ l1 l2 x, l = l1 ++ l2 ∧ k = l2.length + 1 ∧ Err w v l2 c ∧ Kd.R (Kd.int .i64) 3 wr w.heap.size (fun _ => True) vo l1 ∧ Below w.heap.size w wr ∧ wr.heap[w.heap.size]? = some (.cells #[x] 100 (0, 0)))
  case atStart => exact ⟨[], l, .pointer none, rfl, rfl, HE.out, Kd.R_nil _ _ _ _ _, below_alloc (Below.refl _ _) _, blk_new _ _⟩
  case round =>
    obtain ⟨l1, l2, x, hl, hk, he, hR, hB, hblk⟩ := hrel
    cases l2 with
    | nil =>
      cases c with
      | none =>
        have he' : _ = _ := he
        subst he'
        rw [List.append_nil] at hl
        subst hl
        have HR := Lib.hid hR
        have HB := Lib.hid hB
        clear he hk hR hB hblk
        go_wp2
        go_ret
        exact ⟨_, rfl, HR.out, HB.out⟩
      | some c =>
        have he' : _ = _ := he
        subst he'
        rw [List.append_nil] at hl
        subst hl
        have HR := Lib.hid hR
        have HB := Lib.hid hB
        have HBK := Lib.hid hblk
        clear he hk hR hB hblk
        go_wp2_with fail
        refine (as_E c w.heap.size x wr (HG.out.below HB.out (Nat.le_refl _)) HBK.out).mono ?_
        rintro e w1 ⟨rfl, hB1⟩
        have HB1 := Lib.hid hB1
        clear hB1
        go_wp2
        go_ret
        exact ⟨_, rfl, Kd.R_below HR.out HB1.out, Below.trans HB.out (HB1.out.mono HB.out.size)⟩
    | cons a l2 =>
      obtain ⟨b, u, rfl, h1, h2, h3⟩ := he
      have hlt := lt_of_cell h1
      have HR := Lib.hid hR
      have HB := Lib.hid hB
      have HBK := Lib.hid hblk
      have HK := Lib.hid hk
      have H1 := Lib.hid h1
      have H2 := Lib.hid h2
      have H3 := Lib.hid h3
      have HA := Lib.hid hl
      have HLT := Lib.hid hlt
      clear hk hR hB hblk h1 h2 h3 hl hlt
      go_wp2_with fail
      refine (as_F b w.heap.size x wr (HG.out.below HB.out (Nat.le_refl _)) HBK.out).mono ?_
      rintro e w1 ⟨rfl, hB1, hK1, hblk1⟩
      have HB1 := Lib.hid (Below.trans HB.out hB1)
      have hRn := Kd.R_types HR.out HBK.out (by decide)
      have hR1 := Kd.R_keep hRn hK1 (fun k hk => hk.2)
      have HNE := Lib.hid (Kd.R_away hR1 (fun k hk => hk.2))
      have HR1 := Lib.hid (Kd.R_mono hR1 (fun k hk => hk.1))
      have hc0 : w1.cell? ⟨w.heap.size, 0, none⟩ = some (.pointer (some ⟨b, 0, none⟩)) := (blk_cell hblk1 0).trans (by simp)
      have hca : w1.cell? ⟨b, 0, none⟩ = some (.int .i64 a) := (HB1.out.cell HLT.out).trans H1.out
      have HBK1 := Lib.hid hblk1
      have HS1 := Lib.hid (blk_lt hblk1)
      clear hRn hR1 hB1 hK1 hblk1
      have hll : l1.length < 17592186044416 := by have h1 := HL.out; have h2 := HA.out; rw [h2, List.length_append] at h1; omega
      have HLL := Lib.hid hll
      clear hll
      go_wp2_with (first | ((with_reducible refine gate_builtin (b := .append) (xs := #[.tmp 16, .tmp 21]) rfl ?_); at_builtin; refine Kd.R_append (Kd.int .i64) (w0 := w) w.heap.size rfl (.tmp 16) (.tmp 21) 77 3 (.int .i64 0) 8 rfl Tryd.underlying77 infoInt rfl (by decide) (by omega) u3 l1 a [.int .i64 a] (fun _ => True) (fun _ => False) rfl rfl ?aP (fun _ hk => hk.elim) ?aF ?aO ?aB ?aS ?aL ?_; (case aP => exact rfl); (case aB => exact HB1.out); (case aF => exact (fun _ _ => trivial)); (case aO => exact HR1.out); (case aS => exact Nat.le_of_lt HS1.out); (case aL => have := HLL.out; omega); intro v111 w9 ho hb hg hat; have HO := Lib.hid ho; have HB9 := Lib.hid hb; have hbk9 := blk_grown HBK1.out hg HNE.out; have hc9 := blk_cell hbk9 0; simp only [List.getElem?_toArray, List.getElem?_cons_zero] at hc9; have hc9u := (HB9.out.cell HLT.out).trans H2.out; have HBK9 := Lib.hid hbk9; clear hat hg ho hb hbk9))
      go_roundg (l2.length + 1)
      case measure => have := HK.out; simp at this; omega
      case rel => exact ⟨l1 ++ [a], l2, _, by rw [HA.out]; simp, rfl, H3.out, HO.out, HB9.out, HBK9.out⟩

theorem last_nil (w : World) (hg : Laid w) : Calls Tryd.prog 22 #[.nilIface] w fun e w' => e = .returned (.tuple #[.int .i64 0, .bool false]) ∧ Below w.heap.size w w' := by
  have HG := Lib.hid hg
  clear hg
  go_enter Tryd.func22, Tryd.ntmps22
  go_wp2_with fail
  refine (where_calls [] none .nilIface w HG.out rfl (by decide)).mono ?_
  rintro e w' ⟨v', rfl, hR, hB⟩
  obtain ⟨A, c, rfl, hc, hC⟩ := Kd.R_reads hR
  have HB := Lib.hid hB
  clear hR hC hB
  go_wp2
  go_ret2
  exact ⟨rfl, HB.out⟩
theorem last_calls (a : Int) (l : List Int) (c : Option Int) (v : Value) (w : World) (hg : Laid w) (he : Err w v (l ++ [a]) c) (hlen : l.length < 17592186044415) : Calls Tryd.prog 22 #[v] w fun e w' => e = .returned (.tuple #[.int .i64 a, .bool true]) ∧ Below w.heap.size w w' := by
  have HG := Lib.hid hg
  have HE := Lib.hid he
  have HL := Lib.hid hlen
  clear hg he hlen
  go_enter Tryd.func22, Tryd.ntmps22
  go_wp2_with fail
  refine (where_calls (l ++ [a]) c v w HG.out HE.out (by have := HL.out; simp; omega)).mono ?_
  rintro e w' ⟨v', rfl, hR, hB⟩
  obtain ⟨A, cc, rfl, hc, hC⟩ := Kd.R_reads hR
  have hlen := HL.out
  have e1 : (((l ++ [a]).length : Nat) : Int) = (l.length : Int) + 1 := by simp
  obtain ⟨ad, rfl, hx⟩ := Kd.at_int hC (l.length : Int) (by omega) (by omega)
  have e2 : rd (l ++ [a]) (l.length : Int) = a := by simp [rd]
  rw [e2, Int.toNat_natCast] at hx
  have e3 : (l ++ [a]).length = l.length + 1 := by simp
  rw [e3] at hc
  rw [e3]
  have HB := Lib.hid hB
  clear hR hC hB e1 e2 e3
  go_wp2
  go_ret2
  exact ⟨rfl, HB.out⟩

theorem at_nil (a : Int) (w : World) : Calls Tryd.prog 18 #[.nilIface, .int .i64 a, .int .i64 0] w fun e w' => e = .returned (.bool true) ∧ w' = w := by
  go_enter Tryd.func18, Tryd.ntmps18
  go_wp2
  go_ret
  exact ⟨rfl, rfl⟩
theorem at_calls (a c : Int) (v : Value) (w : World) (hg : Laid w) (he : Err w v [a] (some c)) (h0 : c ≠ 0) : Calls Tryd.prog 18 #[v, .int .i64 a, .int .i64 c] w fun e w' => e = .returned (.bool true) ∧ Below w.heap.size w w' := by
  obtain ⟨T, x, rfl⟩ := he.iface (.inl (by simp))
  have h1 : (c == 0) = false := beq_eq_false_iff_ne.2 h0
  have HE := Lib.hid he
  have HG := Lib.hid hg
  clear he hg h0
  go_enter Tryd.func18, Tryd.ntmps18
  go_wp2_with fail
  refine (last_calls a [] (some c) _ _ HG.out HE.out (by simp)).mono ?_
  rintro e w1 ⟨rfl, hb1⟩
  have HE1 := Lib.hid (HE.out.below hb1 (Nat.le_refl _))
  have HG1 := Lib.hid (HG.out.below hb1 (Nat.le_refl _))
  have HB1 := Lib.hid hb1
  clear hb1
  go_wp2_with fail
  refine (code_some c [a] _ _ HG1.out HE1.out).mono ?_
  rintro e w2 ⟨rfl, hb2⟩
  have HB2 := Lib.hid (below_then HB1.out HB1.out.size hb2)
  clear hb2
  go_wp2
  go_ret
  exact ⟨rfl, HB2.out⟩
end Go.Proofs.YtkbjblhompkdkaaDoor
