/- errors.As with a *Errno as its target, on a chain of faults: the code under them, or none. -/
import Derived.Test.YtgfkpbjimmofdaaDoorFaultAsW
namespace Go.Proofs.YtgfkpbjimmofdaaDoor
open Go.RowKit Go.Extern.Stop Go.Stop Go.Extern
set_option linter.unusedVariables false
set_option linter.unusedSimpArgs false

theorem Err.iface {w : World} {v : Value} {l : List Int} {c : Option Int} (h : Err w v l c) (hn : l ≠ [] ∨ c ≠ none) : ∃ T x, v = .iface T x := by
  cases l with
  | nil =>
    cases c with
    | none => simp at hn
    | some c => exact ⟨_, _, h⟩
  | cons a l =>
    obtain ⟨b, u, rfl, _⟩ := h
    exact ⟨_, _, rfl⟩

set_option maxHeartbeats 4000000 in
theorem as_code (c : Int) (l : List Int) (v : Value) (t : Addr) (old : Value) (w : World) (hg : Laid w) (he : Err w v l (some c)) (ht0 : w.cell? t = some old) (hf0 : w.frozen? t = false) :
    Calls Tryd.prog 21 #[v, .iface 54 (.pointer (some t))] w fun ev w' => ev = .returned (.bool true) ∧ w' = ((three w 54 t).alloc (.cells #[.int .i64 c] 22)).setCell t (.int .i64 c) := by
  unfold three
  have h6 := @run_callFunc_extern Tryd.prog 29 _ (fun args => ReflectliteValue.unpack (args.getD 0 (.tuple #[]))) Tryd.func29 (by kernel_rfl) (by kernel_rfl) (by kernel_rfl) (by kernel_rfl)
  have h7 := @run_callFunc_extern Tryd.prog 30 _ (ReflectliteValue.methodAny (ReflectliteValue.valueError "reflectlite.Value.Type" 0) (fun t _ _ _ => ReflectliteType.toType t)) Tryd.func30 (by kernel_rfl) (by kernel_rfl) (by kernel_rfl) (by kernel_rfl)
  have h8 := @run_callFunc_extern Tryd.prog 31 _ (ReflectliteValue.method (ReflectliteValue.valueError "reflectlite.Value.IsNil" 0) ReflectliteValue.isNil) Tryd.func31 (by kernel_rfl) (by kernel_rfl) (by kernel_rfl) (by kernel_rfl)
  have h27 := @run_callFunc_extern Tryd.prog 52 _ (ReflectliteType.abiMethod fun t => do pure (.int .u8 (← Rtype.kind t))) Tryd.func52 (by kernel_rfl) (by kernel_rfl) (by kernel_rfl) (by kernel_rfl)
  have h37 := @run_callFunc_extern Tryd.prog 62 _ (ReflectliteType.method ReflectliteType.elem) Tryd.func62 (by kernel_rfl) (by kernel_rfl) (by kernel_rfl) (by kernel_rfl)
  have h38 := @run_callFunc_extern Tryd.prog 63 _ (ReflectliteType.relation "Implements" ReflectliteType.implements_) Tryd.func63 (by kernel_rfl) (by kernel_rfl) (by kernel_rfl) (by kernel_rfl)
  have h10 := @run_callFunc_extern Tryd.prog 33 _ ReflectliteType.typeOf Tryd.func33 (by kernel_rfl) (by kernel_rfl) (by kernel_rfl) (by kernel_rfl)
  have h35 := @run_callFunc_extern Tryd.prog 60 _ (ReflectliteType.relation "AssignableTo" ReflectliteType.assignableTo) Tryd.func60 (by kernel_rfl) (by kernel_rfl) (by kernel_rfl) (by kernel_rfl)
  have h11 := @run_callFunc_extern Tryd.prog 36 _ (ReflectliteValue.method (ReflectliteValue.valueError "reflectlite.Value.Elem" 0) ReflectliteValue.elem) Tryd.func36 (by kernel_rfl) (by kernel_rfl) (by kernel_rfl) (by kernel_rfl)
  have h12 := @run_callFunc_extern Tryd.prog 37 _ ReflectliteValue.set Tryd.func37 (by kernel_rfl) (by kernel_rfl) (by kernel_rfl) (by kernel_rfl)
  have tO := R.typeOfE
  have tF := R.typeOfF
  have mA := R.methodAssignableTo
  have aE := R.assignableEE
  have aF := R.assignableFE
  have v25 := R.valueOfE
  have f6 := R.valueOfPE
  have f7 := R.typePE
  have mK := R.methodKind
  have mE := R.methodElem
  have mI := R.methodImplements
  have mU := R.methodUnwrap
  have nA := R.noAsF
  have hU := R.hasUnwrapF
  have k27 := R.kindPE
  have k25 := R.kindE
  have e27 := R.elemPE
  have i25 := R.implementsE
  have n8 := R.isNilPE ⟨w.heap.size, 0, none⟩ t ((w.alloc (.cells #[.pointer (some t)] 54)).alloc (.cells #[.pointer (some ⟨1, 54, none⟩), .pointer (some ⟨w.heap.size, 0, none⟩), .int .u64 150] 59)) (by simp)
  have hlt := lt_of_cell hg
  have hg2 : ((w.alloc (.cells #[.pointer (some t)] 54)).alloc (.cells #[.pointer (some ⟨1, 54, none⟩), .pointer (some ⟨w.heap.size, 0, none⟩), .int .u64 150] 59)).cell? ⟨0, 0, none⟩ = some (.iface 75 (.agg #[.pointer (some ⟨1, 26, none⟩)])) := by
    rw [World.cell?_alloc_lt _ _ ⟨0, 0, none⟩ (by first | (simp; done) | (simp; omega)), World.cell?_alloc_lt _ _ ⟨0, 0, none⟩ hlt]; exact hg
  have htl : t.block < w.heap.size := by
    rcases Nat.lt_or_ge t.block w.heap.size with h | h
    · exact h
    · simp [World.cell?, Array.getElem?_eq_none h] at ht0
  have el := R.elemVPE ⟨w.heap.size, 0, none⟩ t (((w.alloc (.cells #[.pointer (some t)] 54)).alloc (.cells #[.pointer (some ⟨1, 54, none⟩), .pointer (some ⟨w.heap.size, 0, none⟩), .int .u64 150] 59)).alloc (.cells #[.pointer (some ⟨1, 54, none⟩), .pointer (some ⟨w.heap.size, 0, none⟩), .int .u64 150] 59)) (by rw [World.cell?_alloc_lt _ _ ⟨w.heap.size, 0, none⟩ (by simp; omega)]; simp)
  have st := R.setE t ⟨w.heap.size + 1 + 1 + 1, 0, none⟩ c old ((((w.alloc (.cells #[.pointer (some t)] 54)).alloc (.cells #[.pointer (some ⟨1, 54, none⟩), .pointer (some ⟨w.heap.size, 0, none⟩), .int .u64 150] 59)).alloc (.cells #[.pointer (some ⟨1, 54, none⟩), .pointer (some ⟨w.heap.size, 0, none⟩), .int .u64 150] 59)).alloc (.cells #[.int .i64 c] 22))
    (by rw [World.cell?_alloc_at _ _ _ _ (by simp)]; rfl)
    (by rw [World.cell?_alloc_lt _ _ t (by simp; omega), World.cell?_alloc_lt _ _ t (by simp; omega), World.cell?_alloc_lt _ _ t (by simp; omega), World.cell?_alloc_lt _ _ t htl]; exact ht0)
    (by rw [World.frozen?_alloc_old _ _ t (by simp; omega), World.frozen?_alloc_old _ _ t (by simp; omega), World.frozen?_alloc_old _ _ t (by simp; omega), World.frozen?_alloc_old _ _ t (Nat.ne_of_lt htl)]; exact hf0)
  have HE := Lib.hid he
  clear hg ht0
  obtain ⟨T, x, rfl⟩ := he.iface (.inr (by simp))
  clear he
  go_enter Tryd.func21, Tryd.ntmps21
  go_wp2
  go_loopg [0] (l.length + 1) (fun k v wr => ∃ l', k = l'.length + 1 ∧ Err w v l' (some c) ∧ wr = (((w.alloc (.cells #[.pointer (some t)] 54)).alloc (.cells #[.pointer (some ⟨1, 54, none⟩), .pointer (some ⟨w.heap.size, 0, none⟩), .int .u64 150] 59)).alloc (.cells #[.pointer (some ⟨1, 54, none⟩), .pointer (some ⟨w.heap.size, 0, none⟩), .int .u64 150] 59)))
  case atStart => exact ⟨l, rfl, HE.out, rfl⟩
  case round =>
    obtain ⟨l', hk, he, rfl⟩ := hrel
    cases l' with
    | nil =>
      have he' : _ = _ := he
      subst he'
      clear he
      go_wp2
      go_ret
      exact ⟨rfl, rfl⟩
    | cons a l' =>
      obtain ⟨b, u, rfl, h1, h2, h3⟩ := he
      have hb := lt_of_cell h1
      have hu : (((w.alloc (.cells #[.pointer (some t)] 54)).alloc (.cells #[.pointer (some ⟨1, 54, none⟩), .pointer (some ⟨w.heap.size, 0, none⟩), .int .u64 150] 59)).alloc (.cells #[.pointer (some ⟨1, 54, none⟩), .pointer (some ⟨w.heap.size, 0, none⟩), .int .u64 150] 59)).cell? ⟨b, 1, none⟩ = some u := by
        rw [World.cell?_alloc_lt _ _ ⟨b, 1, none⟩ (by simp; omega), World.cell?_alloc_lt _ _ ⟨b, 1, none⟩ (by simp; omega), World.cell?_alloc_lt _ _ ⟨b, 1, none⟩ hb]; exact h2
      obtain ⟨T', x', rfl⟩ := h3.iface (.inr (by simp))
      have H3 := Lib.hid h3
      have HK := Lib.hid hk
      clear h1 h2 h3 hk
      go_wp2
      go_roundg (l'.length + 1)
      case measure => have := HK.out; simp at this; omega
      case rel => exact ⟨l', rfl, H3.out, rfl⟩
end Go.Proofs.YtgfkpbjimmofdaaDoor
