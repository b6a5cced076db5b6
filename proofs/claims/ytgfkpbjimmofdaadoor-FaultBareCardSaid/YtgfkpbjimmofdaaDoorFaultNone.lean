/- errors.As and errors.Is on a chain of faults under which no code lies; fault.Code and fault.Has there; Unwrap of a Fault that is nil. -/
import Derived.Test.YtgfkpbjimmofdaaDoorFaultIs
namespace Go.Proofs.YtgfkpbjimmofdaaDoor
open Go.RowKit Go.Extern.Stop Go.Stop Go.Extern Go.Proofs.YtgfkpbjimmofdaaDoorW.PrintWords
set_option linter.unusedVariables false
set_option linter.unusedSimpArgs false

set_option maxHeartbeats 4000000 in
theorem as_bare (l : List Int) (hl : l ≠ []) (v : Value) (t : Addr) (old : Value) (w : World) (hg : Laid w) (he : Err w v l none) (ht0 : w.cell? t = some old) :
    Calls Tryd.prog 21 #[v, .iface 54 (.pointer (some t))] w fun ev w' => ev = .returned (.bool false) ∧ w' = three w 54 t := by
  unfold three
  have h6 := @run_callFunc_extern Tryd.prog 29 _ (fun args => ReflectliteValue.unpack (args.getD 0 (.tuple #[]))) Tryd.func29 (by kernel_rfl) (by kernel_rfl) (by kernel_rfl) (by kernel_rfl)
  have h7 := @run_callFunc_extern Tryd.prog 30 _ (ReflectliteValue.methodAny (ReflectliteValue.valueError "reflectlite.Value.Type" 0) (fun t _ _ _ => ReflectliteType.toType t)) Tryd.func30 (by kernel_rfl) (by kernel_rfl) (by kernel_rfl) (by kernel_rfl)
  have h8 := @run_callFunc_extern Tryd.prog 31 _ (ReflectliteValue.method (ReflectliteValue.valueError "reflectlite.Value.IsNil" 0) ReflectliteValue.isNil) Tryd.func31 (by kernel_rfl) (by kernel_rfl) (by kernel_rfl) (by kernel_rfl)
  have h27 := @run_callFunc_extern Tryd.prog 52 _ (ReflectliteType.abiMethod fun t => do pure (.int .u8 (← Rtype.kind t))) Tryd.func52 (by kernel_rfl) (by kernel_rfl) (by kernel_rfl) (by kernel_rfl)
  have h37 := @run_callFunc_extern Tryd.prog 62 _ (ReflectliteType.method ReflectliteType.elem) Tryd.func62 (by kernel_rfl) (by kernel_rfl) (by kernel_rfl) (by kernel_rfl)
  have h38 := @run_callFunc_extern Tryd.prog 63 _ (ReflectliteType.relation "Implements" ReflectliteType.implements_) Tryd.func63 (by kernel_rfl) (by kernel_rfl) (by kernel_rfl) (by kernel_rfl)
  have h10 := @run_callFunc_extern Tryd.prog 33 _ ReflectliteType.typeOf Tryd.func33 (by kernel_rfl) (by kernel_rfl) (by kernel_rfl) (by kernel_rfl)
  have h35 := @run_callFunc_extern Tryd.prog 60 _ (ReflectliteType.relation "AssignableTo" ReflectliteType.assignableTo) Tryd.func60 (by kernel_rfl) (by kernel_rfl) (by kernel_rfl) (by kernel_rfl)
  have tF := R.typeOfF
  have mA := R.methodAssignableTo
  have aF := R.assignableFE
  have f6 := R.valueOfPE
  have f7 := R.typePE
  have mK := R.methodKind
  have mE := R.methodElem
  have mI := R.methodImplements
  have mU := R.methodUnwrap
  have nA := R.noAsF
  have hU := R.hasUnwrapF
  have k27 := R.kindPE
  have k25 := R.kindE
  have e27 := R.elemPE
  have i25 := R.implementsE
  have n8 := R.isNilPE ⟨w.heap.size, 0, none⟩ t ((w.alloc (.cells #[.pointer (some t)] 54)).alloc (.cells #[.pointer (some ⟨1, 54, none⟩), .pointer (some ⟨w.heap.size, 0, none⟩), .int .u64 150] 59)) (by simp)
  have hlt := lt_of_cell hg
  have hg2 : ((w.alloc (.cells #[.pointer (some t)] 54)).alloc (.cells #[.pointer (some ⟨1, 54, none⟩), .pointer (some ⟨w.heap.size, 0, none⟩), .int .u64 150] 59)).cell? ⟨0, 0, none⟩ = some (.iface 75 (.agg #[.pointer (some ⟨1, 26, none⟩)])) := by
    rw [World.cell?_alloc_lt _ _ ⟨0, 0, none⟩ (by first | (simp; done) | (simp; omega)), World.cell?_alloc_lt _ _ ⟨0, 0, none⟩ hlt]; exact hg
  have HE := Lib.hid he
  clear hg ht0
  obtain ⟨T, x, rfl⟩ := he.iface (.inl hl)
  clear he
  go_enter Tryd.func21, Tryd.ntmps21
  go_wp2
  go_loopg [0] (l.length + 1) (fun k v wr => ∃ l', l' ≠ [] ∧ k = l'.length + 1 ∧ Err w v l' none ∧ wr = (((w.alloc (.cells #[.pointer (some t)] 54)).alloc (.cells #[.pointer (some ⟨1, 54, none⟩), .pointer (some ⟨w.heap.size, 0, none⟩), .int .u64 150] 59)).alloc (.cells #[.pointer (some ⟨1, 54, none⟩), .pointer (some ⟨w.heap.size, 0, none⟩), .int .u64 150] 59)))
  case atStart => exact ⟨l, hl, rfl, HE.out, rfl⟩
  case round =>
    obtain ⟨l', hl', hk, he, rfl⟩ := hrel
    cases l' with
    | nil => exact absurd rfl hl'
    | cons a l' =>
      obtain ⟨b, u, rfl, h1, h2, h3⟩ := he
      have hb := lt_of_cell h1
      have hu : (((w.alloc (.cells #[.pointer (some t)] 54)).alloc (.cells #[.pointer (some ⟨1, 54, none⟩), .pointer (some ⟨w.heap.size, 0, none⟩), .int .u64 150] 59)).alloc (.cells #[.pointer (some ⟨1, 54, none⟩), .pointer (some ⟨w.heap.size, 0, none⟩), .int .u64 150] 59)).cell? ⟨b, 1, none⟩ = some u := by
        rw [World.cell?_alloc_lt _ _ ⟨b, 1, none⟩ (by simp; omega), World.cell?_alloc_lt _ _ ⟨b, 1, none⟩ (by simp; omega), World.cell?_alloc_lt _ _ ⟨b, 1, none⟩ hb]; exact h2
      cases l' with
      | nil =>
        have h3' : u = .nilIface := h3
        subst h3'
        clear h1 h2 h3 hk hl'
        go_wp2
        go_ret
        exact ⟨rfl, rfl⟩
      | cons a2 l2 =>
        obtain ⟨T', x', rfl⟩ := h3.iface (.inl (by simp))
        have H3 := Lib.hid h3
        have HK := Lib.hid hk
        clear h1 h2 h3 hk hl'
        go_wp2
        go_roundg ((a2 :: l2).length + 1)
        case measure => have := HK.out; simp at this ⊢; omega
        case rel => exact ⟨a2 :: l2, by simp, rfl, H3.out, rfl⟩

set_option maxHeartbeats 4000000 in
theorem is_bare (d : Int) (l : List Int) (hl : l ≠ []) (v : Value) (w : World) (he : Err w v l none) :
    Calls Tryd.prog 25 #[v, .iface 22 (.int .i64 d)] w fun ev w' => ev = .returned (.bool false) ∧ w' = w := by
  have h10 := @run_callFunc_extern Tryd.prog 33 _ ReflectliteType.typeOf Tryd.func33 (by kernel_rfl) (by kernel_rfl) (by kernel_rfl) (by kernel_rfl)
  have h32 := @run_callFunc_extern Tryd.prog 61 _ (Extern.ReflectliteType.method fun t => do Rtype.noPackHeld "Comparable" t; pure (.bool (← typeInfo t).comparable)) Tryd.func61 (by kernel_rfl) (by kernel_rfl) (by kernel_rfl) (by kernel_rfl)
  have tE := R.typeOfE
  have cE := R.comparableE
  have mC := R.methodComparable
  have nF := R.noIsF
  have mU := R.methodUnwrap
  have hU := R.hasUnwrapF
  have hty := fun (x : Value) (W : World) => run_eql_iface_types (P := Tryd.prog) 42 22 x (.int .i64 d) Tryd.underlying26 (by decide) W
  have HE := Lib.hid he
  obtain ⟨T, x, rfl⟩ := he.iface (.inl hl)
  clear he
  go_enter Tryd.func25, Tryd.ntmps25
  go_wp2
  go_loopg [0] (l.length + 1) (fun k v wr => ∃ l', l' ≠ [] ∧ k = l'.length + 1 ∧ Err w v l' none ∧ wr = w)
  case atStart => exact ⟨l, hl, rfl, HE.out, rfl⟩
  case round =>
    obtain ⟨l', hl', hk, he, rfl⟩ := hrel
    cases l' with
    | nil => exact absurd rfl hl'
    | cons a l' =>
      obtain ⟨b, u, rfl, h1, h2, h3⟩ := he
      cases l' with
      | nil =>
        have h3' : u = .nilIface := h3
        subst h3'
        clear h1 h3 hk hl'
        go_wp2
        go_ret
        exact ⟨rfl, rfl⟩
      | cons a2 l2 =>
        obtain ⟨T', x', rfl⟩ := h3.iface (.inl (by simp))
        have H3 := Lib.hid h3
        have HK := Lib.hid hk
        clear h1 h3 hk hl'
        go_wp2
        go_roundg ((a2 :: l2).length + 1)
        case measure => have := HK.out; simp at this ⊢; omega
        case rel => exact ⟨a2 :: l2, by simp, rfl, H3.out, rfl⟩


theorem has_bare (d : Int) (l : List Int) (hl : l ≠ []) (v : Value) (w : World) (he : Err w v l none) : Calls Tryd.prog 26 #[v, .int .i64 d] w fun e w' => e = .returned (.bool false) ∧ w' = w := by
  have HE := Lib.hid he
  obtain ⟨T, x, rfl⟩ := he.iface (.inl hl)
  clear he
  go_enter Tryd.func26, Tryd.ntmps26
  go_wp2_with fail
  refine (is_bare d l hl _ w HE.out).mono ?_
  rintro e w' ⟨rfl, rfl⟩
  go_wp2
  go_ret
  exact ⟨rfl, rfl⟩
theorem code_bare (l : List Int) (hl : l ≠ []) (v : Value) (w : World) (hg : Laid w) (he : Err w v l none) : Calls Tryd.prog 13 #[v] w fun e w' => e = .returned (.int .i64 19) ∧ Below w.heap.size w w' := by
  obtain ⟨T, x, rfl⟩ := he.iface (.inl hl)
  have HE := Lib.hid he
  have HG := Lib.hid hg
  clear he hg
  go_enter Tryd.func13, Tryd.ntmps13
  go_wp2_with fail
  have hb := below_alloc (Below.refl w.heap.size w) (.cells #[.int .i64 0] 22)
  refine (as_bare l hl _ ⟨w.heap.size, 0, none⟩ (.int .i64 0) _ (HG.out.below hb (Nat.le_refl _)) (HE.out.below hb (Nat.le_refl _)) (by simp)).mono ?_
  rintro e w' ⟨rfl, rfl⟩
  have HB := Lib.hid (below_then hb hb.size (three_below (w.alloc (.cells #[.int .i64 0] 22)) 54 ⟨w.heap.size, 0, none⟩))
  clear hb
  generalize three _ _ _ = w1 at *
  go_wp2
  go_ret
  exact ⟨rfl, HB.out⟩
theorem unwrap_none (w : World) : Calls Tryd.prog 22 #[.pointer none] w fun e w' => e = .returned .nilIface ∧ w' = w := by
  go_enter Tryd.func22, Tryd.ntmps22
  go_wp2
  go_ret
  exact ⟨rfl, rfl⟩
end Go.Proofs.YtgfkpbjimmofdaaDoor
