/- errors.Is with an Errno as its target, on a chain of faults; and fault.Has. -/
import Derived.Test.YtgfkpbjimmofdaaDoorFaultW
import Derived.Lib.IfaceEq
namespace Go.Proofs.YtgfkpbjimmofdaaDoor
open Go.RowKit Go.Extern.Stop Go.Stop Go.Extern
set_option linter.unusedVariables false
set_option linter.unusedSimpArgs false

theorem R.comparableE (w : World) : ((Extern.ReflectliteType.method fun t => do Rtype.noPackHeld "Comparable" t; (fun a => Value.bool a.comparable) <$> typeInfo t) #[.agg #[.pointer (some ⟨1, 22, none⟩)]]).run Tryd.prog w = .ok (.bool true) w := by kernel_rfl
theorem R.methodComparable (h : Value) (w : World) : (Go.method 218 75 (.agg #[h]) "Comparable").run Tryd.prog w = .ok (61, .agg #[h]) w := by kernel_rfl
theorem R.noIsF (v : Value) (xT : TypeId) (w : World) : (Instr.typeAssert (.iface 42 v) xT 86 true).run Tryd.prog w = .ok (.tuple #[.nilIface, .bool false]) w := run_typeAssert_lacksB Tryd.underlying86 (by kernel_rfl) (by kernel_rfl) v xT w
theorem R.noIsE (v : Value) (xT : TypeId) (w : World) : (Instr.typeAssert (.iface 22 v) xT 86 true).run Tryd.prog w = .ok (.tuple #[.nilIface, .bool false]) w := run_typeAssert_lacksB Tryd.underlying86 (by kernel_rfl) (by kernel_rfl) v xT w
theorem R.compE : (Tryd.prog.info? 22).map (·.comparable) = some true := by kernel_rfl

set_option maxHeartbeats 4000000 in
theorem is_calls (c d : Int) (l : List Int) (v : Value) (w : World) (he : Err w v l (some c)) :
    Calls Tryd.prog 25 #[v, .iface 22 (.int .i64 d)] w fun ev w' => ev = .returned (.bool (c == d)) ∧ w' = w := by
  have h10 := @run_callFunc_extern Tryd.prog 33 _ ReflectliteType.typeOf Tryd.func33 (by kernel_rfl) (by kernel_rfl) (by kernel_rfl) (by kernel_rfl)
  have h32 := @run_callFunc_extern Tryd.prog 61 _ (Extern.ReflectliteType.method fun t => do Rtype.noPackHeld "Comparable" t; pure (.bool (← typeInfo t).comparable)) Tryd.func61 (by kernel_rfl) (by kernel_rfl) (by kernel_rfl) (by kernel_rfl)
  have tE := R.typeOfE
  have cE := R.comparableE
  have mC := R.methodComparable
  have nF := R.noIsF
  have nE := R.noIsE
  have mU := R.methodUnwrap
  have hU := R.hasUnwrapF
  have nU := R.noUnwrapE
  have nV := R.noUnwrapsE
  have hty := fun (x : Value) (W : World) => run_eql_iface_types (P := Tryd.prog) 42 22 x (.int .i64 d) Tryd.underlying26 (by decide) W
  have hEE := fun (W : World) => Lib.run_eql_iface_int (P := Tryd.prog) W c d (t := 26) (tx := 22) (k := .i64) (q := .i64) Tryd.underlying26 R.compE Tryd.underlying22
  have HE := Lib.hid he
  obtain ⟨T, x, rfl⟩ := he.iface (.inr (by simp))
  clear he
  go_enter Tryd.func25, Tryd.ntmps25
  go_wp2
  go_loopg [0] (l.length + 1) (fun k v wr => ∃ l', k = l'.length + 1 ∧ Err w v l' (some c) ∧ wr = w)
  case atStart => exact ⟨l, rfl, HE.out, rfl⟩
  case round =>
    obtain ⟨l', hk, he, rfl⟩ := hrel
    cases l' with
    | nil =>
      have he' : _ = _ := he
      subst he'
      clear he
      by_cases hcd : c = d
      · subst hcd
        simp only [beq_self_eq_true] at hEE
        go_wp2
        go_ret
        exact ⟨by simp, rfl⟩
      · have hb : (c == d) = false := beq_eq_false_iff_ne.2 hcd
        rw [hb] at hEE
        go_wp2
        go_ret
        exact ⟨by rw [hb]; rfl, rfl⟩
    | cons a l' =>
      obtain ⟨b, u, rfl, h1, h2, h3⟩ := he
      obtain ⟨T', x', rfl⟩ := h3.iface (.inr (by simp))
      have H3 := Lib.hid h3
      have HK := Lib.hid hk
      clear h1 h3 hk
      go_wp2
      go_roundg (l'.length + 1)
      case measure => have := HK.out; simp at this; omega
      case rel => exact ⟨l', rfl, H3.out, rfl⟩

theorem has_nil (d : Int) (w : World) : Calls Tryd.prog 26 #[.nilIface, .int .i64 d] w fun e w' => e = .returned (.bool false) ∧ w' = w := by
  go_enter Tryd.func26, Tryd.ntmps26
  go_wp2
  go_ret
  exact ⟨rfl, rfl⟩
theorem has_calls (c d : Int) (l : List Int) (v : Value) (w : World) (he : Err w v l (some c)) : Calls Tryd.prog 26 #[v, .int .i64 d] w fun e w' => e = .returned (.bool (c == d)) ∧ w' = w := by
  have HE := Lib.hid he
  obtain ⟨T, x, rfl⟩ := he.iface (.inr (by simp))
  clear he
  go_enter Tryd.func26, Tryd.ntmps26
  go_wp2_with fail
  refine (is_calls c d l _ w HE.out).mono ?_
  rintro e w' ⟨rfl, rfl⟩
  go_wp2
  go_ret
  exact ⟨rfl, rfl⟩
end Go.Proofs.YtgfkpbjimmofdaaDoor
