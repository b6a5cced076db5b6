/- YtkbjblhompkdkaaDoorRouteToldQ0: Mine, LexErr, Given, PAx0, PAx2 -/
import Derived.Test.YtkbjblhompkdkaaDoorWWords
import Derived.Test.YtkbjblhompkdkaaDoorProg
import Derived.WalkKit
import Derived.LaidEql
import Derived.Stop.Asserts
import Derived.RowKitTokens
import Derived.Deep.LoopGhost
import Derived.Below
import Derived.Lib.Hide
import Derived.Test.YtkbjblhompkdkaaDoorWLast
import Derived.KernelRfl
import Derived.RowKit3
import Derived.Laws.BytesArg
import Derived.Deep.Draws
import Derived.Deep.AppendLies
import Derived.Maps.AppendAt
import Derived.OwnWalk
import Derived.Laws.MakeOwn
import Derived.Laws.OwnMore
import Derived.Deep.OwnRows
import Derived.Tactics
import Derived.Lib.ConvBytes
import Derived.Laws.Slices
import Derived.Deep.QuietTactic
import Derived.BigQuiet
import Derived.WideLaws
import Derived.Deep.DeepCutAuto
import Derived.Deep.CutBlock
import Derived.Deep.RegionHeld3
import Derived.Laws.Rows
import Derived.Lib.AppendStr
import Derived.ArgAppend
import Derived.Laws.IdiomCopy
import Derived.OrdersHeld
import Derived.Laws.BitsLemmas
import Derived.RowKit
import Derived.Test.YtkbjblhompkdkaaDoorWTab
import Derived.Test.YtkbjblhompkdkaaDoorWEqStruct
import Derived.Test.YtkbjblhompkdkaaDoorWRepsOne
import Derived.Test.YtkbjblhompkdkaaDoorWGuard
namespace Go.Proofs.YtkbjblhompkdkaaDoor
open Go.RowKit Go.Proofs.YtkbjblhompkdkaaDoorW.PrintWords
variable {P : Program} {ops : Array Oper} {rest : List Oper} {o : Oper} {a : Act} {Q : Exit → Act → World → Prop} {W : World}
theorem gate_callee {f : FuncId} {xs : Array Operand} {ts : Array TypeId} (_h : o.op = .call { callee := .value (.func f), args := xs, argTypes := ts }) (h : wpList P ops Q (o :: rest) a W) : wpList P ops Q (o :: rest) a W := h
theorem gate_builtin {b : Builtin} {xs : Array Operand} {ts : Array TypeId} (_h : o.op = .call { callee := .builtin b, args := xs, argTypes := ts }) (h : wpList P ops Q (o :: rest) a W) : wpList P ops Q (o :: rest) a W := h
theorem cells5 {W : World} {g : Nat} {t : TypeId} {v0 v1 v2 v3 v4 : Value} (h : W.heap[g]? = some (.cells #[v0, v1, v2, v3, v4] t (0, 0))) :
  W.cell? ⟨g, 0, none⟩ = some v0 ∧ W.cell? ⟨g, 1, none⟩ = some v1 ∧ W.cell? ⟨g, 2, none⟩ = some v2 ∧ W.cell? ⟨g, 3, none⟩ = some v3 ∧ W.cell? ⟨g, 4, none⟩ = some v4 :=
 ⟨(blk_cell h 0).trans rfl, (blk_cell h 1).trans rfl, (blk_cell h 2).trans rfl, (blk_cell h 3).trans rfl, (blk_cell h 4).trans rfl⟩
theorem frozen5 {W : World} {g : Nat} {t : TypeId} {cs : Array Value} (h : W.heap[g]? = some (.cells cs t (0, 0))) :
  W.frozen? ⟨g, 0, none⟩ = false ∧ W.frozen? ⟨g, 1, none⟩ = false ∧ W.frozen? ⟨g, 2, none⟩ = false ∧ W.frozen? ⟨g, 3, none⟩ = false ∧ W.frozen? ⟨g, 4, none⟩ = false :=
 ⟨blk_frozen h 0, blk_frozen h 1, blk_frozen h 2, blk_frozen h 3, blk_frozen h 4⟩
class Ext (W W' : World) : Prop where
 on : ∀ w, Below w.heap.size w W → Below w.heap.size w W'
instance Ext.self (W : World) : Ext W W := ⟨fun _ h => h⟩
instance Ext.alloc (W W' : World) (o : Obj) [h : Ext W W'] : Ext W (W'.alloc o) := ⟨fun w k => below_alloc (h.on w k) o⟩
instance Ext.drewN (W W' : World) (m : Nat) [h : Ext W W'] : Ext W (W'.drewN m) := ⟨fun w k => pw_below_drewN (h.on w k) m⟩
instance Ext.drew (W W' : World) [h : Ext W W'] : Ext W W'.drew := ⟨fun w k => below_drew1 (h.on w k)⟩
theorem bw {w W W' : World} (h : Below w.heap.size w W) [k : Ext W W'] : Below w.heap.size w W' := k.on w h
theorem br {α : Type} {d : Kd α} {e base : Nat} {ok : Nat → Prop} {v : Value} {xs : List α} {W W' : World} (h : d.R e W base ok v xs) [k : Ext W W'] : d.R e W' base ok v xs := Kd.R_below h (k.on _ (Below.refl _ _))
end Go.Proofs.YtkbjblhompkdkaaDoor
namespace Go.Proofs.YtkbjblhompkdkaaDoor
open Go.RowKit Go.Extern.Stop Go.Stop Go.Extern
set_option linter.unusedVariables false
set_option linter.unusedSimpArgs false
def Err (w : World) : Value → List Int → Option Int → Prop
 | v, [], some c => v = .iface 29 (.int .i64 c)
 | v, [], none => v = .nilIface
 | v, a :: l, c => ∃ b u, v = .iface 100 (.pointer (some ⟨b, 0, none⟩)) ∧ w.cell? ⟨b, 0, none⟩ = some (.int .i64 a) ∧ w.cell? ⟨b, 1, none⟩ = some u ∧ Err w u l c
theorem lt_of_cell {w : World} {b o : Nat} {v : Value} (h : w.cell? ⟨b, o, none⟩ = some v) : b < w.heap.size := by
 rcases Nat.lt_or_ge b w.heap.size with h' | h'
 ·exact h'
 ·simp [World.cell?, Array.getElem?_eq_none h'] at h
theorem Err.below {w w' : World} {n : Nat} (hb : Below n w w') (hn : w.heap.size ≤ n) {l : List Int} {c : Option Int} : ∀ {v : Value}, Err w v l c → Err w' v l c := by
 induction l with
 | nil => intro v h; cases c <;> exact h
 | cons a l ih =>
  rintro v ⟨b, u, rfl, h1, h2, h3⟩
  have hlt := lt_of_cell h1
  exact ⟨b, u, rfl, (hb.cell (by show b < n; omega)).trans h1, (hb.cell (by show b < n; omega)).trans h2, ih h3⟩
end Go.Proofs.YtkbjblhompkdkaaDoor
namespace Go.Proofs.YtkbjblhompkdkaaDoor
open Go.RowKit Go.Extern.Stop Go.Stop Go.Extern
set_option linter.unusedVariables false
set_option linter.unusedSimpArgs false
def Laid (w : World) : Prop := w.cell? ⟨1, 0, none⟩ = some (.iface 137 (.agg #[.pointer (some ⟨2, 26, none⟩)]))
theorem Laid.below {w w' : World} {n : Nat} (h : Laid w) (hb : Below n w w') (hn : w.heap.size ≤ n) : Laid w' :=
 (hb.cell (by have := lt_of_cell h; show 1 < n; omega)).trans h
end Go.Proofs.YtkbjblhompkdkaaDoor
namespace Go.Proofs.YtkbjblhompkdkaaDoor
open Go.RowKit Go.Extern.Stop Go.Stop Go.Extern
set_option linter.unusedVariables false
set_option linter.unusedSimpArgs false
theorem Err.iface {w : World} {v : Value} {l : List Int} {c : Option Int} (h : Err w v l c) (hn : l ≠ [] ∨ c ≠ none) : ∃ T x, v = .iface T x := by
 cases l with
 | nil =>
  cases c with
  | none => simp at hn
  | some c => exact ⟨_, _, h⟩
 | cons a l =>
  obtain ⟨b, u, rfl, _⟩ := h
  exact ⟨_, _, rfl⟩
end Go.Proofs.YtkbjblhompkdkaaDoor
namespace Go.Proofs.YtkbjblhompkdkaaDoor
open Go.RowKit Go.Proofs.YtkbjblhompkdkaaDoorW.PrintWords Go.Proofs.YtkbjblhompkdkaaDoorW.PrintLast
set_option linter.unusedVariables false
set_option linter.unusedSimpArgs false
theorem new_calls (c a : Int) (w : World) (hc : c ≠ 0) : Calls Tryd.prog 44 #[.int .i64 c, .int .i64 a] w fun e w' => ∃ v, e = .returned v ∧ Err w' v [a] (some c) ∧ Below w.heap.size w w' := by
 go_enter Tryd.func44, Tryd.ntmps44
 go_wp2
 go_ret
 exact ⟨_, rfl, ⟨_, _, rfl, by simp, by simp, rfl⟩, below_alloc (Below.refl _ _) _⟩
end Go.Proofs.YtkbjblhompkdkaaDoor
namespace Go.Proofs.YtkbjblhompkdkaaDoor
def decL (u : Nat) : List Int := if u < 10 then [48 + (u : Int)] else decL (u / 10) ++ [48 + ((u : Int) % 10)]
termination_by u
decreasing_by omega
def digL (n : Int) : List Int := if n < 0 then 45 :: decL n.natAbs else decL n.natAbs
theorem decL_small {u : Nat} (h : u < 10) : decL u = [48 + (u : Int)] := by rw [decL, if_pos h]
theorem decL_big {u : Nat} (h : ¬ u < 10) : decL u = decL (u / 10) ++ [48 + ((u : Int) % 10)] := by rw [decL, if_neg h]
structure DecInv (u0 u k : Nat) (xs : List Int) : Prop where
 len : xs.length = 20
 lo : 1 ≤ k
 hi : k ≤ 19
 small : u < 10 ^ k
 left : k = 19 ∨ 0 < u
 eq : decL u0 = decL u ++ xs.drop (k + 1)
theorem DecInv.start {u0 : Nat} (h : u0 ≤ 9223372036854775808) : DecInv u0 u0 19 (List.replicate 20 0) :=
 ⟨by simp, by omega, by omega, by have : (10:Nat) ^ 19 = 10000000000000000000 := by decide
                                  omega, .inl rfl, by simp⟩
theorem drop_set_at (xs : List Int) (k : Nat) (d : Int) (h : k < xs.length) : (xs.set k d).drop k = d :: xs.drop (k + 1) := by
 rw [List.drop_eq_getElem_cons (by simpa using h), List.drop_set_of_lt (by omega)]
 simp
theorem DecInv.step {u0 u k : Nat} {xs : List Int} (h : DecInv u0 u k xs) (hu : ¬ u < 10) : DecInv u0 (u / 10) (k - 1) (xs.set k (48 + (u : Int) % 10)) := by
 have h10 : u < 10 ^ k := h.small
 have hk : 2 ≤ k := by
  rcases Nat.lt_or_ge k 2 with h2 | h2
  ·have : k = 1 := by have := h.lo; omega
   subst this
   simp at h10
   omega
  ·exact h2
 have hp : (10:Nat) ^ k = 10 ^ (k - 1) * 10 := by rw [← Nat.pow_succ]; congr 1; omega
 refine ⟨by simp [h.len], by omega, by have := h.hi; omega, ?_, .inr (by omega), ?_⟩
 ·rw [hp] at h10
  omega
 ·rw [show k - 1 + 1 = k by omega, drop_set_at _ _ _ (by rw [h.len]; have := h.hi; omega), h.eq, decL_big hu]
  simp
theorem DecInv.done {u0 u k : Nat} {xs : List Int} (h : DecInv u0 u k xs) (hu : u < 10) : (xs.set k (48 + (u : Int) % 10)).drop k = decL u0 := by
 rw [drop_set_at _ _ _ (by rw [h.len]; have := h.hi; omega), h.eq, decL_small hu]
 rw [show (u : Int) % 10 = u by omega]
 rfl
theorem decL_range (u : Nat) : ∀ x ∈ decL u, 48 ≤ x ∧ x ≤ 57 := by
 induction u using Nat.strongRecOn with
 | _ u ih =>
 intro x hx
 by_cases h : u < 10
 ·rw [decL_small h] at hx
  simp at hx
  omega
 ·rw [decL_big h] at hx
  simp at hx
  rcases hx with hx | hx
  ·exact ih (u / 10) (by omega) x hx
  ·omega
end Go.Proofs.YtkbjblhompkdkaaDoor
namespace Go.Proofs.YtkbjblhompkdkaaDoor
open Go.RowKit Go.Proofs.YtkbjblhompkdkaaDoorW.PrintWords Go.Proofs.YtkbjblhompkdkaaDoorW.PrintLast
set_option linter.unusedVariables false
set_option linter.unusedSimpArgs false
theorem ret_num {k : IntKind} {a b : Int} (h : a = b) : Ending.returned (.int k a) = Ending.returned (.int k b) := by rw [h]
theorem size_any (n : Int) (w : World) (h0 : -9223372036854775808 ≤ n) (h1 : n ≤ 9223372036854775807) :
  Calls Tryd.prog 85 #[.int .i64 n] w fun e w' => e = .returned (.int .u64 (n.natAbs : Int)) ∧ w = w' := by
 have e1 : n < 0 → IntKind.u64.wrap (-(IntKind.u64.wrap n)) = (n.natAbs : Int) := by
  intro h
  simp only [IntKind.wrap, IntKind.bits, IntKind.signed]
  simp
  omega
 have E1 := Lib.hid e1
 clear e1
 by_cases hn : n < 0
 ·go_enter Tryd.func85, Tryd.ntmps85
  go_wp2
  go_ret
  exact ⟨ret_num (E1.out hn), rfl⟩
 ·go_enter Tryd.func85, Tryd.ntmps85
  go_wp2
  go_ret
  exact ⟨ret_num (by omega), rfl⟩
theorem heap_new (w : World) (o : Obj) : (w.alloc o).heap[w.heap.size]? = some o := by
 show (w.heap.push o)[w.heap.size]? = some o
 simp
theorem cell_nums {W : World} {B : Nat} {xs : List Int} {T : TypeId} (h : W.heap[B]? = some (.cells (nums .u8 xs).toArray T (0, 0))) {i : Nat} (hi : i < xs.length) :
  W.cell? ⟨B, i, none⟩ = some (.int .u8 (xs.getD i 0)) ∧ W.frozen? ⟨B, i, none⟩ = false := by
 constructor
 ·simp [World.cell?, h, nums, hi]
 ·simp [World.frozen?, h]
theorem heap_set {W : World} {B : Nat} {xs : List Int} {T : TypeId} (h : W.heap[B]? = some (.cells (nums .u8 xs).toArray T (0, 0))) (k : Nat) (d : Int) :
  (W.setCell ⟨B, k, none⟩ (.int .u8 d)).heap[B]? = some (.cells (nums .u8 (xs.set k d)).toArray T (0, 0)) := by
 show (W.heap.modify B _)[B]? = _
 rw [Array.getElem?_modify]
 simp [h, nums, List.map_set]
theorem conv_tail {P : Program} {W : World} {B : Nat} {xs : List Int} {T src e dst : TypeId} (h : W.heap[B]? = some (.cells (nums .u8 xs).toArray T (0, 0))) (k n c : Nat) (hk : k + n = xs.length)
  (hs : P.underlying src = some (.slice e)) (he : P.underlying e = some (.int .u8)) (hd : P.underlying dst = some .string) :
  (convert src dst (.slice (some ⟨B, k, none⟩) n c)).run P W = .ok (.string (strOfNums (xs.drop k))) W := by
 refine run_convert_bytes_arg W src e hs he B k n c (xs.drop k) (by simp; omega) (fun i hi => ?_) dst hd
 rw [(cell_nums h (i := k + i) (by omega)).1]
 simp [List.getD_eq_getElem?_getD]
theorem cut_tail (W : World) (B : Nat) (l : Int) (k : Nat) (h0 : l = (k : Int)) (h1 : k < 20) :
  (Instr.sliceAt 111 (.pointer (some ⟨B, 0, none⟩)) (some (.int .i64 l)) none none).run Tryd.prog W = .ok (.slice (some ⟨B, k, none⟩) (20 - k) (20 - k)) W := by
 subst h0
 have hl : Tryd.prog.arrayLen 111 = 20 := by kernel_rfl
 have he : Tryd.prog.elem 111 = 5 := by kernel_rfl
 have hu : Tryd.prog.underlying 111 = some (.array (Tryd.prog.arrayLen 111) (Tryd.prog.elem 111)) := by kernel_rfl
 rw [run_sliceAt_array_l W _ _ hu .i64 _ (by omega) (by rw [hl]; omega), hl, he]
 have hz : (sizeOf 5).run Tryd.prog W = .ok 1 W := by kernel_rfl
 rw [hz]
 simp [Result.andThen, slicedAt, Addr.add]
 rw [if_neg (by omega)]
 split <;> simp_all
set_option maxHeartbeats 2000000 in
set_option maxRecDepth 100000 in
theorem digits_any (n : Int) (w : World) (h0 : -9223372036854775808 ≤ n) (h1 : n ≤ 9223372036854775807) :
  Calls Tryd.prog 57 #[.int .i64 n] w fun e w' => e = .returned (.string (strOfNums (digL n))) ∧ Below w.heap.size w w' := by
 have hs : (n.natAbs : Int) ≤ 9223372036854775808 := by omega
 have hs0 : (0 : Int) ≤ (n.natAbs : Int) := by omega
 have st := Lib.hid (DecInv.start (u0 := n.natAbs) (by omega))
 go_enter Tryd.func57, Tryd.ntmps57
 go_wp2_with (go_at_call 85; refine (size_any _ _ h0 h1).mono ?_; rintro e w' ⟨rfl, rfl⟩)
 go_loopw [4, 5] (fun i u wr => ∃ (k uu : Nat) (xs : List Int), i = .int .i64 ((k : Int) + 1) ∧ u = .int .u64 (uu : Int) ∧ uu ≤ 9223372036854775808 ∧ Hid (DecInv n.natAbs uu k xs) ∧ Hid (wr.heap[w.heap.size]? = some (.cells (nums .u8 xs).toArray 111 (0, 0))) ∧ Below w.heap.size w wr)
  (fun i _ _ => (intOf i).toNat)
 case atStart => exact ⟨19, n.natAbs, List.replicate 20 0, rfl, rfl, by omega, st, heap_new w _, (Below.refl _ _).alloc (Nat.le_refl _) _⟩
 case round =>
  obtain ⟨k, u, xs, rfl, rfl, hub, hinv, hheap, hbel⟩ := hrel
  have hk1 := hinv.out.lo
  have hk2 := hinv.out.hi
  obtain ⟨hc1, hc2⟩ := cell_nums hheap.out (i := k) (by rw [hinv.out.len]; omega)
  have hset := Lib.hid (heap_set hheap.out k (48 + (u : Int) % 10))
  by_cases hu : u < 10
  ·have hu2 : ((u : Int) / 10 == 0) = true := by rw [beq_iff_eq]; omega
   have hdone := Lib.hid (hinv.out.done hu)
   have hlen : (xs.set k (48 + (u : Int) % 10)).length = 20 := by simp [hinv.out.len]
   have hbel1 := Lib.hid (hbel.setCell (p := ⟨w.heap.size, k, none⟩) (Nat.le_refl _) (.int .u8 (48 + (u : Int) % 10)))
   by_cases hn : n < 0
   ·obtain ⟨hd1, hd2⟩ := cell_nums hset.out (i := k - 1) (by rw [hlen]; omega)
    have hset2 := heap_set hset.out (k - 1) 45
    have hcut := cut_tail ((wr.setCell ⟨w.heap.size, k, none⟩ (.int .u8 (48 + (u : Int) % 10))).setCell ⟨w.heap.size, k - 1, none⟩ (.int .u8 45)) w.heap.size ((k : Int) - 1) (k - 1) (by omega) (by omega)
    have hconv := conv_tail (P := Tryd.prog) (src := 44) (e := 5) (dst := 9) hset2 (k - 1) (20 - (k - 1)) (20 - (k - 1)) (by simp [hinv.out.len]; omega) Tryd.underlying44 Tryd.underlying5 Tryd.underlying9
    have hfin : List.drop (k - 1) ((xs.set k (48 + (u : Int) % 10)).set (k - 1) 45) = digL n := by
     rw [drop_set_at _ _ _ (by rw [hlen]; omega), show k - 1 + 1 = k by omega, hdone.out, digL, if_pos hn]
    rw [hfin] at hconv
    clear hfin hlen hset2
    have hbel2 := Lib.hid (hbel1.out.setCell (p := ⟨w.heap.size, k - 1, none⟩) (Nat.le_refl _) (.int .u8 45))
    clear hbel
    go_wp2
    go_ret
    exact ⟨rfl, hbel2.out⟩
   ·have hcut := cut_tail (wr.setCell ⟨w.heap.size, k, none⟩ (.int .u8 (48 + (u : Int) % 10))) w.heap.size (k : Int) k rfl (by omega)
    have hconv := conv_tail (P := Tryd.prog) (src := 44) (e := 5) (dst := 9) hset.out k (20 - k) (20 - k) (by simp [hinv.out.len]; omega) Tryd.underlying44 Tryd.underlying5 Tryd.underlying9
    have hfin : List.drop k (xs.set k (48 + (u : Int) % 10)) = digL n := by
     rw [hdone.out, digL, if_neg hn]
    rw [hfin] at hconv
    clear hfin hlen hbel
    go_wp2
    go_ret
    exact ⟨rfl, hbel1.out⟩
  ·have hu2 : ((u : Int) / 10 == 0) = false := by rw [beq_eq_false_iff_ne]; omega
   have hstep := Lib.hid (hinv.out.step hu)
   have hbel1 := Lib.hid (hbel.setCell (p := ⟨w.heap.size, k, none⟩) (Nat.le_refl _) (.int .u8 (48 + (u : Int) % 10)))
   have hlo := hstep.out.lo
   clear hbel
   go_wp2
   go_roundw
   case rel => exact ⟨k - 1, u / 10, _, by go_num, by go_num, by omega, hstep, hset, hbel1.out⟩
   case measure => simp [intOf]
def num_Digits.f (a0 : Int) : Option ByteArray := if -9223372036854775808 ≤ a0 ∧ a0 ≤ 9223372036854775807 then some (strOfNums (digL a0)) else none
theorem num_Digits.calls (a0 : Int) (r : ByteArray) (w : World) (h : num_Digits.f a0 = some r) :
  Calls Tryd.prog 57 #[.int .i64 a0] w fun e w' => e = .returned (.string r) ∧ Below w.heap.size w w' := by
 unfold num_Digits.f at h
 split at h
 ·rename_i hb
  obtain rfl := Option.some.inj h
  exact digits_any a0 w hb.1 hb.2
 ·cases h
end Go.Proofs.YtkbjblhompkdkaaDoor
namespace Go.Proofs.YtkbjblhompkdkaaDoor
open Go.RowKit Go.Proofs.YtkbjblhompkdkaaDoorW.PrintWords Go.Proofs.YtkbjblhompkdkaaDoorW.PrintLast
set_option linter.unusedVariables false
section
variable {P : Program} {ops : Array Oper} {rest : List Oper} {o : Oper} {a : Act} {Q : Exit → Act → World → Prop} {α : Type} {W : World}
theorem R_make0 (d : Kd α) {w0 : World} (base e : Nat) (hgd : o.guard = none) {N : Tmp} (hd : o.dst = some N) (t : TypeId) (x y : Operand) (ho : o.op = .makeSlice t x y) (n : Int) (hx : a.eval x = .int .i64 0) (hy : a.eval y = .int .i64 n)
  (ht : P.underlying t = some (.slice e)) (z : Value) (bytes : Nat) (hinfo : (P.info? e).map (fun i => (i.zero, i.size, i.bytes)) = some (some z, d.sz, bytes)) (hz : z.cells.size = d.sz) (hs0 : 0 < d.sz) (hb0 : 0 < bytes)
  (z0 : α) {ok okp : Nat → Prop} (hzero : d.M W base okp z0 z.cells.toList) (hok : ∀ k, okp k → ok k) (hfresh : ok W.heap.size) (h0 : 0 ≤ n) (hl : n.toNat * bytes ≤ 281474976710656) (HB : Below base w0 W) (hbase : base ≤ W.heap.size)
  (h : ∀ v1 w1, d.R e w1 base ok v1 [] → Below base w0 w1 → W.grownBy w1 none → (∃ b, v1.ownBlock = some b ∧ W.heap.size ≤ b) → wpList P ops Q rest (a.put o.dst v1) w1) : wpList P ops Q (o :: rest) a W := by
 obtain ⟨m, rfl⟩ := Int.eq_ofNat_of_zero_le h0
 simp only [Int.toNat_natCast] at hl
 obtain ⟨i0, hi, hzz⟩ := Option.map_eq_some_iff.1 hinfo
 simp only [Prod.mk.injEq] at hzz
 obtain ⟨hz0, hz1, hz2⟩ := hzz
 have hm : m ≤ 281474976710656 := Nat.le_trans (Nat.le_mul_of_pos_right _ hb0) hl
 have hr := run_make (P := P) W t e i0 z ht hi hz0 .i64 .i64 0 (m : Int) (by omega) (by omega)
  (by
   have h3 : ((i0.bytes * m : Nat) : Int) ≤ 281474976710656 := by rw [hz2, Nat.mul_comm]; omega
   rwa [Int.natCast_mul] at h3) (by omega)
 simp only [Int.toNat_natCast, Int.toNat_zero] at hr
 rw [hz1] at hr
 have hrep : Reps (d.M W base okp) d.sz (List.replicate m z0) (madeCells z.cells (m * d.sz)).toList := Kd.reps_made hz hs0 hzero m
 have full : d.R e (W.alloc (.cells (madeCells z.cells (m * d.sz)) e)) base ok (.slice (some ⟨W.heap.size, 0, none⟩) m m) (List.replicate m z0) := by
  refine ⟨fun k hk => ?_, (madeCells z.cells (m * d.sz)).toList, ?_, ?_⟩
  ·have : W.heap.size = k := by simpa [Value.ownBlock] using hk
   subst this
   exact hfresh
  ·have h2 := World.ownsRow_lit (base := base) (e := e) (size := d.sz) W (madeCells z.cells (m * d.sz)) m hbase (by simp only [maxLen]; omega) (by simp [size_madeCells])
   simpa using h2
  ·refine hrep.imp_ (fun p c hp => d.M_mono (fun k hk => ⟨hok k hk.1, fun he => ?_⟩) (Kd.M_below (d.M_bound hp) (below_alloc (Below.refl _ _) _)))
   have h3 : k = W.heap.size := by simpa [Value.ownBlock] using he
   have := hk.2.2.1
   omega
 have none_ : d.R e (W.alloc (.cells (madeCells z.cells (m * d.sz)) e)) base ok (.slice (some ⟨W.heap.size, 0, none⟩) 0 m) [] := by
  have := Kd.R_take full (m := 0) (by omega)
  simpa using this
 refine Kd.event_run hgd (w1 := W.alloc (.cells (madeCells z.cells (m * d.sz)) e)) (v := .slice (some ⟨W.heap.size, 0, none⟩) 0 m) ?_ (h _ _ none_ (HB.alloc hbase _) (World.grownBy_alloc W _ none) ⟨W.heap.size, by simp [Value.ownBlock], Nat.le_refl _⟩)
 simp [execOp, ho, hx, hy, hr]
end
end Go.Proofs.YtkbjblhompkdkaaDoor
namespace Go.Proofs.YtkbjblhompkdkaaDoor
open Go.RowKit Go.Proofs.YtkbjblhompkdkaaDoorW.PrintWords Go.Proofs.YtkbjblhompkdkaaDoorW.PrintLast
set_option linter.unusedVariables false
set_option linter.unusedSimpArgs false
set_option maxHeartbeats 1000000 in
theorem letters_any (w : World) : Calls Tryd.prog 99 #[] w fun e w' => e = .returned (.agg #[.int .u8 34, .int .u8 34, .int .u8 92, .int .u8 92, .int .u8 10, .int .u8 110, .int .u8 9, .int .u8 116, .int .u8 13, .int .u8 114]) ∧ Below w.heap.size w w' := by
 go_enter Tryd.func99, Tryd.ntmps99
 go_wp2
 exact bodyPost_ret (v := .agg #[.int .u8 34, .int .u8 34, .int .u8 92, .int .u8 92, .int .u8 10, .int .u8 110, .int .u8 9, .int .u8 116, .int .u8 13, .int .u8 114]) (by simp [results, Tryd.results99, go_sem]) rfl ⟨rfl, (Below.refl _ _).alloc (Nat.le_refl _) _⟩
def letterS (c : Int) : Int := if c = 34 then 34 else if c = 92 then 92 else if c = 10 then 110 else if c = 9 then 116 else if c = 13 then 114 else 0
def byLetterS (c : Int) : Int × Bool := if c = 47 then (47, true) else if c = 34 then (34, true) else if c = 92 then (92, true) else if c = 110 then (10, true) else if c = 116 then (9, true) else if c = 114 then (13, true) else (0, false)
theorem row_at0 (w : World) : (Instr.index 134 (.agg #[.int .u8 34, .int .u8 34, .int .u8 92, .int .u8 92, .int .u8 10, .int .u8 110, .int .u8 9, .int .u8 116, .int .u8 13, .int .u8 114]) (.int .i64 0)).run Tryd.prog w = .ok (.agg #[.int .u8 34, .int .u8 34]) w := by kernel_rfl
theorem row_at1 (w : World) : (Instr.index 134 (.agg #[.int .u8 34, .int .u8 34, .int .u8 92, .int .u8 92, .int .u8 10, .int .u8 110, .int .u8 9, .int .u8 116, .int .u8 13, .int .u8 114]) (.int .i64 1)).run Tryd.prog w = .ok (.agg #[.int .u8 92, .int .u8 92]) w := by kernel_rfl
theorem row_at2 (w : World) : (Instr.index 134 (.agg #[.int .u8 34, .int .u8 34, .int .u8 92, .int .u8 92, .int .u8 10, .int .u8 110, .int .u8 9, .int .u8 116, .int .u8 13, .int .u8 114]) (.int .i64 2)).run Tryd.prog w = .ok (.agg #[.int .u8 10, .int .u8 110]) w := by kernel_rfl
theorem row_at3 (w : World) : (Instr.index 134 (.agg #[.int .u8 34, .int .u8 34, .int .u8 92, .int .u8 92, .int .u8 10, .int .u8 110, .int .u8 9, .int .u8 116, .int .u8 13, .int .u8 114]) (.int .i64 3)).run Tryd.prog w = .ok (.agg #[.int .u8 9, .int .u8 116]) w := by kernel_rfl
theorem row_at4 (w : World) : (Instr.index 134 (.agg #[.int .u8 34, .int .u8 34, .int .u8 92, .int .u8 92, .int .u8 10, .int .u8 110, .int .u8 9, .int .u8 116, .int .u8 13, .int .u8 114]) (.int .i64 4)).run Tryd.prog w = .ok (.agg #[.int .u8 13, .int .u8 114]) w := by kernel_rfl
theorem row_at (i : Nat) (hi : i < 5) (x y : Int) (h : ([((34 : Int), (34 : Int)), (92, 92), (10, 110), (9, 116), (13, 114)] : List (Int × Int))[i]? = some (x, y)) (w : World) :
  (Instr.index 134 (.agg #[.int .u8 34, .int .u8 34, .int .u8 92, .int .u8 92, .int .u8 10, .int .u8 110, .int .u8 9, .int .u8 116, .int .u8 13, .int .u8 114]) (.int .i64 (i : Int))).run Tryd.prog w = .ok (.agg #[.int .u8 x, .int .u8 y]) w := by
 match i, hi with
 | 0, _ => simp at h; obtain ⟨rfl, rfl⟩ := h; exact row_at0 w
 | 1, _ => simp at h; obtain ⟨rfl, rfl⟩ := h; exact row_at1 w
 | 2, _ => simp at h; obtain ⟨rfl, rfl⟩ := h; exact row_at2 w
 | 3, _ => simp at h; obtain ⟨rfl, rfl⟩ := h; exact row_at3 w
 | 4, _ => simp at h; obtain ⟨rfl, rfl⟩ := h; exact row_at4 w
def lettersL : List (Int × Int) := [(34, 34), (92, 92), (10, 110), (9, 116), (13, 114)]
def Lets (r : Int) (e : Ending) : Prop := e = .returned (.int .u8 r)
def NotYet (c : Int) (k : Nat) : Prop := ∀ j p, j < k → lettersL[j]? = some p → p.1 ≠ c
theorem NotYet.start (c : Int) : NotYet c 0 := fun j p h => absurd h (by omega)
theorem NotYet.next {c : Int} {k : Nat} {x y : Int} (h : NotYet c k) (hk : lettersL[k]? = some (x, y)) (hx : ¬ x = c) : NotYet c (k + 1) := by
 intro j p hj hp
 rcases Nat.lt_or_eq_of_le (Nat.le_of_lt_succ hj) with h1 | rfl
 ·exact h j p h1 hp
 ·rw [hk] at hp
  obtain rfl := Option.some.inj hp
  exact hx
theorem NotYet.hit {c : Int} {k : Nat} {x y : Int} (h : NotYet c k) (hk : lettersL[k]? = some (x, y)) (hx : x = c) : letterS c = y := by
 subst hx
 match k, hk with
 | 0, hk => simp [lettersL] at hk; obtain ⟨rfl, rfl⟩ := hk; rfl
 | 1, hk => simp [lettersL] at hk; obtain ⟨rfl, rfl⟩ := hk; rfl
 | 2, hk => simp [lettersL] at hk; obtain ⟨rfl, rfl⟩ := hk; rfl
 | 3, hk => simp [lettersL] at hk; obtain ⟨rfl, rfl⟩ := hk; rfl
 | 4, hk => simp [lettersL] at hk; obtain ⟨rfl, rfl⟩ := hk; rfl
 | n + 5, hk => simp [lettersL] at hk
theorem NotYet.none_ {c : Int} (h : NotYet c 5) : letterS c = 0 := by
 have h0 := h 0 (34, 34) (by omega) rfl
 have h1 := h 1 (92, 92) (by omega) rfl
 have h2 := h 2 (10, 110) (by omega) rfl
 have h3 := h 3 (9, 116) (by omega) rfl
 have h4 := h 4 (13, 114) (by omega) rfl
 simp only [] at h0 h1 h2 h3 h4
 unfold letterS
 rw [if_neg (Ne.symm h0), if_neg (Ne.symm h1), if_neg (Ne.symm h2), if_neg (Ne.symm h3), if_neg (Ne.symm h4)]
set_option maxHeartbeats 2000000 in
theorem letter_any (c : Int) (w : World) : Calls Tryd.prog 86 #[.int .u8 c] w fun e w' => Lets (letterS c) e ∧ Below w.heap.size w w' := by
 go_enter Tryd.func86, Tryd.ntmps86
 go_wp2_with (go_at_call 99; refine (letters_any _).mono ?_; rintro e w1 ⟨rfl, hb⟩)
 go_loopw [6] (fun i wr => ∃ k : Nat, k ≤ 5 ∧ i = .int .i64 (k : Int) ∧ Hid (NotYet c k) ∧ Below w.heap.size w wr) (fun i _ => 5 - (intOf i).toNat)
 case atStart => exact ⟨0, by omega, rfl, NotYet.start c, hb⟩
 case round =>
  obtain ⟨k, hk, rfl, hn, hbel⟩ := hrel
  clear hb
  by_cases h5 : k < 5
  ·obtain ⟨⟨x, y⟩, hxy⟩ : ∃ p, lettersL[k]? = some p := ⟨_, List.getElem?_eq_getElem (show k < lettersL.length by simpa [lettersL] using h5)⟩
   have hi := row_at k h5 x y hxy
   have Hxy := Lib.hid hxy
   clear hxy
   have hb2 := Lib.hid (hbel.alloc hbel.size (.cells #[.int .u8 x, .int .u8 y] 133))
   clear hbel
   by_cases hx : x = c
   ·have hit := Lib.hid (hn.out.hit Hxy.out hx)
    have hd : (x == c) = true := beq_iff_eq.2 hx
    clear hx
    go_wp2
    go_ret
    exact ⟨by unfold Lets; rw [hit.out]; rfl, hb2.out⟩
   ·have hne := Lib.hid (hn.out.next Hxy.out hx)
    have hd : (x == c) = false := beq_eq_false_iff_ne.2 hx
    clear hx
    go_wp2
    go_roundw
    case rel => exact ⟨k + 1, by omega, by go_num, hne, hb2.out⟩
    case measure => simp [intOf]; omega
  ·have h0 : letterS c = 0 := NotYet.none_ (by rw [show (5 : Nat) = k by omega]; exact hn.out)
   have H0 := Lib.hid h0
   clear h0
   go_wp2
   go_ret
   exact ⟨by unfold Lets; rw [H0.out]; rfl, hbel⟩
def Lets2 (r : Int × Bool) (e : Ending) : Prop := e = .returned (.tuple #[.int .u8 r.1, .bool r.2])
def NotYet2 (c : Int) (k : Nat) : Prop := ∀ j p, j < k → lettersL[j]? = some p → p.2 ≠ c
theorem NotYet2.start (c : Int) : NotYet2 c 0 := fun j p h => absurd h (by omega)
theorem NotYet2.next {c : Int} {k : Nat} {x y : Int} (h : NotYet2 c k) (hk : lettersL[k]? = some (x, y)) (hx : ¬ y = c) : NotYet2 c (k + 1) := by
 intro j p hj hp
 rcases Nat.lt_or_eq_of_le (Nat.le_of_lt_succ hj) with h1 | rfl
 ·exact h j p h1 hp
 ·rw [hk] at hp
  obtain rfl := Option.some.inj hp
  exact hx
theorem NotYet2.hit {c : Int} {k : Nat} {x y : Int} (hk : lettersL[k]? = some (x, y)) (hx : y = c) : byLetterS c = (x, true) := by
 subst hx
 match k, hk with
 | 0, hk => simp [lettersL] at hk; obtain ⟨rfl, rfl⟩ := hk; rfl
 | 1, hk => simp [lettersL] at hk; obtain ⟨rfl, rfl⟩ := hk; rfl
 | 2, hk => simp [lettersL] at hk; obtain ⟨rfl, rfl⟩ := hk; rfl
 | 3, hk => simp [lettersL] at hk; obtain ⟨rfl, rfl⟩ := hk; rfl
 | 4, hk => simp [lettersL] at hk; obtain ⟨rfl, rfl⟩ := hk; rfl
 | n + 5, hk => simp [lettersL] at hk
theorem NotYet2.none_ {c : Int} (hc : ¬ c = 47) (h : NotYet2 c 5) : byLetterS c = (0, false) := by
 have h0 := h 0 (34, 34) (by omega) rfl
 have h1 := h 1 (92, 92) (by omega) rfl
 have h2 := h 2 (10, 110) (by omega) rfl
 have h3 := h 3 (9, 116) (by omega) rfl
 have h4 := h 4 (13, 114) (by omega) rfl
 simp only [] at h0 h1 h2 h3 h4
 unfold byLetterS
 rw [if_neg hc, if_neg (Ne.symm h0), if_neg (Ne.symm h1), if_neg (Ne.symm h2), if_neg (Ne.symm h3), if_neg (Ne.symm h4)]
set_option maxHeartbeats 2000000 in
theorem byLetter_any (c : Int) (w : World) : Calls Tryd.prog 93 #[.int .u8 c] w fun e w' => Lets2 (byLetterS c) e ∧ Below w.heap.size w w' := by
 by_cases h47 : c = 47
 ·subst h47
  go_enter Tryd.func93, Tryd.ntmps93
  go_wp2
  go_ret2
  exact ⟨rfl, Below.refl _ _⟩
 have h47d : (c == 47) = false := beq_eq_false_iff_ne.2 h47
 have H47 := Lib.hid h47
 clear h47
 go_enter Tryd.func93, Tryd.ntmps93
 go_wp2_with (go_at_call 99; refine (letters_any _).mono ?_; rintro e w1 ⟨rfl, hb⟩)
 go_loopw [10] (fun i wr => ∃ k : Nat, k ≤ 5 ∧ i = .int .i64 (k : Int) ∧ Hid (NotYet2 c k) ∧ Below w.heap.size w wr) (fun i _ => 5 - (intOf i).toNat)
 case atStart => exact ⟨0, by omega, rfl, NotYet2.start c, hb⟩
 case round =>
  obtain ⟨k, hk, rfl, hn, hbel⟩ := hrel
  clear hb
  by_cases h5 : k < 5
  ·obtain ⟨⟨x, y⟩, hxy⟩ : ∃ p, lettersL[k]? = some p := ⟨_, List.getElem?_eq_getElem (show k < lettersL.length by simpa [lettersL] using h5)⟩
   have hi := row_at k h5 x y hxy
   have Hxy := Lib.hid hxy
   clear hxy
   have hb2 := Lib.hid (hbel.alloc hbel.size (.cells #[.int .u8 x, .int .u8 y] 133))
   clear hbel
   by_cases hx : y = c
   ·have hit := Lib.hid (NotYet2.hit Hxy.out hx)
    have hd : (y == c) = true := beq_iff_eq.2 hx
    clear hx
    go_wp2
    go_ret2
    exact ⟨by unfold Lets2; rw [hit.out]; rfl, hb2.out⟩
   ·have hne := Lib.hid (hn.out.next Hxy.out hx)
    have hd : (y == c) = false := beq_eq_false_iff_ne.2 hx
    clear hx
    go_wp2
    go_roundw
    case rel => exact ⟨k + 1, by omega, by go_num, hne, hb2.out⟩
    case measure => simp [intOf]; omega
  ·have h0 : byLetterS c = (0, false) := NotYet2.none_ H47.out (by rw [show (5 : Nat) = k by omega]; exact hn.out)
   have H0 := Lib.hid h0
   clear h0
   go_wp2
   go_ret2
   exact ⟨by unfold Lets2; rw [H0.out]; rfl, hbel⟩
def quote_letter.f (a0 : Int) : Option Int := some (letterS a0)
theorem quote_letter.calls (a0 : Int) (r : Int) (w : World) (h : quote_letter.f a0 = some r) :
  Calls Tryd.prog 86 #[.int .u8 a0] w fun e w' => e = .returned (.int .u8 r) ∧ Below w.heap.size w w' := by
 obtain rfl := Option.some.inj h
 exact letter_any a0 w
def quote_byLetter.f (a0 : Int) : Option (Int × Bool) := some (byLetterS a0)
theorem quote_byLetter.calls (a0 : Int) (r1 : Int) (r2 : Bool) (w : World) (h : quote_byLetter.f a0 = some (r1, r2)) :
  Calls Tryd.prog 93 #[.int .u8 a0] w fun e w' => e = .returned (.tuple #[.int .u8 r1, .bool r2]) ∧ Below w.heap.size w w' := by
 have h' : byLetterS a0 = (r1, r2) := Option.some.inj h
 refine (byLetter_any a0 w).mono ?_
 rintro e w' ⟨he, hb⟩
 unfold Lets2 at he
 rw [h'] at he
 exact ⟨he, hb⟩
end Go.Proofs.YtkbjblhompkdkaaDoor
namespace Go.Proofs.YtkbjblhompkdkaaDoor.PA
open Go.RowKit Go.Proofs.YtkbjblhompkdkaaDoorW.PrintWords Go.Proofs.YtkbjblhompkdkaaDoorW.PrintLast
set_option linter.unusedVariables false
set_option linter.unusedSimpArgs false
def errW : Option Int → Value
 | none => .nilIface
 | some c => .iface 29 (.int .i64 c)
theorem errW_none : errW none = .nilIface := rfl
theorem errW_some (c : Int) : errW (some c) = .iface 29 (.int .i64 c) := rfl
theorem info5 : (Tryd.prog.info? 5).map (fun i => (i.zero, i.size, i.bytes)) = some (some (.int .u8 0), 1, 1) := by kernel_rfl
theorem info24 : (Tryd.prog.info? 24).map (fun i => (i.zero, i.size, i.bytes)) = some (some (.agg #[(.int .i64 0), (.int .i64 0), (.int .i64 0), (.int .i64 0), (.string ⟨#[]⟩)]), 5, 48) := by kernel_rfl
structure S24 where
 f0 : Int
 f1 : Int
 f2 : Int
 f3 : Int
 f4 : ByteArray
def z24 : S24 := ⟨(0 : Int), (0 : Int), (0 : Int), (0 : Int), (⟨#[]⟩ : ByteArray)⟩
def k24 : Kd S24 := Kd.iso (Kd.pair (Kd.int .i64) (Kd.pair (Kd.int .i64) (Kd.pair (Kd.int .i64) (Kd.pair (Kd.int .i64) Kd.string)))) (fun x : S24 => (x.f0, x.f1, x.f2, x.f3, x.f4))
theorem k24_open {w : World} {x : S24} {cs : List Value} (h : k24.K w x cs) : cs = [.int .i64 x.f0, .int .i64 x.f1, .int .i64 x.f2, .int .i64 x.f3, .string x.f4] := by
 obtain ⟨_, _, rfl, rfl, ⟨_, _, rfl, rfl, ⟨_, _, rfl, rfl, ⟨_, _, rfl, rfl, rfl⟩⟩⟩⟩ := h
 exact rfl
theorem k24_mkM (w : World) (base : Nat) (ok : Nat → Prop) (x : S24)  : k24.M w base ok x [.int .i64 x.f0, .int .i64 x.f1, .int .i64 x.f2, .int .i64 x.f3, .string x.f4] := ⟨[.int .i64 x.f0], [.int .i64 x.f1, .int .i64 x.f2, .int .i64 x.f3, .string x.f4], rfl, rfl, ⟨[.int .i64 x.f1], [.int .i64 x.f2, .int .i64 x.f3, .string x.f4], rfl, rfl, ⟨[.int .i64 x.f2], [.int .i64 x.f3, .string x.f4], rfl, rfl, ⟨[.int .i64 x.f3], [.string x.f4], rfl, rfl, rfl⟩⟩⟩⟩
def rd_T24 (xs : List S24) (i : Int) : S24 := xs.getD i.toNat z24
theorem at_T24 {w : World} {A : Option Addr} {n : Nat} {xs : List S24} (h : Kd.C k24 w A n xs) (i : Int) (h0 : 0 ≤ i) (h1 : i < n) : ∃ ad , A = some ad ∧ w.cell? (ad.add (i.toNat * 5)) = some (.int .i64 (rd_T24 xs i).f0) ∧ w.cell? ⟨(ad.add (i.toNat * 5)).block, (ad.add (i.toNat * 5)).off + 1, none⟩ = some (.int .i64 (rd_T24 xs i).f1) ∧ w.cell? ⟨(ad.add (i.toNat * 5)).block, (ad.add (i.toNat * 5)).off + 2, none⟩ = some (.int .i64 (rd_T24 xs i).f2) ∧ w.cell? ⟨(ad.add (i.toNat * 5)).block, (ad.add (i.toNat * 5)).off + 3, none⟩ = some (.int .i64 (rd_T24 xs i).f3) ∧ w.cell? ⟨(ad.add (i.toNat * 5)).block, (ad.add (i.toNat * 5)).off + 4, none⟩ = some (.string (rd_T24 xs i).f4) := by
 obtain ⟨ad, c, e, _, hK, hc0⟩ := Kd.C_get h z24 i h0 h1
 have hc : ∀ j u, c[j]? = some u → w.cell? (ad.add (i.toNat * 5 + j)) = some u := hc0
 obtain rfl := k24_open hK
 exact ⟨ad, e, hc 0 _ rfl, by rw [← add_field _ _ 1 (by omega)]; exact hc 1 _ rfl, by rw [← add_field _ _ 2 (by omega)]; exact hc 2 _ rfl, by rw [← add_field _ _ 3 (by omega)]; exact hc 3 _ rfl, by rw [← add_field _ _ 4 (by omega)]; exact hc 4 _ rfl⟩
end Go.Proofs.YtkbjblhompkdkaaDoor.PA
namespace Go.Proofs.YtkbjblhompkdkaaDoor.PA
open Go.RowKit Go.Proofs.YtkbjblhompkdkaaDoorW.PrintWords Go.Proofs.YtkbjblhompkdkaaDoorW.PrintLast
set_option linter.unusedVariables false
set_option linter.unusedSimpArgs false
def lex_Blank.f (a0 : Int) : Option (Bool) := if a0 = 32 then (some true) else (if a0 = 9 then (some true) else (if a0 = 10 then (some true) else (if a0 = 13 then (some true) else (some false))))
set_option maxHeartbeats 8000000 in
set_option maxRecDepth 100000 in
theorem lex_Blank.calls (a0 : Int) (r : Bool) (w : World) (h : lex_Blank.f a0 = some r) :
  Calls Tryd.prog 23 #[.int .u8 a0] w fun e w' => e = .returned (.bool r) ∧ Drawn0 w w' := by
 have H : (if a0 = 32 then (some true) else (if a0 = 9 then (some true) else (if a0 = 10 then (some true) else (if a0 = 13 then (some true) else (some false))))) = some r := h
 clear h
 by_cases c2 : a0 = 32
 ·rw [if_pos c2] at H
  have c2b0 : (a0 == 32) = true := beq_iff_eq.mpr c2
  have c2b1 : (a0 != 32) = false := bne_eq_false_iff_eq.mpr c2
  clear c2
  obtain rfl := Option.some.inj H
  go_enter Tryd.func23, Tryd.ntmps23
  go_wp2
  go_ret
  exact ⟨by first | rfl | (simp; done) | (simp [*]; done), by repeat (first | exact Drawn0.refl _ | apply Drawn0.step)⟩
 ·rw [if_neg c2] at H
  have c2b0 : (a0 == 32) = false := beq_eq_false_iff_ne.mpr c2
  have c2b1 : (a0 != 32) = true := bne_iff_ne.mpr c2
  by_cases c3 : a0 = 9
  ·rw [if_pos c3] at H
   have c3b0 : (a0 == 9) = true := beq_iff_eq.mpr c3
   have c3b1 : (a0 != 9) = false := bne_eq_false_iff_eq.mpr c3
   clear c3
   obtain rfl := Option.some.inj H
   go_enter Tryd.func23, Tryd.ntmps23
   go_wp2
   go_ret
   exact ⟨by first | rfl | (simp; done) | (simp [*]; done), by repeat (first | exact Drawn0.refl _ | apply Drawn0.step)⟩
  ·rw [if_neg c3] at H
   have c3b0 : (a0 == 9) = false := beq_eq_false_iff_ne.mpr c3
   have c3b1 : (a0 != 9) = true := bne_iff_ne.mpr c3
   by_cases c4 : a0 = 10
   ·rw [if_pos c4] at H
    have c4b0 : (a0 == 10) = true := beq_iff_eq.mpr c4
    have c4b1 : (a0 != 10) = false := bne_eq_false_iff_eq.mpr c4
    clear c4
    obtain rfl := Option.some.inj H
    go_enter Tryd.func23, Tryd.ntmps23
    go_wp2
    go_ret
    exact ⟨by first | rfl | (simp; done) | (simp [*]; done), by repeat (first | exact Drawn0.refl _ | apply Drawn0.step)⟩
   ·rw [if_neg c4] at H
    have c4b0 : (a0 == 10) = false := beq_eq_false_iff_ne.mpr c4
    have c4b1 : (a0 != 10) = true := bne_iff_ne.mpr c4
    by_cases c5 : a0 = 13
    ·rw [if_pos c5] at H
     have c5b0 : (a0 == 13) = true := beq_iff_eq.mpr c5
     have c5b1 : (a0 != 13) = false := bne_eq_false_iff_eq.mpr c5
     clear c5
     obtain rfl := Option.some.inj H
     go_enter Tryd.func23, Tryd.ntmps23
     go_wp2
     go_ret
     exact ⟨by first | rfl | (simp; done) | (simp [*]; done), by repeat (first | exact Drawn0.refl _ | apply Drawn0.step)⟩
    ·rw [if_neg c5] at H
     have c5b0 : (a0 == 13) = false := beq_eq_false_iff_ne.mpr c5
     have c5b1 : (a0 != 13) = true := bne_iff_ne.mpr c5
     obtain rfl := Option.some.inj H
     go_enter Tryd.func23, Tryd.ntmps23
     go_wp2
     go_ret
     exact ⟨by first | rfl | (simp; done) | (simp [*]; done), by repeat (first | exact Drawn0.refl _ | apply Drawn0.step)⟩
def quote_nibble.j0 : Nat → Int → Bool → Option (Int × Bool)
 | 0, _, _ => none
 | k + 1, x0, x4 => if x4 = true then (some ((x0 - 48) % 256, true)) else (if x0 ≥ 97 then (if x0 ≤ 102 then (some (((x0 - 97) + 10) % 256, true)) else (some (0, false))) else (some (0, false)))
def quote_nibble.f (k : Nat) (a0 : Int) : Option (Int × Bool) := if a0 ≥ 48 then (quote_nibble.j0 k a0 (decide (a0 ≤ 57))) else (quote_nibble.j0 k a0 false)
set_option maxHeartbeats 8000000 in
set_option maxRecDepth 100000 in
theorem quote_nibble.calls (k : Nat) (a0 : Int) (r1 : Int) (r2 : Bool) (w : World) (h : quote_nibble.f k a0 = some (r1, r2)) :
  Calls Tryd.prog 105 #[.int .u8 a0] w fun e w' => e = .returned (.tuple #[.int .u8 r1, .bool r2]) ∧ Drawn0 w w' := by
 have H : (if a0 ≥ 48 then (quote_nibble.j0 k a0 (decide (a0 ≤ 57))) else (quote_nibble.j0 k a0 false)) = some (r1, r2) := h
 clear h
 have HC2 := Aside0.mk H
 clear H
 go_enter Tryd.func105, Tryd.ntmps105
 go_upto_region 1 with (fail)
 go_cut [4] (fun v4 wc => ∃ (kq : Nat) (x4_1 : Bool), v4 = .bool x4_1 ∧ Aside0 (quote_nibble.j0 kq a0 x4_1 = some (r1, r2)) ∧ Aside0 (kq ≤ k) ∧ Drawn0 w wc)
 case first =>
  have H := HC2.out
  clear HC2
  by_cases c3 : a0 ≥ 48
  ·rw [if_pos c3] at H
   have c3b0 : decide (48 ≤ a0) = true := decide_eq_true c3
   clear c3
   (first | rw [c3b0] | (simp only [i64_w, i32_w]; rw [c3b0]) | skip)
   have H' := Aside0.mk H
   clear H
   go_wp2
   go_meet
   case rel => exact ⟨_, (decide (a0 ≤ 57)), (by first | rfl | (simp; done) | (simp [*]; done)), H', ⟨by first | omega | exact Nat.le_refl _⟩, by repeat (first | exact Drawn0.refl _ | apply Drawn0.step)⟩
  ·rw [if_neg c3] at H
   have c3b0 : decide (48 ≤ a0) = false := decide_eq_false c3
   clear c3
   (first | rw [c3b0] | (simp only [i64_w, i32_w]; rw [c3b0]) | skip)
   have H' := Aside0.mk H
   clear H
   go_wp2
   go_meet
   case rel => exact ⟨_, (false), (by first | rfl | (simp; done) | (simp [*]; done)), H', ⟨by first | omega | exact Nat.le_refl _⟩, by repeat (first | exact Drawn0.refl _ | apply Drawn0.step)⟩
 case rest =>
  clear HC2
  try clear c1
  try clear p2
  try clear c3
  try clear c3b0
  obtain ⟨kq, x4_1, rfl, HA, HJ1, ⟨mc1, rfl⟩⟩ := hcut
  cases kq with
  | zero => exact absurd HA.out (by simp [quote_nibble.j0])
  | succ kj1 =>
   have H := HA.out
   clear HA
   simp only [quote_nibble.j0] at H
   by_cases c4 : x4_1 = true
   ·subst c4
    have H1 : (some ((a0 - 48) % 256, true)) = some (r1, r2) := by rw [if_pos rfl] at H; exact H
    clear H
    have H := H1
    clear H1
    simp only [Option.some.injEq, Prod.mk.injEq] at H
    obtain ⟨rfl, rfl⟩ := H
    go_wp2
    go_ret2
    exact ⟨by first | rfl | (simp; done) | (simp [*]; done), by repeat (first | exact Drawn0.refl _ | apply Drawn0.step)⟩
   ·replace c4 := Bool.eq_false_iff.mpr c4
    subst c4
    have H1 : (if a0 ≥ 97 then (if a0 ≤ 102 then (some (((a0 - 97) + 10) % 256, true)) else (some (0, false))) else (some (0, false))) = some (r1, r2) := by rw [if_neg (show ¬ (false = true) by decide)] at H; exact H
    clear H
    have H := H1
    clear H1
    by_cases c5 : a0 ≥ 97
    ·rw [if_pos c5] at H
     have c5b0 : decide (97 ≤ a0) = true := decide_eq_true c5
     clear c5
     by_cases c6 : a0 ≤ 102
     ·rw [if_pos c6] at H
      have c6b0 : decide (a0 ≤ 102) = true := decide_eq_true c6
      clear c6
      simp only [Option.some.injEq, Prod.mk.injEq] at H
      obtain ⟨rfl, rfl⟩ := H
      go_wp2
      go_ret2
      exact ⟨by first | rfl | (simp; done) | (simp [*]; done), by repeat (first | exact Drawn0.refl _ | apply Drawn0.step)⟩
     ·rw [if_neg c6] at H
      have c6b0 : decide (a0 ≤ 102) = false := decide_eq_false c6
      clear c6
      simp only [Option.some.injEq, Prod.mk.injEq] at H
      obtain ⟨rfl, rfl⟩ := H
      go_wp2
      go_ret2
      exact ⟨by first | rfl | (simp; done) | (simp [*]; done), by repeat (first | exact Drawn0.refl _ | apply Drawn0.step)⟩
    ·rw [if_neg c5] at H
     have c5b0 : decide (97 ≤ a0) = false := decide_eq_false c5
     clear c5
     simp only [Option.some.injEq, Prod.mk.injEq] at H
     obtain ⟨rfl, rfl⟩ := H
     go_wp2
     go_ret2
     exact ⟨by first | rfl | (simp; done) | (simp [*]; done), by repeat (first | exact Drawn0.refl _ | apply Drawn0.step)⟩
def quote_either.f (k : Nat) (a0 : Int) : Option (Int × Bool) := if a0 ≥ 65 then (if a0 ≤ 70 then ((quote_nibble.f k ((a0 + 32) % 256)).bind fun bt101 => (some (bt101.1, bt101.2))) else ((quote_nibble.f k a0).bind fun bt103 => (some (bt103.1, bt103.2)))) else ((quote_nibble.f k a0).bind fun bt105 => (some (bt105.1, bt105.2)))
set_option maxHeartbeats 8000000 in
set_option maxRecDepth 100000 in
theorem quote_either.calls (k : Nat) (a0 : Int) (r1 : Int) (r2 : Bool) (w : World) (h : quote_either.f k a0 = some (r1, r2)) :
  Calls Tryd.prog 101 #[.int .u8 a0] w fun e w' => e = .returned (.tuple #[.int .u8 r1, .bool r2]) ∧ Drawn0 w w' := by
 have H : (if a0 ≥ 65 then (if a0 ≤ 70 then ((quote_nibble.f k ((a0 + 32) % 256)).bind fun bt101 => (some (bt101.1, bt101.2))) else ((quote_nibble.f k a0).bind fun bt103 => (some (bt103.1, bt103.2)))) else ((quote_nibble.f k a0).bind fun bt105 => (some (bt105.1, bt105.2)))) = some (r1, r2) := h
 clear h
 by_cases c2 : a0 ≥ 65
 ·rw [if_pos c2] at H
  have c2b0 : decide (65 ≤ a0) = true := decide_eq_true c2
  clear c2
  by_cases c3 : a0 ≤ 70
  ·rw [if_pos c3] at H
   have c3b0 : decide (a0 ≤ 70) = true := decide_eq_true c3
   clear c3
   replace H := Option.bind_eq_some_iff.mp H
   obtain ⟨⟨t101, t102⟩, A40, H⟩ := H
   replace H : (some (t101, t102)) = some (r1, r2) := H
   have A4 := Aside0.mk A40
   clear A40
   simp only [Option.some.injEq, Prod.mk.injEq] at H
   obtain ⟨rfl, rfl⟩ := H
   go_enter Tryd.func101, Tryd.ntmps101
   go_wp2_with (first | ((with_reducible refine gate_callee (f := 105) rfl ?_); refine goesL_ (some 13) rfl rfl Tryd.func105 (by kernel_rfl) rfl #[.int .u8 ((a0 + 32) % 256)] rfl (by (try simp only [List.map_toArray, List.map_cons, List.map_nil]); first | done | rfl | (simp only [List.length_drop, List.length_take]; rfl)) ?_; (with_reducible refine (quote_nibble.calls k ((a0 + 32) % 256) t101 t102 _ A4.out).mono ?_); rintro e w' ⟨rfl, ⟨nd, rfl⟩⟩; refine ⟨_, rfl, ?_⟩))
   go_ret2
   exact ⟨by first | rfl | (simp; done) | (simp [*]; done), by repeat (first | exact Drawn0.refl _ | apply Drawn0.step)⟩
  ·rw [if_neg c3] at H
   have c3b0 : decide (a0 ≤ 70) = false := decide_eq_false c3
   clear c3
   replace H := Option.bind_eq_some_iff.mp H
   obtain ⟨⟨t103, t104⟩, A50, H⟩ := H
   replace H : (some (t103, t104)) = some (r1, r2) := H
   have A5 := Aside0.mk A50
   clear A50
   simp only [Option.some.injEq, Prod.mk.injEq] at H
   obtain ⟨rfl, rfl⟩ := H
   go_enter Tryd.func101, Tryd.ntmps101
   go_wp2_with (first | ((with_reducible refine gate_callee (f := 105) rfl ?_); refine goesL_ (some 13) rfl rfl Tryd.func105 (by kernel_rfl) rfl #[.int .u8 a0] rfl (by (try simp only [List.map_toArray, List.map_cons, List.map_nil]); first | done | rfl | (simp only [List.length_drop, List.length_take]; rfl)) ?_; (with_reducible refine (quote_nibble.calls k a0 t103 t104 _ A5.out).mono ?_); rintro e w' ⟨rfl, ⟨nd, rfl⟩⟩; refine ⟨_, rfl, ?_⟩))
   go_ret2
   exact ⟨by first | rfl | (simp; done) | (simp [*]; done), by repeat (first | exact Drawn0.refl _ | apply Drawn0.step)⟩
 ·rw [if_neg c2] at H
  have c2b0 : decide (65 ≤ a0) = false := decide_eq_false c2
  clear c2
  replace H := Option.bind_eq_some_iff.mp H
  obtain ⟨⟨t105, t106⟩, A60, H⟩ := H
  replace H : (some (t105, t106)) = some (r1, r2) := H
  have A6 := Aside0.mk A60
  clear A60
  simp only [Option.some.injEq, Prod.mk.injEq] at H
  obtain ⟨rfl, rfl⟩ := H
  go_enter Tryd.func101, Tryd.ntmps101
  go_wp2_with (first | ((with_reducible refine gate_callee (f := 105) rfl ?_); refine goesL_ (some 13) rfl rfl Tryd.func105 (by kernel_rfl) rfl #[.int .u8 a0] rfl (by (try simp only [List.map_toArray, List.map_cons, List.map_nil]); first | done | rfl | (simp only [List.length_drop, List.length_take]; rfl)) ?_; (with_reducible refine (quote_nibble.calls k a0 t105 t106 _ A6.out).mono ?_); rintro e w' ⟨rfl, ⟨nd, rfl⟩⟩; refine ⟨_, rfl, ?_⟩))
  go_ret2
  exact ⟨by first | rfl | (simp; done) | (simp [*]; done), by repeat (first | exact Drawn0.refl _ | apply Drawn0.step)⟩
def quote_pair.l0 : Nat → ByteArray → Int → Int → Int → Option (Int × Int × Int)
 | 0, _, _, _, _ => none
 | k + 1, x0, x1, x7, x8 => if x8 < (wrap64 (x1 + 2)) then (if x8 ≥ (x0.size : Int) then (some (0, (x0.size : Int), 10)) else (if 0 ≤ x8 then (if x8 < (x0.size : Int) then ((quote_either.f k (bt x0 x8)).bind fun bt107 => (if bt107.2 = true then (quote_pair.l0 k x0 x1 (Go.bits .or .u8 ((x7 * 16) % 256) bt107.1) (wrap64 (x8 + 1))) else (some (0, x8, 2)))) else (none)) else (none))) else (some (x7, wrap64 (x1 + 2), 0))
def quote_pair.f (k : Nat) (a0 : ByteArray) (a1 : Int) : Option (Int × Int × Int) := quote_pair.l0 k a0 a1 0 a1
set_option maxHeartbeats 8000000 in
set_option maxRecDepth 100000 in
theorem quote_pair.calls (k : Nat) (a0 : ByteArray) (a1 : Int) (r1 : Int) (r2 : Int) (r3 : Int) (w : World) (h : quote_pair.f k a0 a1 = some (r1, r2, r3)) :
  Calls Tryd.prog 92 #[.string a0, .int .i64 a1] w fun e w' => e = .returned (.tuple #[.int .u8 r1, .int .i64 r2, .int .i64 r3]) ∧ Drawn0 w w' := by
 have H : (quote_pair.l0 k a0 a1 0 a1) = some (r1, r2, r3) := h
 clear h
 have H' := Aside0.mk H
 clear H
 go_enter Tryd.func92, Tryd.ntmps92
 go_wp2
 go_loopg [7, 8] k (fun kq v7 v8 w' => ∃ (x7_1 : Int) (x8_1 : Int), v7 = .int .u8 x7_1 ∧ v8 = .int .i64 x8_1 ∧ Aside0 (quote_pair.l0 kq a0 a1 x7_1 x8_1 = some (r1, r2, r3)) ∧ Aside0 (kq ≤ k) ∧ Drawn0 w w')
 case atStart => exact ⟨(0), (a1), (by first | rfl | (simp; done) | (simp [*]; done)), (by first | rfl | (simp; done) | (simp [*]; done)), H', ⟨Nat.le_refl _⟩, by repeat (first | exact Drawn0.refl _ | apply Drawn0.step)⟩
 case round =>
  clear H'
  try clear p2
  obtain ⟨x7_1, x8_1, rfl, rfl, HA, HK1, ⟨m1, rfl⟩⟩ := hrel
  cases gk with
  | zero => exact absurd HA.out (by simp [quote_pair.l0])
  | succ k1 =>
   have H := HA.out
   clear HA
   simp only [quote_pair.l0] at H
   by_cases c3 : x8_1 < (wrap64 (a1 + 2))
   ·rw [if_pos c3] at H
    have c3b0 : decide (x8_1 < (wrap64 (a1 + 2))) = true := decide_eq_true c3
    clear c3
    by_cases c4 : x8_1 ≥ (a0.size : Int)
    ·rw [if_pos c4] at H
     have c4b0 : decide ((a0.size : Int) ≤ x8_1) = true := decide_eq_true c4
     clear c4
     simp only [Option.some.injEq, Prod.mk.injEq] at H
     obtain ⟨rfl, rfl, rfl⟩ := H
     go_wp2
     go_ret3
     exact ⟨by first | rfl | (simp; done) | (simp [*]; done), by repeat (first | exact Drawn0.refl _ | apply Drawn0.step)⟩
    ·rw [if_neg c4] at H
     have c4b0 : decide ((a0.size : Int) ≤ x8_1) = false := decide_eq_false c4
     clear c4
     by_cases c5 : 0 ≤ x8_1
     ·rw [if_pos c5] at H
      have c5b0 : decide (0 ≤ x8_1) = true := decide_eq_true c5
      clear c5
      by_cases c6 : x8_1 < (a0.size : Int)
      ·rw [if_pos c6] at H
       have c6b0 : decide (x8_1 < (a0.size : Int)) = true := decide_eq_true c6
       clear c6
       replace H := Option.bind_eq_some_iff.mp H
       obtain ⟨⟨t107, t108⟩, A80, H⟩ := H
       replace H : (if t108 = true then (quote_pair.l0 k1 a0 a1 (Go.bits .or .u8 ((x7_1 * 16) % 256) t107) (wrap64 (x8_1 + 1))) else (some (0, x8_1, 2))) = some (r1, r2, r3) := H
       have A8 := Aside0.mk A80
       clear A80
       by_cases c9 : t108 = true
       ·subst c9
        have H1 : (quote_pair.l0 k1 a0 a1 (Go.bits .or .u8 ((x7_1 * 16) % 256) t107) (wrap64 (x8_1 + 1))) = some (r1, r2, r3) := by rw [if_pos rfl] at H; exact H
        clear H
        have H := H1
        clear H1
        have H' := Aside0.mk H
        clear H
        have p7 : 0 ≤ (x8_1 : Int) := of_decide_eq_true (by assumption)
        have q7 : x8_1 < (a0.size : Int) := of_decide_eq_true (by assumption)
        have hx7 := bt_at a0 x8_1
        replace p7 := eq_true p7
        replace q7 := eq_true q7
        go_wp2_with (first | ((with_reducible refine gate_callee (f := 101) rfl ?_); refine goesL_ (some 28) rfl rfl Tryd.func101 (by kernel_rfl) rfl #[.int .u8 (bt a0 x8_1)] rfl (by (try simp only [List.map_toArray, List.map_cons, List.map_nil]); first | done | rfl | (simp only [List.length_drop, List.length_take]; rfl)) ?_; (with_reducible refine (quote_either.calls k1 (bt a0 x8_1) t107 true _ A8.out).mono ?_); rintro e w' ⟨rfl, ⟨nd, rfl⟩⟩; refine ⟨_, rfl, ?_⟩))
        go_roundg k1
        case measure => have := HK1.out; omega
        case rel => exact ⟨(Go.bits .or .u8 ((x7_1 * 16) % 256) t107), (wrap64 (x8_1 + 1)), (by first | rfl | (simp; done) | (simp [*]; done)), (by first | rfl | (simp; done) | (simp [*]; done)), H', ⟨by have := HK1.out; omega⟩, by repeat (first | exact Drawn0.refl _ | apply Drawn0.step)⟩
       ·replace c9 := Bool.eq_false_iff.mpr c9
        subst c9
        have H1 : (some (0, x8_1, 2)) = some (r1, r2, r3) := by rw [if_neg (show ¬ (false = true) by decide)] at H; exact H
        clear H
        have H := H1
        clear H1
        simp only [Option.some.injEq, Prod.mk.injEq] at H
        obtain ⟨rfl, rfl, rfl⟩ := H
        have p7 : 0 ≤ (x8_1 : Int) := of_decide_eq_true (by assumption)
        have q7 : x8_1 < (a0.size : Int) := of_decide_eq_true (by assumption)
        have hx7 := bt_at a0 x8_1
        replace p7 := eq_true p7
        replace q7 := eq_true q7
        go_wp2_with (first | ((with_reducible refine gate_callee (f := 101) rfl ?_); refine goesL_ (some 28) rfl rfl Tryd.func101 (by kernel_rfl) rfl #[.int .u8 (bt a0 x8_1)] rfl (by (try simp only [List.map_toArray, List.map_cons, List.map_nil]); first | done | rfl | (simp only [List.length_drop, List.length_take]; rfl)) ?_; (with_reducible refine (quote_either.calls k1 (bt a0 x8_1) t107 false _ A8.out).mono ?_); rintro e w' ⟨rfl, ⟨nd, rfl⟩⟩; refine ⟨_, rfl, ?_⟩))
        go_ret3
        exact ⟨by first | rfl | (simp; done) | (simp [*]; done), by repeat (first | exact Drawn0.refl _ | apply Drawn0.step)⟩
      ·rw [if_neg c6] at H
       exact absurd H (by simp)
     ·rw [if_neg c5] at H
      exact absurd H (by simp)
   ·rw [if_neg c3] at H
    have c3b0 : decide (x8_1 < (wrap64 (a1 + 2))) = false := decide_eq_false c3
    clear c3
    simp only [Option.some.injEq, Prod.mk.injEq] at H
    obtain ⟨rfl, rfl, rfl⟩ := H
    go_wp2
    go_ret3
    exact ⟨by first | rfl | (simp; done) | (simp [*]; done), by repeat (first | exact Drawn0.refl _ | apply Drawn0.step)⟩
def quote_Unquote.l0 : Nat → ByteArray → List Int → Int → Option (ByteArray × Int × Int)
 | 0, _, _, _ => none
 | k + 1, x0, x5, x6 => if x6 < (x0.size : Int) then (if 0 ≤ x6 then (if (bt x0 x6) = 34 then (some (strOfNums x5, wrap64 (x6 + 1), 0)) else (if (bt x0 x6) < 32 then (some ((⟨#[]⟩ : ByteArray), x6, 2)) else (if (bt x0 x6) = 92 then (if (wrap64 (x6 + 1)) ≥ (x0.size : Int) then (some ((⟨#[]⟩ : ByteArray), (x0.size : Int), 10)) else (if 0 ≤ (wrap64 (x6 + 1)) then (if (wrap64 (x6 + 1)) < (x0.size : Int) then (if (bt x0 (wrap64 (x6 + 1))) = 120 then ((quote_pair.f k x0 (wrap64 ((wrap64 (x6 + 1)) + 1))).bind fun bt115 => (if bt115.2.2 = 0 then (if x5.length < 140737488355328 then (quote_Unquote.l0 k x0 (x5 ++ [bt115.1]) bt115.2.1) else (none)) else (some ((⟨#[]⟩ : ByteArray), bt115.2.1, bt115.2.2)))) else ((quote_byLetter.f (bt x0 (wrap64 (x6 + 1)))).bind fun bt121 => (if bt121.2 = true then (if x5.length < 140737488355328 then (quote_Unquote.l0 k x0 (x5 ++ [bt121.1]) (wrap64 ((wrap64 (x6 + 1)) + 1))) else (none)) else (some ((⟨#[]⟩ : ByteArray), wrap64 (x6 + 1), 2))))) else (none)) else (none))) else (if x5.length < 140737488355328 then (quote_Unquote.l0 k x0 (x5 ++ [bt x0 x6]) (wrap64 (x6 + 1))) else (none))))) else (none)) else (some ((⟨#[]⟩ : ByteArray), (x0.size : Int), 10))
def quote_Unquote.f (k : Nat) (a0 : ByteArray) : Option (ByteArray × Int × Int) := if a0.toList = ([] : List UInt8) then (some ((⟨#[]⟩ : ByteArray), 0, 10)) else (if 0 < (a0.size : Int) then (if (bt a0 0) = 34 then (if 0 ≤ (a0.size : Int) then (if ((a0.size : Int) : Int).toNat ≤ 281474976710656 then (quote_Unquote.l0 k a0 (([] : List Int)) 1) else (none)) else (none)) else (some ((⟨#[]⟩ : ByteArray), 0, 2))) else (none))
set_option maxHeartbeats 8000000 in
set_option maxRecDepth 100000 in
theorem quote_Unquote.calls (k : Nat) (a0 : ByteArray) (r1 : ByteArray) (r2 : Int) (r3 : Int) (w : World) (h : quote_Unquote.f k a0 = some (r1, r2, r3)) :
  Calls Tryd.prog 79 #[.string a0] w fun e w' => e = .returned (.tuple #[.string r1, .int .i64 r2, .int .i64 r3]) ∧ Below w.heap.size w w' := by
 have HB := Aside0.mk (Below.refl w.heap.size w)
 have H : (if a0.toList = ([] : List UInt8) then (some ((⟨#[]⟩ : ByteArray), 0, 10)) else (if 0 < (a0.size : Int) then (if (bt a0 0) = 34 then (if 0 ≤ (a0.size : Int) then (if ((a0.size : Int) : Int).toNat ≤ 281474976710656 then (quote_Unquote.l0 k a0 (([] : List Int)) 1) else (none)) else (none)) else (some ((⟨#[]⟩ : ByteArray), 0, 2))) else (none))) = some (r1, r2, r3) := h
 clear h
 by_cases c2 : a0.toList = ([] : List UInt8)
 ·rw [if_pos c2] at H
  have c2b0 : (a0.toList == ([] : List UInt8)) = true := beq_iff_eq.mpr c2
  have c2b1 : (a0.toList != ([] : List UInt8)) = false := bne_eq_false_iff_eq.mpr c2
  clear c2
  simp only [Option.some.injEq, Prod.mk.injEq] at H
  obtain ⟨rfl, rfl, rfl⟩ := H
  go_enter Tryd.func79, Tryd.ntmps79
  (go_wp2; repeat (go_step3; go_wp2))
  (try rw [Exit.noGoto_ret]); go_ret3
  exact ⟨by first | rfl | (simp [errW_none, errW_some] <;> rfl) | (simp [*, errW_none, errW_some] <;> rfl), bw HB.out⟩
 ·rw [if_neg c2] at H
  have c2b0 : (a0.toList == ([] : List UInt8)) = false := beq_eq_false_iff_ne.mpr c2
  have c2b1 : (a0.toList != ([] : List UInt8)) = true := bne_iff_ne.mpr c2
  by_cases c3 : 0 < (a0.size : Int)
  ·rw [if_pos c3] at H
   have c3b0 : decide (0 < (a0.size : Int)) = true := decide_eq_true c3
   have c3b1 : decide (0 < a0.size) = true := decide_eq_true (by omega)
   clear c3
   by_cases c5 : (bt a0 0) = 34
   ·rw [if_pos c5] at H
    have c5b0 : ((bt a0 0) == 34) = true := beq_iff_eq.mpr c5
    have c5b1 : ((bt a0 0) != 34) = false := bne_eq_false_iff_eq.mpr c5
    clear c5
    by_cases c6 : 0 ≤ (a0.size : Int)
    ·rw [if_pos c6] at H
     have c6b0 := eq_true c6
     have c6b1 : decide (0 ≤ (a0.size : Int)) = true := decide_eq_true c6
     clear c6
     by_cases c7 : ((a0.size : Int) : Int).toNat ≤ 281474976710656
     ·rw [if_pos c7] at H
      have c7b0 := eq_true c7
      have c7b1 : decide (((a0.size : Int) : Int).toNat ≤ 281474976710656) = true := decide_eq_true c7
      clear c7
      obtain ⟨y109, hy109⟩ : ∃ y_ : List Int, y_ = (([] : List Int)) := ⟨_, rfl⟩
      replace H : (quote_Unquote.l0 k a0 y109 1) = some (r1, r2, r3) := by first | (rw [hy109]; with_reducible exact H) | (have H2_ := (Option.bind_some _ _).symm.trans H; rw [hy109]; with_reducible exact H2_) | (have H2_ := (Option.bind_some _ _).symm.trans H; with_reducible exact H2_) | with_reducible exact H | (rw [hy109]; exact H) | exact H
      have Ny109 := Aside0.mk hy109
      clear hy109
      have H' := Aside0.mk H
      clear H
      have p4 : 0 ≤ (0 : Int) := (by omega)
      have q4 : 0 < a0.size := (by have : (0 : Int) < (a0.size : Int) := of_decide_eq_true (by assumption); omega)
      have hx4 : ∀ h : 0 < a0.size, ((a0[0]'h).toNat : Int) = bt a0 0 := bt_at a0 0
      clear p4
      have qi4 : (0 < (a0.size : Int)) = True := eq_true (of_decide_eq_true (by assumption))
      replace q4 := eq_true q4
      go_enter Tryd.func79, Tryd.ntmps79
      (go_wp2_with (first | ((with_reducible refine gate_dst (N := 20) rfl ?_); refine R_make0 (Kd.int .u8) _ 5 rfl (N := 20) rfl 44 _ _ rfl (a0.size : Int) rfl rfl Tryd.underlying44 (.int .u8 0) 1 info5 rfl (by decide) (by omega) 0 (ok := fun _ => True) (okp := fun _ => True) rfl (fun _ hk => hk) trivial (of_decide_eq_true (by assumption)) (Nat.le_trans (Nat.mul_le_mul_right _ (of_decide_eq_true (by assumption) : (a0.size : Int).toNat ≤ 281474976710656)) (by omega)) (Below.refl _ _) (Nat.le_refl _) ?_; intro v110 w8 ho9 hb hg_ hnew_; clear hg_ hnew_; (first | rw [← Ny109.out] at ho9 | (simp only [Int.reduceToNat] at ho9; rw [← Ny109.out] at ho9)); have n0_ := Aside0.mk (Kd.R_lower ho9 (below_size (bw HB.out))); have n1_ := Aside0.mk (below_step (bw HB.out) hb); clear HB; have HO111 := n0_; have HB := n1_; clear n0_ n1_; clear hb ho9)); repeat (go_step3; go_wp2_with (first | ((with_reducible refine gate_dst (N := 20) rfl ?_); refine R_make0 (Kd.int .u8) _ 5 rfl (N := 20) rfl 44 _ _ rfl (a0.size : Int) rfl rfl Tryd.underlying44 (.int .u8 0) 1 info5 rfl (by decide) (by omega) 0 (ok := fun _ => True) (okp := fun _ => True) rfl (fun _ hk => hk) trivial (of_decide_eq_true (by assumption)) (Nat.le_trans (Nat.mul_le_mul_right _ (of_decide_eq_true (by assumption) : (a0.size : Int).toNat ≤ 281474976710656)) (by omega)) (Below.refl _ _) (Nat.le_refl _) ?_; intro v110 w8 ho9 hb hg_ hnew_; clear hg_ hnew_; (first | rw [← Ny109.out] at ho9 | (simp only [Int.reduceToNat] at ho9; rw [← Ny109.out] at ho9)); have n0_ := Aside0.mk (Kd.R_lower ho9 (below_size (bw HB.out))); have n1_ := Aside0.mk (below_step (bw HB.out) hb); clear HB; have HO111 := n0_; have HB := n1_; clear n0_ n1_; clear hb ho9))))
      go_loopg [5, 6] k (fun kq v5 v6 w' => ∃ (x5_1 : List Int) (x6_1 : Int), v6 = .int .i64 x6_1 ∧ Aside0 (quote_Unquote.l0 kq a0 x5_1 x6_1 = some (r1, r2, r3)) ∧ Aside0 (kq ≤ k) ∧ Aside0 (Kd.R (Kd.int .u8) 5 w' w.heap.size (fun _ => True) v5 x5_1) ∧ Aside0 (Below w.heap.size w w'))
      case atStart => exact ⟨(y109), (1), (by first | rfl | (simp; done) | (simp [*]; done)), H', ⟨Nat.le_refl _⟩, ⟨by (with_reducible repeat (first | apply Kd.R_alloc | apply Kd.R_drewN | apply Kd.R_drew)); exact HO111.out⟩, ⟨bw HB.out⟩⟩
      case round =>
       clear H'
       try clear c2
       try clear c2b0
       try clear c2b1
       try clear p2
       try clear c3
       try clear c3b0
       try clear c3b1
       try clear p4
       try clear q4
       try clear hx4
       try clear qi4
       try clear c5
       try clear c5b0
       try clear c5b1
       try clear c6
       try clear c6b0
       try clear c6b1
       try clear c7
       try clear c7b0
       try clear c7b1
       try clear p4
       try clear q4
       obtain ⟨x5_1, x6_1, rfl, HA, HK1, HO_5, HB⟩ := hrel
       cases gk with
       | zero => exact absurd HA.out (by simp [quote_Unquote.l0])
       | succ k1 =>
        have H := HA.out
        clear HA
        simp only [quote_Unquote.l0] at H
        by_cases c10 : x6_1 < (a0.size : Int)
        ·rw [if_pos c10] at H
         have c10b0 : decide (x6_1 < (a0.size : Int)) = true := decide_eq_true c10
         clear c10
         by_cases c11 : 0 ≤ x6_1
         ·rw [if_pos c11] at H
          have c11b0 : decide (0 ≤ x6_1) = true := decide_eq_true c11
          clear c11
          by_cases c13 : (bt a0 x6_1) = 34
          ·rw [if_pos c13] at H
           have c13b0 : ((bt a0 x6_1) == 34) = true := beq_iff_eq.mpr c13
           have c13b1 : ((bt a0 x6_1) != 34) = false := bne_eq_false_iff_eq.mpr c13
           clear c13
           simp only [Option.some.injEq, Prod.mk.injEq] at H
           obtain ⟨rfl, rfl, rfl⟩ := H
           have p12 : 0 ≤ (x6_1 : Int) := of_decide_eq_true (by assumption)
           have q12 : x6_1 < (a0.size : Int) := of_decide_eq_true (by assumption)
           have hx12 := bt_at a0 x6_1
           replace p12 := eq_true p12
           replace q12 := eq_true q12
           have hcv14 := own_string (P := Tryd.prog) Tryd.underlying44 Tryd.underlying5 Tryd.underlying9 (Kd.own_of_R HO_5.out)
           (go_wp2; repeat (go_step3; go_wp2))
           (try rw [Exit.noGoto_ret]); go_ret3
           exact ⟨by first | rfl | (simp [errW_none, errW_some] <;> rfl) | (simp [*, errW_none, errW_some] <;> rfl), bw HB.out⟩
          ·rw [if_neg c13] at H
           have c13b0 : ((bt a0 x6_1) == 34) = false := beq_eq_false_iff_ne.mpr c13
           have c13b1 : ((bt a0 x6_1) != 34) = true := bne_iff_ne.mpr c13
           by_cases c15 : (bt a0 x6_1) < 32
           ·rw [if_pos c15] at H
            have c15b0 : decide ((bt a0 x6_1) < 32) = true := decide_eq_true c15
            clear c15
            simp only [Option.some.injEq, Prod.mk.injEq] at H
            obtain ⟨rfl, rfl, rfl⟩ := H
            have p12 : 0 ≤ (x6_1 : Int) := of_decide_eq_true (by assumption)
            have q12 : x6_1 < (a0.size : Int) := of_decide_eq_true (by assumption)
            have hx12 := bt_at a0 x6_1
            replace p12 := eq_true p12
            replace q12 := eq_true q12
            (go_wp2; repeat (go_step3; go_wp2))
            (try rw [Exit.noGoto_ret]); go_ret3
            exact ⟨by first | rfl | (simp [errW_none, errW_some] <;> rfl) | (simp [*, errW_none, errW_some] <;> rfl), bw HB.out⟩
           ·rw [if_neg c15] at H
            have c15b0 : decide ((bt a0 x6_1) < 32) = false := decide_eq_false c15
            clear c15
            by_cases c16 : (bt a0 x6_1) = 92
            ·rw [if_pos c16] at H
             have c16b0 : ((bt a0 x6_1) == 92) = true := beq_iff_eq.mpr c16
             have c16b1 : ((bt a0 x6_1) != 92) = false := bne_eq_false_iff_eq.mpr c16
             clear c16
             by_cases c17 : (wrap64 (x6_1 + 1)) ≥ (a0.size : Int)
             ·rw [if_pos c17] at H
              have c17b0 : decide ((a0.size : Int) ≤ (wrap64 (x6_1 + 1))) = true := decide_eq_true c17
              clear c17
              simp only [Option.some.injEq, Prod.mk.injEq] at H
              obtain ⟨rfl, rfl, rfl⟩ := H
              have p12 : 0 ≤ (x6_1 : Int) := of_decide_eq_true (by assumption)
              have q12 : x6_1 < (a0.size : Int) := of_decide_eq_true (by assumption)
              have hx12 := bt_at a0 x6_1
              replace p12 := eq_true p12
              replace q12 := eq_true q12
              (go_wp2; repeat (go_step3; go_wp2))
              (try rw [Exit.noGoto_ret]); go_ret3
              exact ⟨by first | rfl | (simp [errW_none, errW_some] <;> rfl) | (simp [*, errW_none, errW_some] <;> rfl), bw HB.out⟩
             ·rw [if_neg c17] at H
              have c17b0 : decide ((a0.size : Int) ≤ (wrap64 (x6_1 + 1))) = false := decide_eq_false c17
              clear c17
              obtain ⟨ji18, hji18⟩ : ∃ j_ : Int, (wrap64 (x6_1 + 1)) = j_ := ⟨_, rfl⟩
              replace H : (if 0 ≤ (ji18) then (if (ji18) < (a0.size : Int) then (if (bt a0 (ji18)) = 120 then ((quote_pair.f k1 a0 (wrap64 ((ji18) + 1))).bind fun bt115 => (if bt115.2.2 = 0 then (if x5_1.length < 140737488355328 then (quote_Unquote.l0 k1 a0 (x5_1 ++ [bt115.1]) bt115.2.1) else (none)) else (some ((⟨#[]⟩ : ByteArray), bt115.2.1, bt115.2.2)))) else ((quote_byLetter.f (bt a0 (ji18))).bind fun bt121 => (if bt121.2 = true then (if x5_1.length < 140737488355328 then (quote_Unquote.l0 k1 a0 (x5_1 ++ [bt121.1]) (wrap64 ((ji18) + 1))) else (none)) else (some ((⟨#[]⟩ : ByteArray), ji18, 2))))) else (none)) else (none)) = some (r1, r2, r3) := by first | (rw [hji18] at H; exact H) | (simp only [hji18] at H ⊢; exact H)
              (try rw [hji18] at c17b0)
              have hji18w : (IntKind.i64.wrap (x6_1 + 1)) = ji18 := (i64_w _).trans hji18
              by_cases c19 : 0 ≤ (ji18)
              ·rw [if_pos c19] at H
               have c19b0 : decide (0 ≤ (ji18)) = true := decide_eq_true c19
               clear c19
               by_cases c20 : (ji18) < (a0.size : Int)
               ·rw [if_pos c20] at H
                have c20b0 : decide ((ji18) < (a0.size : Int)) = true := decide_eq_true c20
                clear c20
                by_cases c22 : (bt a0 (ji18)) = 120
                ·rw [if_pos c22] at H
                 have c22b0 : ((bt a0 (ji18)) == 120) = true := beq_iff_eq.mpr c22
                 have c22b1 : ((bt a0 (ji18)) != 120) = false := bne_eq_false_iff_eq.mpr c22
                 clear c22
                 replace H := Option.bind_eq_some_iff.mp H
                 obtain ⟨⟨t115, t116, t117⟩, A230, H⟩ := H
                 replace H : (if t117 = 0 then (if x5_1.length < 140737488355328 then (quote_Unquote.l0 k1 a0 (x5_1 ++ [t115]) t116) else (none)) else (some ((⟨#[]⟩ : ByteArray), t116, t117))) = some (r1, r2, r3) := H
                 have A23 := Aside0.mk A230
                 clear A230
                 by_cases c24 : t117 = 0
                 ·rw [if_pos c24] at H
                  have c24b0 : (t117 == 0) = true := beq_iff_eq.mpr c24
                  have c24b1 : (t117 != 0) = false := bne_eq_false_iff_eq.mpr c24
                  clear c24
                  by_cases c25 : x5_1.length < 140737488355328
                  ·rw [if_pos c25] at H
                   have LMc25 := Aside0.mk c25
                   clear c25
                   obtain ⟨y118, hy118⟩ : ∃ y_ : List Int, y_ = (x5_1 ++ [t115]) := ⟨_, rfl⟩
                   replace H : (quote_Unquote.l0 k1 a0 y118 t116) = some (r1, r2, r3) := by first | (rw [hy118]; with_reducible exact H) | (have H2_ := (Option.bind_some _ _).symm.trans H; rw [hy118]; with_reducible exact H2_) | (have H2_ := (Option.bind_some _ _).symm.trans H; with_reducible exact H2_) | with_reducible exact H | (rw [hy118]; exact H) | exact H
                   have Ny118 := Aside0.mk hy118
                   clear hy118
                   have H' := Aside0.mk H
                   clear H
                   have p12 : 0 ≤ (x6_1 : Int) := of_decide_eq_true (by assumption)
                   have q12 : x6_1 < (a0.size : Int) := of_decide_eq_true (by assumption)
                   have hx12 := bt_at a0 x6_1
                   replace p12 := eq_true p12
                   replace q12 := eq_true q12
                   have p21 : 0 ≤ ((ji18) : Int) := of_decide_eq_true (by assumption)
                   have q21 : (ji18) < (a0.size : Int) := of_decide_eq_true (by assumption)
                   have hx21 := bt_at a0 (ji18)
                   replace p21 := eq_true p21
                   replace q21 := eq_true q21
                   (go_wp2_with (first | ((with_reducible refine gate_callee (f := 92) rfl ?_); refine goesL_ (some 62) rfl rfl Tryd.func92 (by kernel_rfl) rfl #[.string a0, .int .i64 (wrap64 ((ji18) + 1))] rfl (by (try simp only [List.map_toArray, List.map_cons, List.map_nil]); first | done | (simp only [hji18]; rfl) | rfl | (simp only [List.length_drop, List.length_take]; rfl)) ?_; (with_reducible refine (quote_pair.calls k1 a0 (wrap64 ((ji18) + 1)) t115 t116 t117 _ A23.out).mono ?_); rintro e w' ⟨rfl, ⟨nd, rfl⟩⟩; refine ⟨_, rfl, ?_⟩) | ((with_reducible refine gate_builtin (b := .append) (xs := #[.tmp 70, .tmp 72]) rfl ?_); at_builtin; refine Kd.R_append (Kd.int .u8) (w0 := w) w.heap.size rfl (.tmp 70) (.tmp 72) 44 5 (.int .u8 0) 1 rfl Tryd.underlying44 info5 rfl (by decide) (by omega) u5 x5_1 t115 [.int .u8 t115] (fun _ => True) (fun _ => False) rfl rfl ?aP (fun _ hk => hk.elim) ?aF ?aO ?aB ?aS ?aL ?_; (case aP => exact rfl); (case aB => exact (bw HB.out)); (case aF => exact (fun _ _ => trivial)); (case aO => exact (br HO_5.out)); (case aS => exact (below_size (bw HB.out))); (case aL => have := LMc25.out; omega); intro v119 w26 ho hb hg hat; rw [← Ny118.out] at ho; have n0_ := Aside0.mk (hb); have n1_ := Aside0.mk (ho); clear HB; clear HO_5; have HB := n0_; have HO120 := n1_; clear n0_ n1_; clear ho hb hg hat)); repeat (go_step3; go_wp2_with (first | ((with_reducible refine gate_callee (f := 92) rfl ?_); refine goesL_ (some 62) rfl rfl Tryd.func92 (by kernel_rfl) rfl #[.string a0, .int .i64 (wrap64 ((ji18) + 1))] rfl (by (try simp only [List.map_toArray, List.map_cons, List.map_nil]); first | done | (simp only [hji18]; rfl) | rfl | (simp only [List.length_drop, List.length_take]; rfl)) ?_; (with_reducible refine (quote_pair.calls k1 a0 (wrap64 ((ji18) + 1)) t115 t116 t117 _ A23.out).mono ?_); rintro e w' ⟨rfl, ⟨nd, rfl⟩⟩; refine ⟨_, rfl, ?_⟩) | ((with_reducible refine gate_builtin (b := .append) (xs := #[.tmp 70, .tmp 72]) rfl ?_); at_builtin; refine Kd.R_append (Kd.int .u8) (w0 := w) w.heap.size rfl (.tmp 70) (.tmp 72) 44 5 (.int .u8 0) 1 rfl Tryd.underlying44 info5 rfl (by decide) (by omega) u5 x5_1 t115 [.int .u8 t115] (fun _ => True) (fun _ => False) rfl rfl ?aP (fun _ hk => hk.elim) ?aF ?aO ?aB ?aS ?aL ?_; (case aP => exact rfl); (case aB => exact (bw HB.out)); (case aF => exact (fun _ _ => trivial)); (case aO => exact (br HO_5.out)); (case aS => exact (below_size (bw HB.out))); (case aL => have := LMc25.out; omega); intro v119 w26 ho hb hg hat; rw [← Ny118.out] at ho; have n0_ := Aside0.mk (hb); have n1_ := Aside0.mk (ho); clear HB; clear HO_5; have HB := n0_; have HO120 := n1_; clear n0_ n1_; clear ho hb hg hat))))
                   go_roundg k1
                   case measure => have := HK1.out; omega
                   case rel => exact ⟨(y118), (t116), (by first | rfl | (simp; done) | (simp [*]; done)), H', ⟨by have := HK1.out; omega⟩, ⟨by (with_reducible repeat (first | apply Kd.R_alloc | apply Kd.R_drewN | apply Kd.R_drew)); exact HO120.out⟩, ⟨bw HB.out⟩⟩
                  ·rw [if_neg c25] at H
                   exact absurd H (by simp)
                 ·rw [if_neg c24] at H
                  have c24b0 : (t117 == 0) = false := beq_eq_false_iff_ne.mpr c24
                  have c24b1 : (t117 != 0) = true := bne_iff_ne.mpr c24
                  simp only [Option.some.injEq, Prod.mk.injEq] at H
                  obtain ⟨rfl, rfl, rfl⟩ := H
                  have p12 : 0 ≤ (x6_1 : Int) := of_decide_eq_true (by assumption)
                  have q12 : x6_1 < (a0.size : Int) := of_decide_eq_true (by assumption)
                  have hx12 := bt_at a0 x6_1
                  replace p12 := eq_true p12
                  replace q12 := eq_true q12
                  have p21 : 0 ≤ ((ji18) : Int) := of_decide_eq_true (by assumption)
                  have q21 : (ji18) < (a0.size : Int) := of_decide_eq_true (by assumption)
                  have hx21 := bt_at a0 (ji18)
                  replace p21 := eq_true p21
                  replace q21 := eq_true q21
                  (go_wp2_with (first | ((with_reducible refine gate_callee (f := 92) rfl ?_); refine goesL_ (some 62) rfl rfl Tryd.func92 (by kernel_rfl) rfl #[.string a0, .int .i64 (wrap64 ((ji18) + 1))] rfl (by (try simp only [List.map_toArray, List.map_cons, List.map_nil]); first | done | (simp only [hji18]; rfl) | rfl | (simp only [List.length_drop, List.length_take]; rfl)) ?_; (with_reducible refine (quote_pair.calls k1 a0 (wrap64 ((ji18) + 1)) t115 t116 t117 _ A23.out).mono ?_); rintro e w' ⟨rfl, ⟨nd, rfl⟩⟩; refine ⟨_, rfl, ?_⟩)); repeat (go_step3; go_wp2_with (first | ((with_reducible refine gate_callee (f := 92) rfl ?_); refine goesL_ (some 62) rfl rfl Tryd.func92 (by kernel_rfl) rfl #[.string a0, .int .i64 (wrap64 ((ji18) + 1))] rfl (by (try simp only [List.map_toArray, List.map_cons, List.map_nil]); first | done | (simp only [hji18]; rfl) | rfl | (simp only [List.length_drop, List.length_take]; rfl)) ?_; (with_reducible refine (quote_pair.calls k1 a0 (wrap64 ((ji18) + 1)) t115 t116 t117 _ A23.out).mono ?_); rintro e w' ⟨rfl, ⟨nd, rfl⟩⟩; refine ⟨_, rfl, ?_⟩))))
                  (try rw [Exit.noGoto_ret]); go_ret3
                  exact ⟨by first | rfl | (simp [errW_none, errW_some] <;> rfl) | (simp only [← hji18]; first | rfl | (simp [errW_none, errW_some] <;> rfl)) | (simp [*, errW_none, errW_some] <;> rfl), bw HB.out⟩
                ·rw [if_neg c22] at H
                 have c22b0 : ((bt a0 (ji18)) == 120) = false := beq_eq_false_iff_ne.mpr c22
                 have c22b1 : ((bt a0 (ji18)) != 120) = true := bne_iff_ne.mpr c22
                 replace H := Option.bind_eq_some_iff.mp H
                 obtain ⟨⟨t121, t122⟩, A280, H⟩ := H
                 replace H : (if t122 = true then (if x5_1.length < 140737488355328 then (quote_Unquote.l0 k1 a0 (x5_1 ++ [t121]) (wrap64 ((ji18) + 1))) else (none)) else (some ((⟨#[]⟩ : ByteArray), ji18, 2))) = some (r1, r2, r3) := H
                 have A28 := Aside0.mk A280
                 clear A280
                 by_cases c29 : t122 = true
                 ·subst c29
                  have H1 : (if x5_1.length < 140737488355328 then (quote_Unquote.l0 k1 a0 (x5_1 ++ [t121]) (wrap64 ((ji18) + 1))) else (none)) = some (r1, r2, r3) := by rw [if_pos rfl] at H; exact H
                  clear H
                  have H := H1
                  clear H1
                  by_cases c30 : x5_1.length < 140737488355328
                  ·rw [if_pos c30] at H
                   have LMc30 := Aside0.mk c30
                   clear c30
                   obtain ⟨y123, hy123⟩ : ∃ y_ : List Int, y_ = (x5_1 ++ [t121]) := ⟨_, rfl⟩
                   replace H : (quote_Unquote.l0 k1 a0 y123 (wrap64 ((ji18) + 1))) = some (r1, r2, r3) := by first | (rw [hy123]; with_reducible exact H) | (have H2_ := (Option.bind_some _ _).symm.trans H; rw [hy123]; with_reducible exact H2_) | (have H2_ := (Option.bind_some _ _).symm.trans H; with_reducible exact H2_) | with_reducible exact H | (rw [hy123]; exact H) | exact H
                   have Ny123 := Aside0.mk hy123
                   clear hy123
                   have H' := Aside0.mk H
                   clear H
                   have p12 : 0 ≤ (x6_1 : Int) := of_decide_eq_true (by assumption)
                   have q12 : x6_1 < (a0.size : Int) := of_decide_eq_true (by assumption)
                   have hx12 := bt_at a0 x6_1
                   replace p12 := eq_true p12
                   replace q12 := eq_true q12
                   have p21 : 0 ≤ ((ji18) : Int) := of_decide_eq_true (by assumption)
                   have q21 : (ji18) < (a0.size : Int) := of_decide_eq_true (by assumption)
                   have hx21 := bt_at a0 (ji18)
                   replace p21 := eq_true p21
                   replace q21 := eq_true q21
                   have p27 : 0 ≤ ((ji18) : Int) := of_decide_eq_true (by assumption)
                   have q27 : (ji18) < (a0.size : Int) := of_decide_eq_true (by assumption)
                   have hx27 := bt_at a0 (ji18)
                   replace p27 := eq_true p27
                   replace q27 := eq_true q27
                   (go_wp2_with (first | ((with_reducible refine gate_callee (f := 93) rfl ?_); refine goesL_ (some 79) rfl rfl Tryd.func93 (by kernel_rfl) rfl #[.int .u8 (bt a0 (ji18))] rfl (by (try simp only [List.map_toArray, List.map_cons, List.map_nil]); first | done | (simp only [hji18]; rfl) | rfl | (simp only [List.length_drop, List.length_take]; rfl)) ?_; (with_reducible refine (quote_byLetter.calls (bt a0 (ji18)) t121 true _ A28.out).mono ?_); rintro e w31 ⟨rfl, hb⟩; refine ⟨_, rfl, ?_⟩; have n0_ := Aside0.mk (Kd.R_below (br HO_5.out) hb); have n1_ := Aside0.mk (below_step (bw HB.out) hb); clear HO_5; clear HB; have HO_5 := n0_; have HB := n1_; clear n0_ n1_; (try clear hb); (try clear hb2); (try clear hk); (try clear hi)) | ((with_reducible refine gate_builtin (b := .append) (xs := #[.tmp 85, .tmp 87]) rfl ?_); at_builtin; refine Kd.R_append (Kd.int .u8) (w0 := w) w.heap.size rfl (.tmp 85) (.tmp 87) 44 5 (.int .u8 0) 1 rfl Tryd.underlying44 info5 rfl (by decide) (by omega) u5 x5_1 t121 [.int .u8 t121] (fun _ => True) (fun _ => False) rfl rfl ?aP (fun _ hk => hk.elim) ?aF ?aO ?aB ?aS ?aL ?_; (case aP => exact rfl); (case aB => exact (bw HB.out)); (case aF => exact (fun _ _ => trivial)); (case aO => exact (br HO_5.out)); (case aS => exact (below_size (bw HB.out))); (case aL => have := LMc30.out; omega); intro v124 w32 ho hb hg hat; rw [← Ny123.out] at ho; have n0_ := Aside0.mk (hb); have n1_ := Aside0.mk (ho); clear HB; clear HO_5; have HB := n0_; have HO125 := n1_; clear n0_ n1_; clear ho hb hg hat)); repeat (go_step3; go_wp2_with (first | ((with_reducible refine gate_callee (f := 93) rfl ?_); refine goesL_ (some 79) rfl rfl Tryd.func93 (by kernel_rfl) rfl #[.int .u8 (bt a0 (ji18))] rfl (by (try simp only [List.map_toArray, List.map_cons, List.map_nil]); first | done | (simp only [hji18]; rfl) | rfl | (simp only [List.length_drop, List.length_take]; rfl)) ?_; (with_reducible refine (quote_byLetter.calls (bt a0 (ji18)) t121 true _ A28.out).mono ?_); rintro e w31 ⟨rfl, hb⟩; refine ⟨_, rfl, ?_⟩; have n0_ := Aside0.mk (Kd.R_below (br HO_5.out) hb); have n1_ := Aside0.mk (below_step (bw HB.out) hb); clear HO_5; clear HB; have HO_5 := n0_; have HB := n1_; clear n0_ n1_; (try clear hb); (try clear hb2); (try clear hk); (try clear hi)) | ((with_reducible refine gate_builtin (b := .append) (xs := #[.tmp 85, .tmp 87]) rfl ?_); at_builtin; refine Kd.R_append (Kd.int .u8) (w0 := w) w.heap.size rfl (.tmp 85) (.tmp 87) 44 5 (.int .u8 0) 1 rfl Tryd.underlying44 info5 rfl (by decide) (by omega) u5 x5_1 t121 [.int .u8 t121] (fun _ => True) (fun _ => False) rfl rfl ?aP (fun _ hk => hk.elim) ?aF ?aO ?aB ?aS ?aL ?_; (case aP => exact rfl); (case aB => exact (bw HB.out)); (case aF => exact (fun _ _ => trivial)); (case aO => exact (br HO_5.out)); (case aS => exact (below_size (bw HB.out))); (case aL => have := LMc30.out; omega); intro v124 w32 ho hb hg hat; rw [← Ny123.out] at ho; have n0_ := Aside0.mk (hb); have n1_ := Aside0.mk (ho); clear HB; clear HO_5; have HB := n0_; have HO125 := n1_; clear n0_ n1_; clear ho hb hg hat))))
                   go_roundg k1
                   case measure => have := HK1.out; omega
                   case rel => exact ⟨(y123), (wrap64 ((ji18) + 1)), (by first | rfl | (simp; done) | (simp only [← hji18] <;> (first | rfl | simp)) | (simp [*]; done)), H', ⟨by have := HK1.out; omega⟩, ⟨by (with_reducible repeat (first | apply Kd.R_alloc | apply Kd.R_drewN | apply Kd.R_drew)); exact HO125.out⟩, ⟨bw HB.out⟩⟩
                  ·rw [if_neg c30] at H
                   exact absurd H (by simp)
                 ·replace c29 := Bool.eq_false_iff.mpr c29
                  subst c29
                  have H1 : (some ((⟨#[]⟩ : ByteArray), ji18, 2)) = some (r1, r2, r3) := by rw [if_neg (show ¬ (false = true) by decide)] at H; exact H
                  clear H
                  have H := H1
                  clear H1
                  simp only [Option.some.injEq, Prod.mk.injEq] at H
                  obtain ⟨rfl, rfl, rfl⟩ := H
                  have p12 : 0 ≤ (x6_1 : Int) := of_decide_eq_true (by assumption)
                  have q12 : x6_1 < (a0.size : Int) := of_decide_eq_true (by assumption)
                  have hx12 := bt_at a0 x6_1
                  replace p12 := eq_true p12
                  replace q12 := eq_true q12
                  have p21 : 0 ≤ ((ji18) : Int) := of_decide_eq_true (by assumption)
                  have q21 : (ji18) < (a0.size : Int) := of_decide_eq_true (by assumption)
                  have hx21 := bt_at a0 (ji18)
                  replace p21 := eq_true p21
                  replace q21 := eq_true q21
                  have p27 : 0 ≤ ((ji18) : Int) := of_decide_eq_true (by assumption)
                  have q27 : (ji18) < (a0.size : Int) := of_decide_eq_true (by assumption)
                  have hx27 := bt_at a0 (ji18)
                  replace p27 := eq_true p27
                  replace q27 := eq_true q27
                  (go_wp2_with (first | ((with_reducible refine gate_callee (f := 93) rfl ?_); refine goesL_ (some 79) rfl rfl Tryd.func93 (by kernel_rfl) rfl #[.int .u8 (bt a0 (ji18))] rfl (by (try simp only [List.map_toArray, List.map_cons, List.map_nil]); first | done | (simp only [hji18]; rfl) | rfl | (simp only [List.length_drop, List.length_take]; rfl)) ?_; (with_reducible refine (quote_byLetter.calls (bt a0 (ji18)) t121 false _ A28.out).mono ?_); rintro e w33 ⟨rfl, hb⟩; refine ⟨_, rfl, ?_⟩; have n0_ := Aside0.mk (Kd.R_below (br HO_5.out) hb); have n1_ := Aside0.mk (below_step (bw HB.out) hb); clear HO_5; clear HB; have HO_5 := n0_; have HB := n1_; clear n0_ n1_; (try clear hb); (try clear hb2); (try clear hk); (try clear hi))); repeat (go_step3; go_wp2_with (first | ((with_reducible refine gate_callee (f := 93) rfl ?_); refine goesL_ (some 79) rfl rfl Tryd.func93 (by kernel_rfl) rfl #[.int .u8 (bt a0 (ji18))] rfl (by (try simp only [List.map_toArray, List.map_cons, List.map_nil]); first | done | (simp only [hji18]; rfl) | rfl | (simp only [List.length_drop, List.length_take]; rfl)) ?_; (with_reducible refine (quote_byLetter.calls (bt a0 (ji18)) t121 false _ A28.out).mono ?_); rintro e w33 ⟨rfl, hb⟩; refine ⟨_, rfl, ?_⟩; have n0_ := Aside0.mk (Kd.R_below (br HO_5.out) hb); have n1_ := Aside0.mk (below_step (bw HB.out) hb); clear HO_5; clear HB; have HO_5 := n0_; have HB := n1_; clear n0_ n1_; (try clear hb); (try clear hb2); (try clear hk); (try clear hi)))))
                  (try rw [Exit.noGoto_ret]); go_ret3
                  exact ⟨by first | rfl | (simp [errW_none, errW_some] <;> rfl) | (simp only [← hji18]; first | rfl | (simp [errW_none, errW_some] <;> rfl)) | (simp [*, errW_none, errW_some] <;> rfl), bw HB.out⟩
               ·rw [if_neg c20] at H
                exact absurd H (by simp)
              ·rw [if_neg c19] at H
               exact absurd H (by simp)
            ·rw [if_neg c16] at H
             have c16b0 : ((bt a0 x6_1) == 92) = false := beq_eq_false_iff_ne.mpr c16
             have c16b1 : ((bt a0 x6_1) != 92) = true := bne_iff_ne.mpr c16
             by_cases c34 : x5_1.length < 140737488355328
             ·rw [if_pos c34] at H
              have LMc34 := Aside0.mk c34
              clear c34
              obtain ⟨y112, hy112⟩ : ∃ y_ : List Int, y_ = (x5_1 ++ [bt a0 x6_1]) := ⟨_, rfl⟩
              replace H : (quote_Unquote.l0 k1 a0 y112 (wrap64 (x6_1 + 1))) = some (r1, r2, r3) := by first | (rw [hy112]; with_reducible exact H) | (have H2_ := (Option.bind_some _ _).symm.trans H; rw [hy112]; with_reducible exact H2_) | (have H2_ := (Option.bind_some _ _).symm.trans H; with_reducible exact H2_) | with_reducible exact H | (rw [hy112]; exact H) | exact H
              have Ny112 := Aside0.mk hy112
              clear hy112
              have H' := Aside0.mk H
              clear H
              have p12 : 0 ≤ (x6_1 : Int) := of_decide_eq_true (by assumption)
              have q12 : x6_1 < (a0.size : Int) := of_decide_eq_true (by assumption)
              have hx12 := bt_at a0 x6_1
              replace p12 := eq_true p12
              replace q12 := eq_true q12
              (go_wp2_with (first | ((with_reducible refine gate_builtin (b := .append) (xs := #[.tmp 42, .tmp 44]) rfl ?_); at_builtin; refine Kd.R_append (Kd.int .u8) (w0 := w) w.heap.size rfl (.tmp 42) (.tmp 44) 44 5 (.int .u8 0) 1 rfl Tryd.underlying44 info5 rfl (by decide) (by omega) u5 x5_1 (bt a0 x6_1) [.int .u8 (bt a0 x6_1)] (fun _ => True) (fun _ => False) rfl rfl ?aP (fun _ hk => hk.elim) ?aF ?aO ?aB ?aS ?aL ?_; (case aP => exact rfl); (case aB => exact (bw HB.out)); (case aF => exact (fun _ _ => trivial)); (case aO => exact (br HO_5.out)); (case aS => exact (below_size (bw HB.out))); (case aL => have := LMc34.out; omega); intro v113 w35 ho hb hg hat; rw [← Ny112.out] at ho; have n0_ := Aside0.mk (hb); have n1_ := Aside0.mk (ho); clear HB; clear HO_5; have HB := n0_; have HO114 := n1_; clear n0_ n1_; clear ho hb hg hat)); repeat (go_step3; go_wp2_with (first | ((with_reducible refine gate_builtin (b := .append) (xs := #[.tmp 42, .tmp 44]) rfl ?_); at_builtin; refine Kd.R_append (Kd.int .u8) (w0 := w) w.heap.size rfl (.tmp 42) (.tmp 44) 44 5 (.int .u8 0) 1 rfl Tryd.underlying44 info5 rfl (by decide) (by omega) u5 x5_1 (bt a0 x6_1) [.int .u8 (bt a0 x6_1)] (fun _ => True) (fun _ => False) rfl rfl ?aP (fun _ hk => hk.elim) ?aF ?aO ?aB ?aS ?aL ?_; (case aP => exact rfl); (case aB => exact (bw HB.out)); (case aF => exact (fun _ _ => trivial)); (case aO => exact (br HO_5.out)); (case aS => exact (below_size (bw HB.out))); (case aL => have := LMc34.out; omega); intro v113 w35 ho hb hg hat; rw [← Ny112.out] at ho; have n0_ := Aside0.mk (hb); have n1_ := Aside0.mk (ho); clear HB; clear HO_5; have HB := n0_; have HO114 := n1_; clear n0_ n1_; clear ho hb hg hat))))
              go_roundg k1
              case measure => have := HK1.out; omega
              case rel => exact ⟨(y112), (wrap64 (x6_1 + 1)), (by first | rfl | (simp; done) | (simp [*]; done)), H', ⟨by have := HK1.out; omega⟩, ⟨by (with_reducible repeat (first | apply Kd.R_alloc | apply Kd.R_drewN | apply Kd.R_drew)); exact HO114.out⟩, ⟨bw HB.out⟩⟩
             ·rw [if_neg c34] at H
              exact absurd H (by simp)
         ·rw [if_neg c11] at H
          exact absurd H (by simp)
        ·rw [if_neg c10] at H
         have c10b0 : decide (x6_1 < (a0.size : Int)) = false := decide_eq_false c10
         clear c10
         simp only [Option.some.injEq, Prod.mk.injEq] at H
         obtain ⟨rfl, rfl, rfl⟩ := H
         (go_wp2; repeat (go_step3; go_wp2))
         (try rw [Exit.noGoto_ret]); go_ret3
         exact ⟨by first | rfl | (simp [errW_none, errW_some] <;> rfl) | (simp [*, errW_none, errW_some] <;> rfl), bw HB.out⟩
     ·rw [if_neg c7] at H
      exact absurd H (by simp)
    ·rw [if_neg c6] at H
     exact absurd H (by simp)
   ·rw [if_neg c5] at H
    have c5b0 : ((bt a0 0) == 34) = false := beq_eq_false_iff_ne.mpr c5
    have c5b1 : ((bt a0 0) != 34) = true := bne_iff_ne.mpr c5
    simp only [Option.some.injEq, Prod.mk.injEq] at H
    obtain ⟨rfl, rfl, rfl⟩ := H
    have p4 : 0 ≤ (0 : Int) := (by omega)
    have q4 : 0 < a0.size := (by have : (0 : Int) < (a0.size : Int) := of_decide_eq_true (by assumption); omega)
    have hx4 : ∀ h : 0 < a0.size, ((a0[0]'h).toNat : Int) = bt a0 0 := bt_at a0 0
    clear p4
    have qi4 : (0 < (a0.size : Int)) = True := eq_true (of_decide_eq_true (by assumption))
    replace q4 := eq_true q4
    go_enter Tryd.func79, Tryd.ntmps79
    (go_wp2; repeat (go_step3; go_wp2))
    (try rw [Exit.noGoto_ret]); go_ret3
    exact ⟨by first | rfl | (simp [errW_none, errW_some] <;> rfl) | (simp [*, errW_none, errW_some] <;> rfl), bw HB.out⟩
  ·rw [if_neg c3] at H
   exact absurd H (by simp)
def lex_digit.f (a0 : Int) : Option (Bool) := if a0 ≥ 48 then (some (decide (a0 ≤ 57))) else (some false)
set_option maxHeartbeats 8000000 in
set_option maxRecDepth 100000 in
theorem lex_digit.calls (a0 : Int) (r : Bool) (w : World) (h : lex_digit.f a0 = some r) :
  Calls Tryd.prog 47 #[.int .u8 a0] w fun e w' => e = .returned (.bool r) ∧ Drawn0 w w' := by
 have H : (if a0 ≥ 48 then (some (decide (a0 ≤ 57))) else (some false)) = some r := h
 clear h
 by_cases c2 : a0 ≥ 48
 ·rw [if_pos c2] at H
  have c2b0 : decide (48 ≤ a0) = true := decide_eq_true c2
  clear c2
  obtain rfl := Option.some.inj H
  go_enter Tryd.func47, Tryd.ntmps47
  go_wp2
  go_ret
  exact ⟨by first | rfl | (simp; done) | (simp [*]; done), by repeat (first | exact Drawn0.refl _ | apply Drawn0.step)⟩
 ·rw [if_neg c2] at H
  have c2b0 : decide (48 ≤ a0) = false := decide_eq_false c2
  clear c2
  obtain rfl := Option.some.inj H
  go_enter Tryd.func47, Tryd.ntmps47
  go_wp2
  go_ret
  exact ⟨by first | rfl | (simp; done) | (simp [*]; done), by repeat (first | exact Drawn0.refl _ | apply Drawn0.step)⟩
end Go.Proofs.YtkbjblhompkdkaaDoor.PA
