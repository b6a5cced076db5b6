/- num.Digits comes to the decimal digits of its number: the contract of a function that writes an array from its end and cuts it. -/
import Derived.Test.YtgfkpbjimmofdaaDoorProg
import Derived.Test.YtgfkpbjimmofdaaDoorWMore
import Derived.Test.YtgfkpbjimmofdaaDoorGDec
import Derived.Laws.BytesArg
import Derived.Lib.Hide
namespace Go.Proofs.YtgfkpbjimmofdaaDoor
open Go.RowKit Go.Proofs.YtgfkpbjimmofdaaDoorW.PrintWords Go.Proofs.YtgfkpbjimmofdaaDoorW.PrintLast Go.Proofs.YtgfkpbjimmofdaaDoorW.PrintMore
set_option linter.unusedVariables false
set_option linter.unusedSimpArgs false

theorem ret_num {k : IntKind} {a b : Int} (h : a = b) : Ending.returned (.int k a) = Ending.returned (.int k b) := by rw [h]

theorem size_any (n : Int) (w : World) (h0 : -9223372036854775808 ≤ n) (h1 : n ≤ 9223372036854775807) :
    Calls Tryd.prog 35 #[.int .i64 n] w fun e w' => e = .returned (.int .u64 (n.natAbs : Int)) ∧ w = w' := by
  have e1 : n < 0 → IntKind.u64.wrap (-(IntKind.u64.wrap n)) = (n.natAbs : Int) := by
    intro h
    simp only [IntKind.wrap, IntKind.bits, IntKind.signed]
    simp
    omega
  have E1 := Lib.hid e1
  clear e1
  by_cases hn : n < 0
  · go_enter Tryd.func35, Tryd.ntmps35
    go_wp2
    go_ret
    exact ⟨ret_num (E1.out hn), rfl⟩
  · go_enter Tryd.func35, Tryd.ntmps35
    go_wp2
    go_ret
    exact ⟨ret_num (by omega), rfl⟩


theorem heap_new (w : World) (o : Obj) : (w.alloc o).heap[w.heap.size]? = some o := by
  show (w.heap.push o)[w.heap.size]? = some o
  simp
theorem cell_nums {W : World} {B : Nat} {xs : List Int} {T : TypeId} (h : W.heap[B]? = some (.cells (nums .u8 xs).toArray T (0, 0))) {i : Nat} (hi : i < xs.length) :
    W.cell? ⟨B, i, none⟩ = some (.int .u8 (xs.getD i 0)) ∧ W.frozen? ⟨B, i, none⟩ = false := by
  constructor
  · simp [World.cell?, h, nums, hi]
  · simp [World.frozen?, h]
theorem heap_set {W : World} {B : Nat} {xs : List Int} {T : TypeId} (h : W.heap[B]? = some (.cells (nums .u8 xs).toArray T (0, 0))) (k : Nat) (d : Int) :
    (W.setCell ⟨B, k, none⟩ (.int .u8 d)).heap[B]? = some (.cells (nums .u8 (xs.set k d)).toArray T (0, 0)) := by
  show (W.heap.modify B _)[B]? = _
  rw [Array.getElem?_modify]
  simp [h, nums, List.map_set]
theorem conv_tail {P : Program} {W : World} {B : Nat} {xs : List Int} {T src e dst : TypeId} (h : W.heap[B]? = some (.cells (nums .u8 xs).toArray T (0, 0))) (k n c : Nat) (hk : k + n = xs.length)
    (hs : P.underlying src = some (.slice e)) (he : P.underlying e = some (.int .u8)) (hd : P.underlying dst = some .string) :
    (convert src dst (.slice (some ⟨B, k, none⟩) n c)).run P W = .ok (.string (strOfNums (xs.drop k))) W := by
  refine run_convert_bytes_arg W src e hs he B k n c (xs.drop k) (by simp; omega) (fun i hi => ?_) dst hd
  rw [(cell_nums h (i := k + i) (by omega)).1]
  simp [List.getD_eq_getElem?_getD]
theorem cut_tail (W : World) (B : Nat) (l : Int) (k : Nat) (h0 : l = (k : Int)) (h1 : k < 20) :
    (Instr.sliceAt 70 (.pointer (some ⟨B, 0, none⟩)) (some (.int .i64 l)) none none).run Tryd.prog W = .ok (.slice (some ⟨B, k, none⟩) (20 - k) (20 - k)) W := by
  subst h0
  have hl : Tryd.prog.arrayLen 70 = 20 := by kernel_rfl
  have he : Tryd.prog.elem 70 = 5 := by kernel_rfl
  have hu : Tryd.prog.underlying 70 = some (.array (Tryd.prog.arrayLen 70) (Tryd.prog.elem 70)) := by kernel_rfl
  rw [run_sliceAt_array_l W _ _ hu .i64 _ (by omega) (by rw [hl]; omega), hl, he]
  have hz : (sizeOf 5).run Tryd.prog W = .ok 1 W := by kernel_rfl
  rw [hz]
  simp [Result.andThen, slicedAt, Addr.add]
  rw [if_neg (by omega)]
  split <;> simp_all

set_option maxHeartbeats 2000000 in
set_option maxRecDepth 100000 in
theorem digits_any (n : Int) (w : World) (h0 : -9223372036854775808 ≤ n) (h1 : n ≤ 9223372036854775807) :
    Calls Tryd.prog 27 #[.int .i64 n] w fun e w' => e = .returned (.string (strOfNums (digL n))) ∧ Below w.heap.size w w' := by
  have hs : (n.natAbs : Int) ≤ 9223372036854775808 := by omega
  have hs0 : (0 : Int) ≤ (n.natAbs : Int) := by omega
  have st := Lib.hid (DecInv.start (u0 := n.natAbs) (by omega))
  go_enter Tryd.func27, Tryd.ntmps27
  go_wp2_with (go_at_call 35; refine (size_any _ _ h0 h1).mono ?_; rintro e w' ⟨rfl, rfl⟩)
  go_loopw [4, 5] (fun i u wr => ∃ (k uu : Nat) (xs : List Int), i = .int .i64 ((k : Int) + 1) ∧ u = .int .u64 (uu : Int) ∧ uu ≤ 9223372036854775808 ∧ Hid (DecInv n.natAbs uu k xs) ∧ Hid (wr.heap[w.heap.size]? = some (.cells (nums .u8 xs).toArray 70 (0, 0))) ∧ Below w.heap.size w wr)
    (fun i _ _ => (intOf i).toNat)
  case atStart => exact ⟨19, n.natAbs, List.replicate 20 0, rfl, rfl, by omega, st, heap_new w _, (Below.refl _ _).alloc (Nat.le_refl _) _⟩
  case round =>
    obtain ⟨k, u, xs, rfl, rfl, hub, hinv, hheap, hbel⟩ := hrel
    have hk1 := hinv.out.lo
    have hk2 := hinv.out.hi
    obtain ⟨hc1, hc2⟩ := cell_nums hheap.out (i := k) (by rw [hinv.out.len]; omega)
    have hset := Lib.hid (heap_set hheap.out k (48 + (u : Int) % 10))
    by_cases hu : u < 10
    · have hu2 : ((u : Int) / 10 == 0) = true := by rw [beq_iff_eq]; omega
      have hdone := Lib.hid (hinv.out.done hu)
      have hlen : (xs.set k (48 + (u : Int) % 10)).length = 20 := by simp [hinv.out.len]
      have hbel1 := Lib.hid (hbel.setCell (p := ⟨w.heap.size, k, none⟩) (Nat.le_refl _) (.int .u8 (48 + (u : Int) % 10)))
      by_cases hn : n < 0
      · obtain ⟨hd1, hd2⟩ := cell_nums hset.out (i := k - 1) (by rw [hlen]; omega)
        have hset2 := heap_set hset.out (k - 1) 45
        have hcut := cut_tail ((wr.setCell ⟨w.heap.size, k, none⟩ (.int .u8 (48 + (u : Int) % 10))).setCell ⟨w.heap.size, k - 1, none⟩ (.int .u8 45)) w.heap.size ((k : Int) - 1) (k - 1) (by omega) (by omega)
        have hconv := conv_tail (P := Tryd.prog) (src := 73) (e := 5) (dst := 9) hset2 (k - 1) (20 - (k - 1)) (20 - (k - 1)) (by simp [hinv.out.len]; omega) Tryd.underlying73 Tryd.underlying5 Tryd.underlying9
        have hfin : List.drop (k - 1) ((xs.set k (48 + (u : Int) % 10)).set (k - 1) 45) = digL n := by
          rw [drop_set_at _ _ _ (by rw [hlen]; omega), show k - 1 + 1 = k by omega, hdone.out, digL, if_pos hn]
        rw [hfin] at hconv
        clear hfin hlen hset2
        have hbel2 := Lib.hid (hbel1.out.setCell (p := ⟨w.heap.size, k - 1, none⟩) (Nat.le_refl _) (.int .u8 45))
        clear hbel
        go_wp2
        go_ret
        exact ⟨rfl, hbel2.out⟩
      · have hcut := cut_tail (wr.setCell ⟨w.heap.size, k, none⟩ (.int .u8 (48 + (u : Int) % 10))) w.heap.size (k : Int) k rfl (by omega)
        have hconv := conv_tail (P := Tryd.prog) (src := 73) (e := 5) (dst := 9) hset.out k (20 - k) (20 - k) (by simp [hinv.out.len]; omega) Tryd.underlying73 Tryd.underlying5 Tryd.underlying9
        have hfin : List.drop k (xs.set k (48 + (u : Int) % 10)) = digL n := by
          rw [hdone.out, digL, if_neg hn]
        rw [hfin] at hconv
        clear hfin hlen hbel
        go_wp2
        go_ret
        exact ⟨rfl, hbel1.out⟩
    · have hu2 : ((u : Int) / 10 == 0) = false := by rw [beq_eq_false_iff_ne]; omega
      have hstep := Lib.hid (hinv.out.step hu)
      have hbel1 := Lib.hid (hbel.setCell (p := ⟨w.heap.size, k, none⟩) (Nat.le_refl _) (.int .u8 (48 + (u : Int) % 10)))
      have hlo := hstep.out.lo
      clear hbel
      go_wp2
      go_roundw
      case rel => exact ⟨k - 1, u / 10, _, by go_num, by go_num, by omega, hstep, hset, hbel1.out⟩
      case measure => simp [intOf]

/-- The digits of a number of 64 bits; of any other nothing is told. -/
def num_Digits.f (a0 : Int) : Option ByteArray := if -9223372036854775808 ≤ a0 ∧ a0 ≤ 9223372036854775807 then some (strOfNums (digL a0)) else none
theorem num_Digits.calls (a0 : Int) (r : ByteArray) (w : World) (h : num_Digits.f a0 = some r) :
    Calls Tryd.prog 27 #[.int .i64 a0] w fun e w' => e = .returned (.string r) ∧ Below w.heap.size w w' := by
  unfold num_Digits.f at h
  split at h
  · rename_i hb
    obtain rfl := Option.some.inj h
    exact digits_any a0 w hb.1 hb.2
  · cases h

end Go.Proofs.YtgfkpbjimmofdaaDoor
