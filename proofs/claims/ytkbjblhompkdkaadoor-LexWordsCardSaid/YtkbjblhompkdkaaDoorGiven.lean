/- Functions whose Lean forms were written by hand: digits, rows of capacity alone, letters behind a backslash. -/
import Derived.Laws.BytesArg
import Derived.Test.YtkbjblhompkdkaaDoorProg
import Derived.Test.YtkbjblhompkdkaaDoorWMore
import Derived.Lib.Hide
namespace Go.Proofs.YtkbjblhompkdkaaDoor

/-- The digits of a number. -/
def decL (u : Nat) : List Int := if u < 10 then [48 + (u : Int)] else decL (u / 10) ++ [48 + ((u : Int) % 10)]
termination_by u
decreasing_by omega

/-- The digits of a whole number, with a hyphen ahead if it is below nought. -/
def digL (n : Int) : List Int := if n < 0 then 45 :: decL n.natAbs else decL n.natAbs

theorem decL_small {u : Nat} (h : u < 10) : decL u = [48 + (u : Int)] := by rw [decL, if_pos h]
theorem decL_big {u : Nat} (h : ¬ u < 10) : decL u = decL (u / 10) ++ [48 + ((u : Int) % 10)] := by rw [decL, if_neg h]

/-- The row behind some rounds: place k+1 on is written; u is left. -/
structure DecInv (u0 u k : Nat) (xs : List Int) : Prop where
  len : xs.length = 20
  lo : 1 ≤ k
  hi : k ≤ 19
  small : u < 10 ^ k
  left : k = 19 ∨ 0 < u
  eq : decL u0 = decL u ++ xs.drop (k + 1)

theorem DecInv.start {u0 : Nat} (h : u0 ≤ 9223372036854775808) : DecInv u0 u0 19 (List.replicate 20 0) :=
  ⟨by simp, by omega, by omega, by have : (10:Nat) ^ 19 = 10000000000000000000 := by decide
                                   omega, .inl rfl, by simp⟩

theorem drop_set_at (xs : List Int) (k : Nat) (d : Int) (h : k < xs.length) : (xs.set k d).drop k = d :: xs.drop (k + 1) := by
  rw [List.drop_eq_getElem_cons (by simpa using h), List.drop_set_of_lt (by omega)]
  simp

theorem DecInv.step {u0 u k : Nat} {xs : List Int} (h : DecInv u0 u k xs) (hu : ¬ u < 10) : DecInv u0 (u / 10) (k - 1) (xs.set k (48 + (u : Int) % 10)) := by
  have h10 : u < 10 ^ k := h.small
  have hk : 2 ≤ k := by
    rcases Nat.lt_or_ge k 2 with h2 | h2
    · have : k = 1 := by have := h.lo; omega
      subst this
      simp at h10
      omega
    · exact h2
  have hp : (10:Nat) ^ k = 10 ^ (k - 1) * 10 := by rw [← Nat.pow_succ]; congr 1; omega
  refine ⟨by simp [h.len], by omega, by have := h.hi; omega, ?_, .inr (by omega), ?_⟩
  · rw [hp] at h10
    omega
  · rw [show k - 1 + 1 = k by omega, drop_set_at _ _ _ (by rw [h.len]; have := h.hi; omega), h.eq, decL_big hu]
    simp

theorem DecInv.done {u0 u k : Nat} {xs : List Int} (h : DecInv u0 u k xs) (hu : u < 10) : (xs.set k (48 + (u : Int) % 10)).drop k = decL u0 := by
  rw [drop_set_at _ _ _ (by rw [h.len]; have := h.hi; omega), h.eq, decL_small hu]
  rw [show (u : Int) % 10 = u by omega]
  rfl

theorem decL_range (u : Nat) : ∀ x ∈ decL u, 48 ≤ x ∧ x ≤ 57 := by
  induction u using Nat.strongRecOn with
  | _ u ih =>
  intro x hx
  by_cases h : u < 10
  · rw [decL_small h] at hx
    simp at hx
    omega
  · rw [decL_big h] at hx
    simp at hx
    rcases hx with hx | hx
    · exact ih (u / 10) (by omega) x hx
    · omega

end Go.Proofs.YtkbjblhompkdkaaDoor

namespace Go.Proofs.YtkbjblhompkdkaaDoor
open Go.RowKit Go.Proofs.YtkbjblhompkdkaaDoorW.PrintWords Go.Proofs.YtkbjblhompkdkaaDoorW.PrintLast Go.Proofs.YtkbjblhompkdkaaDoorW.PrintMore
set_option linter.unusedVariables false
set_option linter.unusedSimpArgs false

theorem ret_num {k : IntKind} {a b : Int} (h : a = b) : Ending.returned (.int k a) = Ending.returned (.int k b) := by rw [h]

theorem size_any (n : Int) (w : World) (h0 : -9223372036854775808 ≤ n) (h1 : n ≤ 9223372036854775807) :
    Calls Tryd.prog 85 #[.int .i64 n] w fun e w' => e = .returned (.int .u64 (n.natAbs : Int)) ∧ w = w' := by
  have e1 : n < 0 → IntKind.u64.wrap (-(IntKind.u64.wrap n)) = (n.natAbs : Int) := by
    intro h
    simp only [IntKind.wrap, IntKind.bits, IntKind.signed]
    simp
    omega
  have E1 := Lib.hid e1
  clear e1
  by_cases hn : n < 0
  · go_enter Tryd.func85, Tryd.ntmps85
    go_wp2
    go_ret
    exact ⟨ret_num (E1.out hn), rfl⟩
  · go_enter Tryd.func85, Tryd.ntmps85
    go_wp2
    go_ret
    exact ⟨ret_num (by omega), rfl⟩


theorem heap_new (w : World) (o : Obj) : (w.alloc o).heap[w.heap.size]? = some o := by
  show (w.heap.push o)[w.heap.size]? = some o
  simp
theorem cell_nums {W : World} {B : Nat} {xs : List Int} {T : TypeId} (h : W.heap[B]? = some (.cells (nums .u8 xs).toArray T (0, 0))) {i : Nat} (hi : i < xs.length) :
    W.cell? ⟨B, i, none⟩ = some (.int .u8 (xs.getD i 0)) ∧ W.frozen? ⟨B, i, none⟩ = false := by
  constructor
  · simp [World.cell?, h, nums, hi]
  · simp [World.frozen?, h]
theorem heap_set {W : World} {B : Nat} {xs : List Int} {T : TypeId} (h : W.heap[B]? = some (.cells (nums .u8 xs).toArray T (0, 0))) (k : Nat) (d : Int) :
    (W.setCell ⟨B, k, none⟩ (.int .u8 d)).heap[B]? = some (.cells (nums .u8 (xs.set k d)).toArray T (0, 0)) := by
  show (W.heap.modify B _)[B]? = _
  rw [Array.getElem?_modify]
  simp [h, nums, List.map_set]
theorem conv_tail {P : Program} {W : World} {B : Nat} {xs : List Int} {T src e dst : TypeId} (h : W.heap[B]? = some (.cells (nums .u8 xs).toArray T (0, 0))) (k n c : Nat) (hk : k + n = xs.length)
    (hs : P.underlying src = some (.slice e)) (he : P.underlying e = some (.int .u8)) (hd : P.underlying dst = some .string) :
    (convert src dst (.slice (some ⟨B, k, none⟩) n c)).run P W = .ok (.string (strOfNums (xs.drop k))) W := by
  refine run_convert_bytes_arg W src e hs he B k n c (xs.drop k) (by simp; omega) (fun i hi => ?_) dst hd
  rw [(cell_nums h (i := k + i) (by omega)).1]
  simp [List.getD_eq_getElem?_getD]
theorem cut_tail (W : World) (B : Nat) (l : Int) (k : Nat) (h0 : l = (k : Int)) (h1 : k < 20) :
    (Instr.sliceAt 111 (.pointer (some ⟨B, 0, none⟩)) (some (.int .i64 l)) none none).run Tryd.prog W = .ok (.slice (some ⟨B, k, none⟩) (20 - k) (20 - k)) W := by
  subst h0
  have hl : Tryd.prog.arrayLen 111 = 20 := by kernel_rfl
  have he : Tryd.prog.elem 111 = 5 := by kernel_rfl
  have hu : Tryd.prog.underlying 111 = some (.array (Tryd.prog.arrayLen 111) (Tryd.prog.elem 111)) := by kernel_rfl
  rw [run_sliceAt_array_l W _ _ hu .i64 _ (by omega) (by rw [hl]; omega), hl, he]
  have hz : (sizeOf 5).run Tryd.prog W = .ok 1 W := by kernel_rfl
  rw [hz]
  simp [Result.andThen, slicedAt, Addr.add]
  rw [if_neg (by omega)]
  split <;> simp_all

set_option maxHeartbeats 2000000 in
set_option maxRecDepth 100000 in
theorem digits_any (n : Int) (w : World) (h0 : -9223372036854775808 ≤ n) (h1 : n ≤ 9223372036854775807) :
    Calls Tryd.prog 57 #[.int .i64 n] w fun e w' => e = .returned (.string (strOfNums (digL n))) ∧ Below w.heap.size w w' := by
  have hs : (n.natAbs : Int) ≤ 9223372036854775808 := by omega
  have hs0 : (0 : Int) ≤ (n.natAbs : Int) := by omega
  have st := Lib.hid (DecInv.start (u0 := n.natAbs) (by omega))
  go_enter Tryd.func57, Tryd.ntmps57
  go_wp2_with (go_at_call 85; refine (size_any _ _ h0 h1).mono ?_; rintro e w' ⟨rfl, rfl⟩)
  go_loopw [4, 5] (fun i u wr => ∃ (k uu : Nat) (xs : List Int), i = .int .i64 ((k : Int) + 1) ∧ u = .int .u64 (uu : Int) ∧ uu ≤ 9223372036854775808 ∧ Hid (DecInv n.natAbs uu k xs) ∧ Hid (wr.heap[w.heap.size]? = some (.cells (nums .u8 xs).toArray 111 (0, 0))) ∧ Below w.heap.size w wr)
    (fun i _ _ => (intOf i).toNat)
  case atStart => exact ⟨19, n.natAbs, List.replicate 20 0, rfl, rfl, by omega, st, heap_new w _, (Below.refl _ _).alloc (Nat.le_refl _) _⟩
  case round =>
    obtain ⟨k, u, xs, rfl, rfl, hub, hinv, hheap, hbel⟩ := hrel
    have hk1 := hinv.out.lo
    have hk2 := hinv.out.hi
    obtain ⟨hc1, hc2⟩ := cell_nums hheap.out (i := k) (by rw [hinv.out.len]; omega)
    have hset := Lib.hid (heap_set hheap.out k (48 + (u : Int) % 10))
    by_cases hu : u < 10
    · have hu2 : ((u : Int) / 10 == 0) = true := by rw [beq_iff_eq]; omega
      have hdone := Lib.hid (hinv.out.done hu)
      have hlen : (xs.set k (48 + (u : Int) % 10)).length = 20 := by simp [hinv.out.len]
      have hbel1 := Lib.hid (hbel.setCell (p := ⟨w.heap.size, k, none⟩) (Nat.le_refl _) (.int .u8 (48 + (u : Int) % 10)))
      by_cases hn : n < 0
      · obtain ⟨hd1, hd2⟩ := cell_nums hset.out (i := k - 1) (by rw [hlen]; omega)
        have hset2 := heap_set hset.out (k - 1) 45
        have hcut := cut_tail ((wr.setCell ⟨w.heap.size, k, none⟩ (.int .u8 (48 + (u : Int) % 10))).setCell ⟨w.heap.size, k - 1, none⟩ (.int .u8 45)) w.heap.size ((k : Int) - 1) (k - 1) (by omega) (by omega)
        have hconv := conv_tail (P := Tryd.prog) (src := 44) (e := 5) (dst := 9) hset2 (k - 1) (20 - (k - 1)) (20 - (k - 1)) (by simp [hinv.out.len]; omega) Tryd.underlying44 Tryd.underlying5 Tryd.underlying9
        have hfin : List.drop (k - 1) ((xs.set k (48 + (u : Int) % 10)).set (k - 1) 45) = digL n := by
          rw [drop_set_at _ _ _ (by rw [hlen]; omega), show k - 1 + 1 = k by omega, hdone.out, digL, if_pos hn]
        rw [hfin] at hconv
        clear hfin hlen hset2
        have hbel2 := Lib.hid (hbel1.out.setCell (p := ⟨w.heap.size, k - 1, none⟩) (Nat.le_refl _) (.int .u8 45))
        clear hbel
        go_wp2
        go_ret
        exact ⟨rfl, hbel2.out⟩
      · have hcut := cut_tail (wr.setCell ⟨w.heap.size, k, none⟩ (.int .u8 (48 + (u : Int) % 10))) w.heap.size (k : Int) k rfl (by omega)
        have hconv := conv_tail (P := Tryd.prog) (src := 44) (e := 5) (dst := 9) hset.out k (20 - k) (20 - k) (by simp [hinv.out.len]; omega) Tryd.underlying44 Tryd.underlying5 Tryd.underlying9
        have hfin : List.drop k (xs.set k (48 + (u : Int) % 10)) = digL n := by
          rw [hdone.out, digL, if_neg hn]
        rw [hfin] at hconv
        clear hfin hlen hbel
        go_wp2
        go_ret
        exact ⟨rfl, hbel1.out⟩
    · have hu2 : ((u : Int) / 10 == 0) = false := by rw [beq_eq_false_iff_ne]; omega
      have hstep := Lib.hid (hinv.out.step hu)
      have hbel1 := Lib.hid (hbel.setCell (p := ⟨w.heap.size, k, none⟩) (Nat.le_refl _) (.int .u8 (48 + (u : Int) % 10)))
      have hlo := hstep.out.lo
      clear hbel
      go_wp2
      go_roundw
      case rel => exact ⟨k - 1, u / 10, _, by go_num, by go_num, by omega, hstep, hset, hbel1.out⟩
      case measure => simp [intOf]

/-- The digits of a number of 64 bits; of any other nothing is told. -/
def num_Digits.f (a0 : Int) : Option ByteArray := if -9223372036854775808 ≤ a0 ∧ a0 ≤ 9223372036854775807 then some (strOfNums (digL a0)) else none
theorem num_Digits.calls (a0 : Int) (r : ByteArray) (w : World) (h : num_Digits.f a0 = some r) :
    Calls Tryd.prog 57 #[.int .i64 a0] w fun e w' => e = .returned (.string r) ∧ Below w.heap.size w w' := by
  unfold num_Digits.f at h
  split at h
  · rename_i hb
    obtain rfl := Option.some.inj h
    exact digits_any a0 w hb.1 hb.2
  · cases h

end Go.Proofs.YtkbjblhompkdkaaDoor

namespace Go.Proofs.YtkbjblhompkdkaaDoor
open Go.RowKit Go.Proofs.YtkbjblhompkdkaaDoorW.PrintWords Go.Proofs.YtkbjblhompkdkaaDoorW.PrintLast Go.Proofs.YtkbjblhompkdkaaDoorW.PrintMore
set_option linter.unusedVariables false

section
variable {P : Program} {ops : Array Oper} {rest : List Oper} {o : Oper} {a : Act} {Q : Exit → Act → World → Prop} {α : Type} {W : World}
theorem R_make0 (d : Kd α) {w0 : World} (base e : Nat) (hgd : o.guard = none) {N : Tmp} (hd : o.dst = some N) (t : TypeId) (x y : Operand) (ho : o.op = .makeSlice t x y) (n : Int) (hx : a.eval x = .int .i64 0) (hy : a.eval y = .int .i64 n)
    (ht : P.underlying t = some (.slice e)) (z : Value) (bytes : Nat) (hinfo : (P.info? e).map (fun i => (i.zero, i.size, i.bytes)) = some (some z, d.sz, bytes)) (hz : z.cells.size = d.sz) (hs0 : 0 < d.sz) (hb0 : 0 < bytes)
    (z0 : α) {ok okp : Nat → Prop} (hzero : d.M W base okp z0 z.cells.toList) (hok : ∀ k, okp k → ok k) (hfresh : ok W.heap.size) (h0 : 0 ≤ n) (hl : n.toNat * bytes ≤ 281474976710656) (HB : Below base w0 W) (hbase : base ≤ W.heap.size)
    (h : ∀ v1 w1, d.R e w1 base ok v1 [] → Below base w0 w1 → W.grownBy w1 none → (∃ b, v1.ownBlock = some b ∧ W.heap.size ≤ b) → wpList P ops Q rest (a.put o.dst v1) w1) : wpList P ops Q (o :: rest) a W := by
  obtain ⟨m, rfl⟩ := Int.eq_ofNat_of_zero_le h0
  simp only [Int.toNat_natCast] at hl
  obtain ⟨i0, hi, hzz⟩ := Option.map_eq_some_iff.1 hinfo
  simp only [Prod.mk.injEq] at hzz
  obtain ⟨hz0, hz1, hz2⟩ := hzz
  have hm : m ≤ 281474976710656 := Nat.le_trans (Nat.le_mul_of_pos_right _ hb0) hl
  have hr := run_make (P := P) W t e i0 z ht hi hz0 .i64 .i64 0 (m : Int) (by omega) (by omega)
    (by
      have h3 : ((i0.bytes * m : Nat) : Int) ≤ 281474976710656 := by rw [hz2, Nat.mul_comm]; omega
      rwa [Int.natCast_mul] at h3) (by omega)
  simp only [Int.toNat_natCast, Int.toNat_zero] at hr
  rw [hz1] at hr
  have hrep : Reps (d.M W base okp) d.sz (List.replicate m z0) (madeCells z.cells (m * d.sz)).toList := Kd.reps_made hz hs0 hzero m
  have full : d.R e (W.alloc (.cells (madeCells z.cells (m * d.sz)) e)) base ok (.slice (some ⟨W.heap.size, 0, none⟩) m m) (List.replicate m z0) := by
    refine ⟨fun k hk => ?_, (madeCells z.cells (m * d.sz)).toList, ?_, ?_⟩
    · have : W.heap.size = k := by simpa [Value.ownBlock] using hk
      subst this
      exact hfresh
    · have h2 := World.ownsRow_lit (base := base) (e := e) (size := d.sz) W (madeCells z.cells (m * d.sz)) m hbase (by simp only [maxLen]; omega) (by simp [size_madeCells])
      simpa using h2
    · refine hrep.imp_ (fun p c hp => d.M_mono (fun k hk => ⟨hok k hk.1, fun he => ?_⟩) (Kd.M_below (d.M_bound hp) (below_alloc (Below.refl _ _) _)))
      have h3 : k = W.heap.size := by simpa [Value.ownBlock] using he
      have := hk.2.2.1
      omega
  have none_ : d.R e (W.alloc (.cells (madeCells z.cells (m * d.sz)) e)) base ok (.slice (some ⟨W.heap.size, 0, none⟩) 0 m) [] := by
    have := Kd.R_take full (m := 0) (by omega)
    simpa using this
  refine Kd.event_run hgd (w1 := W.alloc (.cells (madeCells z.cells (m * d.sz)) e)) (v := .slice (some ⟨W.heap.size, 0, none⟩) 0 m) ?_ (h _ _ none_ (HB.alloc hbase _) (World.grownBy_alloc W _ none) ⟨W.heap.size, by simp [Value.ownBlock], Nat.le_refl _⟩)
  simp [execOp, ho, hx, hy, hr]
end
end Go.Proofs.YtkbjblhompkdkaaDoor

namespace Go.Proofs.YtkbjblhompkdkaaDoor
open Go.RowKit Go.Proofs.YtkbjblhompkdkaaDoorW.PrintWords Go.Proofs.YtkbjblhompkdkaaDoorW.PrintLast Go.Proofs.YtkbjblhompkdkaaDoorW.PrintMore
set_option linter.unusedVariables false
set_option linter.unusedSimpArgs false

set_option maxHeartbeats 1000000 in
theorem letters_any (w : World) : Calls Tryd.prog 99 #[] w fun e w' => e = .returned (.agg #[.int .u8 34, .int .u8 34, .int .u8 92, .int .u8 92, .int .u8 10, .int .u8 110, .int .u8 9, .int .u8 116, .int .u8 13, .int .u8 114]) ∧ Below w.heap.size w w' := by
  go_enter Tryd.func99, Tryd.ntmps99
  go_wp2
  exact bodyPost_ret (v := .agg #[.int .u8 34, .int .u8 34, .int .u8 92, .int .u8 92, .int .u8 10, .int .u8 110, .int .u8 9, .int .u8 116, .int .u8 13, .int .u8 114]) (by simp [results, Tryd.results99, go_sem]) rfl ⟨rfl, (Below.refl _ _).alloc (Nat.le_refl _) _⟩

def letterS (c : Int) : Int := if c = 34 then 34 else if c = 92 then 92 else if c = 10 then 110 else if c = 9 then 116 else if c = 13 then 114 else 0
def byLetterS (c : Int) : Int × Bool := if c = 47 then (47, true) else if c = 34 then (34, true) else if c = 92 then (92, true) else if c = 110 then (10, true) else if c = 116 then (9, true) else if c = 114 then (13, true) else (0, false)

theorem row_at0 (w : World) : (Instr.index 134 (.agg #[.int .u8 34, .int .u8 34, .int .u8 92, .int .u8 92, .int .u8 10, .int .u8 110, .int .u8 9, .int .u8 116, .int .u8 13, .int .u8 114]) (.int .i64 0)).run Tryd.prog w = .ok (.agg #[.int .u8 34, .int .u8 34]) w := by kernel_rfl
theorem row_at1 (w : World) : (Instr.index 134 (.agg #[.int .u8 34, .int .u8 34, .int .u8 92, .int .u8 92, .int .u8 10, .int .u8 110, .int .u8 9, .int .u8 116, .int .u8 13, .int .u8 114]) (.int .i64 1)).run Tryd.prog w = .ok (.agg #[.int .u8 92, .int .u8 92]) w := by kernel_rfl
theorem row_at2 (w : World) : (Instr.index 134 (.agg #[.int .u8 34, .int .u8 34, .int .u8 92, .int .u8 92, .int .u8 10, .int .u8 110, .int .u8 9, .int .u8 116, .int .u8 13, .int .u8 114]) (.int .i64 2)).run Tryd.prog w = .ok (.agg #[.int .u8 10, .int .u8 110]) w := by kernel_rfl
theorem row_at3 (w : World) : (Instr.index 134 (.agg #[.int .u8 34, .int .u8 34, .int .u8 92, .int .u8 92, .int .u8 10, .int .u8 110, .int .u8 9, .int .u8 116, .int .u8 13, .int .u8 114]) (.int .i64 3)).run Tryd.prog w = .ok (.agg #[.int .u8 9, .int .u8 116]) w := by kernel_rfl
theorem row_at4 (w : World) : (Instr.index 134 (.agg #[.int .u8 34, .int .u8 34, .int .u8 92, .int .u8 92, .int .u8 10, .int .u8 110, .int .u8 9, .int .u8 116, .int .u8 13, .int .u8 114]) (.int .i64 4)).run Tryd.prog w = .ok (.agg #[.int .u8 13, .int .u8 114]) w := by kernel_rfl
theorem row_at (i : Nat) (hi : i < 5) (x y : Int) (h : ([((34 : Int), (34 : Int)), (92, 92), (10, 110), (9, 116), (13, 114)] : List (Int × Int))[i]? = some (x, y)) (w : World) :
    (Instr.index 134 (.agg #[.int .u8 34, .int .u8 34, .int .u8 92, .int .u8 92, .int .u8 10, .int .u8 110, .int .u8 9, .int .u8 116, .int .u8 13, .int .u8 114]) (.int .i64 (i : Int))).run Tryd.prog w = .ok (.agg #[.int .u8 x, .int .u8 y]) w := by
  match i, hi with
  | 0, _ => simp at h; obtain ⟨rfl, rfl⟩ := h; exact row_at0 w
  | 1, _ => simp at h; obtain ⟨rfl, rfl⟩ := h; exact row_at1 w
  | 2, _ => simp at h; obtain ⟨rfl, rfl⟩ := h; exact row_at2 w
  | 3, _ => simp at h; obtain ⟨rfl, rfl⟩ := h; exact row_at3 w
  | 4, _ => simp at h; obtain ⟨rfl, rfl⟩ := h; exact row_at4 w

def lettersL : List (Int × Int) := [(34, 34), (92, 92), (10, 110), (9, 116), (13, 114)]
def Lets (r : Int) (e : Ending) : Prop := e = .returned (.int .u8 r)
/-- None of the letters ahead of place k is c. -/
def NotYet (c : Int) (k : Nat) : Prop := ∀ j p, j < k → lettersL[j]? = some p → p.1 ≠ c
theorem NotYet.start (c : Int) : NotYet c 0 := fun j p h => absurd h (by omega)
theorem NotYet.next {c : Int} {k : Nat} {x y : Int} (h : NotYet c k) (hk : lettersL[k]? = some (x, y)) (hx : ¬ x = c) : NotYet c (k + 1) := by
  intro j p hj hp
  rcases Nat.lt_or_eq_of_le (Nat.le_of_lt_succ hj) with h1 | rfl
  · exact h j p h1 hp
  · rw [hk] at hp
    obtain rfl := Option.some.inj hp
    exact hx
theorem NotYet.hit {c : Int} {k : Nat} {x y : Int} (h : NotYet c k) (hk : lettersL[k]? = some (x, y)) (hx : x = c) : letterS c = y := by
  subst hx
  match k, hk with
  | 0, hk => simp [lettersL] at hk; obtain ⟨rfl, rfl⟩ := hk; rfl
  | 1, hk => simp [lettersL] at hk; obtain ⟨rfl, rfl⟩ := hk; rfl
  | 2, hk => simp [lettersL] at hk; obtain ⟨rfl, rfl⟩ := hk; rfl
  | 3, hk => simp [lettersL] at hk; obtain ⟨rfl, rfl⟩ := hk; rfl
  | 4, hk => simp [lettersL] at hk; obtain ⟨rfl, rfl⟩ := hk; rfl
  | n + 5, hk => simp [lettersL] at hk
theorem NotYet.none_ {c : Int} (h : NotYet c 5) : letterS c = 0 := by
  have h0 := h 0 (34, 34) (by omega) rfl
  have h1 := h 1 (92, 92) (by omega) rfl
  have h2 := h 2 (10, 110) (by omega) rfl
  have h3 := h 3 (9, 116) (by omega) rfl
  have h4 := h 4 (13, 114) (by omega) rfl
  simp only [] at h0 h1 h2 h3 h4
  unfold letterS
  rw [if_neg (Ne.symm h0), if_neg (Ne.symm h1), if_neg (Ne.symm h2), if_neg (Ne.symm h3), if_neg (Ne.symm h4)]

set_option maxHeartbeats 2000000 in
theorem letter_any (c : Int) (w : World) : Calls Tryd.prog 86 #[.int .u8 c] w fun e w' => Lets (letterS c) e ∧ Below w.heap.size w w' := by
  go_enter Tryd.func86, Tryd.ntmps86
  go_wp2_with (go_at_call 99; refine (letters_any _).mono ?_; rintro e w1 ⟨rfl, hb⟩)
  go_loopw [6] (fun i wr => ∃ k : Nat, k ≤ 5 ∧ i = .int .i64 (k : Int) ∧ Hid (NotYet c k) ∧ Below w.heap.size w wr) (fun i _ => 5 - (intOf i).toNat)
  case atStart => exact ⟨0, by omega, rfl, NotYet.start c, hb⟩
  case round =>
    obtain ⟨k, hk, rfl, hn, hbel⟩ := hrel
    clear hb
    by_cases h5 : k < 5
    · obtain ⟨⟨x, y⟩, hxy⟩ : ∃ p, lettersL[k]? = some p := ⟨_, List.getElem?_eq_getElem (show k < lettersL.length by simpa [lettersL] using h5)⟩
      have hi := row_at k h5 x y hxy
      have Hxy := Lib.hid hxy
      clear hxy
      have hb2 := Lib.hid (hbel.alloc hbel.size (.cells #[.int .u8 x, .int .u8 y] 133))
      clear hbel
      by_cases hx : x = c
      · have hit := Lib.hid (hn.out.hit Hxy.out hx)
        have hd : (x == c) = true := beq_iff_eq.2 hx
        clear hx
        go_wp2
        go_ret
        exact ⟨by unfold Lets; rw [hit.out]; rfl, hb2.out⟩
      · have hne := Lib.hid (hn.out.next Hxy.out hx)
        have hd : (x == c) = false := beq_eq_false_iff_ne.2 hx
        clear hx
        go_wp2
        go_roundw
        case rel => exact ⟨k + 1, by omega, by go_num, hne, hb2.out⟩
        case measure => simp [intOf]; omega
    · have h0 : letterS c = 0 := NotYet.none_ (by rw [show (5 : Nat) = k by omega]; exact hn.out)
      have H0 := Lib.hid h0
      clear h0
      go_wp2
      go_ret
      exact ⟨by unfold Lets; rw [H0.out]; rfl, hbel⟩


def Lets2 (r : Int × Bool) (e : Ending) : Prop := e = .returned (.tuple #[.int .u8 r.1, .bool r.2])
/-- None of the letters' own bytes ahead of place k is c. -/
def NotYet2 (c : Int) (k : Nat) : Prop := ∀ j p, j < k → lettersL[j]? = some p → p.2 ≠ c
theorem NotYet2.start (c : Int) : NotYet2 c 0 := fun j p h => absurd h (by omega)
theorem NotYet2.next {c : Int} {k : Nat} {x y : Int} (h : NotYet2 c k) (hk : lettersL[k]? = some (x, y)) (hx : ¬ y = c) : NotYet2 c (k + 1) := by
  intro j p hj hp
  rcases Nat.lt_or_eq_of_le (Nat.le_of_lt_succ hj) with h1 | rfl
  · exact h j p h1 hp
  · rw [hk] at hp
    obtain rfl := Option.some.inj hp
    exact hx
theorem NotYet2.hit {c : Int} {k : Nat} {x y : Int} (hk : lettersL[k]? = some (x, y)) (hx : y = c) : byLetterS c = (x, true) := by
  subst hx
  match k, hk with
  | 0, hk => simp [lettersL] at hk; obtain ⟨rfl, rfl⟩ := hk; rfl
  | 1, hk => simp [lettersL] at hk; obtain ⟨rfl, rfl⟩ := hk; rfl
  | 2, hk => simp [lettersL] at hk; obtain ⟨rfl, rfl⟩ := hk; rfl
  | 3, hk => simp [lettersL] at hk; obtain ⟨rfl, rfl⟩ := hk; rfl
  | 4, hk => simp [lettersL] at hk; obtain ⟨rfl, rfl⟩ := hk; rfl
  | n + 5, hk => simp [lettersL] at hk
theorem NotYet2.none_ {c : Int} (hc : ¬ c = 47) (h : NotYet2 c 5) : byLetterS c = (0, false) := by
  have h0 := h 0 (34, 34) (by omega) rfl
  have h1 := h 1 (92, 92) (by omega) rfl
  have h2 := h 2 (10, 110) (by omega) rfl
  have h3 := h 3 (9, 116) (by omega) rfl
  have h4 := h 4 (13, 114) (by omega) rfl
  simp only [] at h0 h1 h2 h3 h4
  unfold byLetterS
  rw [if_neg hc, if_neg (Ne.symm h0), if_neg (Ne.symm h1), if_neg (Ne.symm h2), if_neg (Ne.symm h3), if_neg (Ne.symm h4)]

set_option maxHeartbeats 2000000 in
theorem byLetter_any (c : Int) (w : World) : Calls Tryd.prog 93 #[.int .u8 c] w fun e w' => Lets2 (byLetterS c) e ∧ Below w.heap.size w w' := by
  by_cases h47 : c = 47
  · subst h47
    go_enter Tryd.func93, Tryd.ntmps93
    go_wp2
    go_ret2
    exact ⟨rfl, Below.refl _ _⟩
  have h47d : (c == 47) = false := beq_eq_false_iff_ne.2 h47
  have H47 := Lib.hid h47
  clear h47
  go_enter Tryd.func93, Tryd.ntmps93
  go_wp2_with (go_at_call 99; refine (letters_any _).mono ?_; rintro e w1 ⟨rfl, hb⟩)
  go_loopw [10] (fun i wr => ∃ k : Nat, k ≤ 5 ∧ i = .int .i64 (k : Int) ∧ Hid (NotYet2 c k) ∧ Below w.heap.size w wr) (fun i _ => 5 - (intOf i).toNat)
  case atStart => exact ⟨0, by omega, rfl, NotYet2.start c, hb⟩
  case round =>
    obtain ⟨k, hk, rfl, hn, hbel⟩ := hrel
    clear hb
    by_cases h5 : k < 5
    · obtain ⟨⟨x, y⟩, hxy⟩ : ∃ p, lettersL[k]? = some p := ⟨_, List.getElem?_eq_getElem (show k < lettersL.length by simpa [lettersL] using h5)⟩
      have hi := row_at k h5 x y hxy
      have Hxy := Lib.hid hxy
      clear hxy
      have hb2 := Lib.hid (hbel.alloc hbel.size (.cells #[.int .u8 x, .int .u8 y] 133))
      clear hbel
      by_cases hx : y = c
      · have hit := Lib.hid (NotYet2.hit Hxy.out hx)
        have hd : (y == c) = true := beq_iff_eq.2 hx
        clear hx
        go_wp2
        go_ret2
        exact ⟨by unfold Lets2; rw [hit.out]; rfl, hb2.out⟩
      · have hne := Lib.hid (hn.out.next Hxy.out hx)
        have hd : (y == c) = false := beq_eq_false_iff_ne.2 hx
        clear hx
        go_wp2
        go_roundw
        case rel => exact ⟨k + 1, by omega, by go_num, hne, hb2.out⟩
        case measure => simp [intOf]; omega
    · have h0 : byLetterS c = (0, false) := NotYet2.none_ H47.out (by rw [show (5 : Nat) = k by omega]; exact hn.out)
      have H0 := Lib.hid h0
      clear h0
      go_wp2
      go_ret2
      exact ⟨by unfold Lets2; rw [H0.out]; rfl, hbel⟩

/-- The letter of a byte behind a backslash; 0: it has none. -/
def quote_letter.f (a0 : Int) : Option Int := some (letterS a0)
theorem quote_letter.calls (a0 : Int) (r : Int) (w : World) (h : quote_letter.f a0 = some r) :
    Calls Tryd.prog 86 #[.int .u8 a0] w fun e w' => e = .returned (.int .u8 r) ∧ Below w.heap.size w w' := by
  obtain rfl := Option.some.inj h
  exact letter_any a0 w
/-- The byte of a letter behind a backslash. -/
def quote_byLetter.f (a0 : Int) : Option (Int × Bool) := some (byLetterS a0)
theorem quote_byLetter.calls (a0 : Int) (r1 : Int) (r2 : Bool) (w : World) (h : quote_byLetter.f a0 = some (r1, r2)) :
    Calls Tryd.prog 93 #[.int .u8 a0] w fun e w' => e = .returned (.tuple #[.int .u8 r1, .bool r2]) ∧ Below w.heap.size w w' := by
  have h' : byLetterS a0 = (r1, r2) := Option.some.inj h
  refine (byLetter_any a0 w).mono ?_
  rintro e w' ⟨he, hb⟩
  unfold Lets2 at he
  rw [h'] at he
  exact ⟨he, hb⟩

end Go.Proofs.YtkbjblhompkdkaaDoor
