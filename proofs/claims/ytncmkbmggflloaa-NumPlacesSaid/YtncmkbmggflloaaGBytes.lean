/- num.Bytes comes to the eight bytes of its number and 2^63 together, the highest one first. -/
import Derived.Test.YtncmkbmggflloaaGDigits
import Derived.Laws.BitsAllLaws
namespace Go.Proofs.Ytncmkbmggflloaa
open Go.RowKit Go.Proofs.YtncmkbmggflloaaW.PrintWords Go.Proofs.YtncmkbmggflloaaW.PrintLast Go.Proofs.YtncmkbmggflloaaW.PrintMore
set_option linter.unusedVariables false
set_option linter.unusedSimpArgs false

/-- The eight bytes of a number, the highest one first. -/
def be8 (u : Nat) : List Int := (List.range 8).map fun i => ((u / 256 ^ (7 - i) % 256 : Nat) : Int)
theorem be8_length (u : Nat) : (be8 u).length = 8 := by simp [be8]
theorem be8_drop (u k : Nat) (h : k < 8) : (be8 u).drop k = ((u / 256 ^ (7 - k) % 256 : Nat) : Int) :: (be8 u).drop (k + 1) := by
  rw [List.drop_eq_getElem_cons (by rw [be8_length]; exact h)]
  simp [be8]

structure ByInv (u0 u k : Nat) (xs : List Int) : Prop where
  len : xs.length = 8
  hi : k ≤ 8
  eq : u = u0 / 256 ^ (8 - k)
  rest : xs.drop k = (be8 u0).drop k
theorem ByInv.start (u0 : Nat) : ByInv u0 u0 8 (List.replicate 8 0) := ⟨by simp, by omega, by simp, by simp [be8]⟩
theorem ByInv.step {u0 u k : Nat} {xs : List Int} (h : ByInv u0 u (k + 1) xs) : ByInv u0 (u / 256) k (xs.set k ((u : Int) % 256)) := by
  have hk := h.hi
  refine ⟨by simp [h.len], by omega, ?_, ?_⟩
  · rw [h.eq, Nat.div_div_eq_div_mul, show 8 - k = 8 - (k + 1) + 1 by omega, Nat.pow_succ]
  · have e := be8_drop u0 k (by omega)
    rw [drop_set_at _ _ _ (by rw [h.len]; omega), h.rest, e, h.eq, show 8 - (k + 1) = 7 - k by omega]
    simp
theorem ByInv.done {u0 u : Nat} {xs : List Int} (h : ByInv u0 u 0 xs) : xs = be8 u0 := by simpa using h.rest

theorem xor_top_nat (a : Nat) (ha : a < 18446744073709551616) : a ^^^ 9223372036854775808 = (a + 9223372036854775808) % 18446744073709551616 := by
  have e : (9223372036854775808 : Nat) = 2 ^ 63 := by decide
  have hm : (a ^^^ 9223372036854775808) % 2 ^ 63 = a % 2 ^ 63 := by
    rw [Nat.xor_mod_two_pow, e]; simp
  have hd : (a ^^^ 9223372036854775808) / 2 ^ 63 = (a / 2 ^ 63) ^^^ 1 := by
    rw [← Nat.shiftRight_eq_div_pow, Nat.shiftRight_xor_distrib, Nat.shiftRight_eq_div_pow, Nat.shiftRight_eq_div_pow, e]
  have h1 : a / 2 ^ 63 = 0 ∨ a / 2 ^ 63 = 1 := by omega
  rcases h1 with h1 | h1 <;> rw [h1] at hd <;> simp at hd <;> omega
theorem xor_top (n : Int) (h0 : -9223372036854775808 ≤ n) (h1 : n ≤ 9223372036854775807) : bits .xor .u64 (IntKind.u64.wrap n) 9223372036854775808 = ((n + 9223372036854775808).toNat : Int) := by
  have e : IntKind.u64.wrap n = ((n % 18446744073709551616).toNat : Int) := by
    simp only [IntKind.wrap, IntKind.bits, IntKind.signed]
    simp
    omega
  rw [e, show (9223372036854775808 : Int) = ((9223372036854775808 : Nat) : Int) from rfl, u64_xor_nat _ _ (by omega) (by omega), xor_top_nat _ (by omega)]
  omega

theorem cut_all (W : World) (B : Nat) :
    (Instr.sliceAt 45 (.pointer (some ⟨B, 0, none⟩)) none none none).run Try.prog W = .ok (.slice (some ⟨B, 0, none⟩) 8 8) W := by
  have hl : Try.prog.arrayLen 45 = 8 := by kernel_rfl
  have he : Try.prog.elem 45 = 5 := by kernel_rfl
  have hu : Try.prog.underlying 45 = some (.array (Try.prog.arrayLen 45) (Try.prog.elem 45)) := by kernel_rfl
  rw [run_sliceAt_array_all W _ _ hu, hl, he]
  have hz : (sizeOf 5).run Try.prog W = .ok 1 W := by kernel_rfl
  rw [hz]
  simp [Result.andThen, slicedAt, Addr.add]

set_option maxHeartbeats 2000000 in
set_option maxRecDepth 100000 in
theorem bytes_any (n : Int) (w : World) (h0 : -9223372036854775808 ≤ n) (h1 : n ≤ 9223372036854775807) :
    Calls Try.prog 26 #[.int .i64 n] w fun e w' => e = .returned (.string (strOfNums (be8 (n + 9223372036854775808).toNat))) ∧ Below w.heap.size w w' := by
  have hx := xor_top n h0 h1
  have hu0 : (n + 9223372036854775808).toNat ≤ 18446744073709551615 := by omega
  generalize (n + 9223372036854775808).toNat = u0 at *
  have st := Lib.hid (ByInv.start u0)
  go_enter Try.func26, Try.ntmps26
  go_wp2
  go_loopw [3, 5] (fun u i wr => ∃ (k uu : Nat) (xs : List Int), i = .int .i64 ((k : Int) - 1) ∧ u = .int .u64 (uu : Int) ∧ uu ≤ 18446744073709551615 ∧ k ≤ 8 ∧ Hid (ByInv u0 uu k xs) ∧ Hid (wr.heap[w.heap.size]? = some (.cells (nums .u8 xs).toArray 45 (0, 0))) ∧ Below w.heap.size w wr)
    (fun _ i _ => (intOf i + 1).toNat)
  case atStart => exact ⟨8, u0, List.replicate 8 0, rfl, rfl, by omega, by omega, st, heap_new w _, (Below.refl _ _).alloc (Nat.le_refl _) _⟩
  case round =>
    obtain ⟨k, u, xs, rfl, rfl, hub, hk8, hinv, hheap, hbel⟩ := hrel
    by_cases hk : k = 0
    · subst hk
      have hcut := cut_all wr w.heap.size
      have hconv := conv_tail (P := Try.prog) (src := 42) (e := 5) (dst := 9) hheap.out 0 8 8 (by rw [hinv.out.len]) Try.underlying42 Try.underlying5 Try.underlying9
      rw [List.drop_zero, hinv.out.done] at hconv
      go_wp2
      go_ret
      exact ⟨rfl, hbel⟩
    · obtain ⟨j, rfl⟩ : ∃ j, k = j + 1 := ⟨k - 1, by omega⟩
      obtain ⟨hc1, hc2⟩ := cell_nums hheap.out (i := j) (by rw [hinv.out.len]; omega)
      have hset := Lib.hid (heap_set hheap.out j ((u : Int) % 256))
      have hstep := Lib.hid hinv.out.step
      have hbel1 := Lib.hid (hbel.setCell (p := ⟨w.heap.size, j, none⟩) (Nat.le_refl _) (.int .u8 ((u : Int) % 256)))
      clear hbel hk
      go_wp2
      go_roundw
      case rel => exact ⟨j, u / 256, _, by go_num, by go_num, by omega, by omega, hstep, hset, hbel1.out⟩
      case measure => simp [intOf]

/-- The bytes of a number of 64 bits; of any other nothing is told. -/
def num_Bytes.f (a0 : Int) : Option ByteArray := if -9223372036854775808 ≤ a0 ∧ a0 ≤ 9223372036854775807 then some (strOfNums (be8 (a0 + 9223372036854775808).toNat)) else none
theorem num_Bytes.calls (a0 : Int) (r : ByteArray) (w : World) (h : num_Bytes.f a0 = some r) :
    Calls Try.prog 26 #[.int .i64 a0] w fun e w' => e = .returned (.string r) ∧ Below w.heap.size w w' := by
  unfold num_Bytes.f at h
  split at h
  · rename_i hb
    obtain rfl := Option.some.inj h
    exact bytes_any a0 w hb.1 hb.2
  · cases h

end Go.Proofs.Ytncmkbmggflloaa
