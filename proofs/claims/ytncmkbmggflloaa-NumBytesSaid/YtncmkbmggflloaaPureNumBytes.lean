/- NumBytes is true of all numbers and texts: bytes are the document's, and in the numbers' order. -/
import Derived.Test.YtncmkbmggflloaaUnbytes
import Derived.Lib.Bytes
namespace Go.Proofs.Ytncmkbmggflloaa.Pure
open Go.RowKit Go.Proofs.Ytncmkbmggflloaa.PA Go.Proofs.YtncmkbmggflloaaW.PrintWords Go.Proofs.YtncmkbmggflloaaW.PrintLast

section
variable (s : ByteArray) (h8 : s.size = 8)
include h8
theorem refUnbytes_loop (d : Nat) : ∀ i u : Nat, i ≤ s.size → s.size - i = d → u < 256 ^ i →
    Ev (fun k => placketref01_Unbytes.l0 k s (u : Int) (i : Int)) (((foldB u ((bytesOf s).drop i) : Nat) : Int) - 9223372036854775808, 0) := by
  induction d with
  | zero =>
    intro i u hi hd hu
    have h8i : i = 8 := by omega
    subst h8i
    have hu' : u < 18446744073709551616 := by simpa using hu
    rw [bytes_end s (by omega)]
    refine Ev.step (f := fun _ => some ((u : Int) - 9223372036854775808, 0)) (fun k => ?_) (Ev.now _)
    simp only [placketref01_Unbytes.l0]
    rw [if_neg (by omega), u64]
    congr 2
    unfold wrap64
    omega
  | succ d ih =>
    intro i u hi hd hu
    have hlt : i < s.size := by omega
    rw [bytes_drop s hlt]
    have hb := bt_range s (i : Int)
    have hp : (256 : Nat) ^ i ≤ 256 ^ 7 := Nat.pow_le_pow_right (by omega) (by omega)
    have hp2 : (256 : Nat) ^ (i + 1) = 256 ^ i * 256 := Nat.pow_succ ..
    have e7 : (256 : Nat) ^ 7 = 72057594037927936 := by decide
    have ih := ih (i + 1) (256 * u + (bt s (i : Int)).toNat) (by omega) (by omega) (by omega)
    refine Ev.step (f := fun k => placketref01_Unbytes.l0 k s ((256 * u + (bt s (i : Int)).toNat : Nat) : Int) ((i + 1 : Nat) : Int)) (fun k => ?_) ih
    simp only [placketref01_Unbytes.l0]
    rw [if_pos (by omega), if_pos (by omega), if_pos (by omega), i_next hlt (by omega)]
    congr 1
    simp only [u64]
    omega
end
theorem refUnbytes_ev (s : ByteArray) : Ev (fun k => placketref01_Unbytes.f k s) (unbytesS (bytesOf s)) := by
  unfold placketref01_Unbytes.f unbytesS
  rw [bytesOf_length]
  by_cases h8 : s.size = 8
  · rw [if_pos h8]
    refine Ev.congr (f := fun k => placketref01_Unbytes.l0 k s ((0 : Nat) : Int) ((0 : Nat) : Int)) (fun k => by rw [if_pos (by omega)]; rfl) ?_
    have := refUnbytes_loop s h8 8 0 0 (by omega) (by omega) (by simp)
    rw [List.drop_zero] at this
    exact this
  · rw [if_neg h8]
    exact Ev.congr (f := fun _ => some (0, 2)) (fun k => by rw [if_neg (by omega)]) (Ev.now _)

theorem sh_count (i : Nat) (h : i ≤ 7) : IntKind.u64.wrap (wrap64 (56 - (wrap64 (8 * (i : Int))))) = ((8 * (7 - i) : Nat) : Int) := by
  rw [w64 (n := 8 * (i : Int)) (by omega) (by omega), w64 (by omega) (by omega), u64, Int.emod_eq_of_lt (by omega) (by omega)]
  omega
theorem refBytes_loop (u : Nat) (d : Nat) : ∀ (i : Nat) (xs : List Int), i ≤ 8 → 8 - i = d → xs.length = 8 → xs.take i = (be8 u).take i →
    Ev (fun k => placketref01_Bytes.l0 k (u : Int) xs (i : Int)) (strOfNums (be8 u)) := by
  induction d with
  | zero =>
    intro i xs hi hd hl ht
    have h8 : i = 8 := by omega
    subst h8
    rw [List.take_of_length_le (by omega), List.take_of_length_le (by rw [be8_length]; omega)] at ht
    subst ht
    refine Ev.step (f := fun _ => some (strOfNums (be8 u))) (fun k => ?_) (Ev.now _)
    simp only [placketref01_Bytes.l0]
    rw [if_neg (by omega)]
  | succ d ih =>
    intro i xs hi hd hl ht
    have hb : (be8 u)[i]'(by rw [be8_length]; omega) = ((u / 256 ^ (7 - i) % 256 : Nat) : Int) := by simp [be8]
    have ih := ih (i + 1) (xs.set i ((u / 256 ^ (7 - i) % 256 : Nat) : Int)) (by omega) (by omega) (by simp [hl]) (by
      rw [List.take_succ_eq_append_getElem (by simp [hl]; omega), List.take_succ_eq_append_getElem (by rw [be8_length]; omega), hb, List.take_set_of_le (by omega), ht]
      simp)
    have hsh : IntKind.u64.wrap (wrap64 (56 - (wrap64 (8 * (i : Int))))) = ((8 * (7 - i) : Nat) : Int) := sh_count i (by omega)
    have hdiv : shr .u64 (u : Int) ((8 * (7 - i) : Nat) : Int) % 256 = ((u / 256 ^ (7 - i) % 256 : Nat) : Int) := by
      have e1 : shr .u64 (u : Int) ((8 * (7 - i) : Nat) : Int) = (u : Int) / 2 ^ (8 * (7 - i)) := by
        unfold shr
        rw [Int.toNat_natCast, Nat.min_eq_left (by simp only [IntKind.bits]; omega)]
      have e2 : (2 : Int) ^ (8 * (7 - i)) = ((256 ^ (7 - i) : Nat) : Int) := by
        rw [Int.pow_mul]
        simp
      rw [e1, e2, ← Int.natCast_ediv]
      simp
    refine Ev.step (f := fun k => placketref01_Bytes.l0 k (u : Int) (xs.set i ((u / 256 ^ (7 - i) % 256 : Nat) : Int)) ((i + 1 : Nat) : Int)) (fun k => ?_) ih
    simp only [placketref01_Bytes.l0]
    rw [if_pos (by omega), hsh, if_pos (by omega), if_pos (by omega), if_pos (by omega), hdiv, Int.toNat_natCast, show wrap64 ((i : Int) + 1) = ((i + 1 : Nat) : Int) by unfold wrap64; omega]

theorem refBytes_ev (n : Int) (h0 : -9223372036854775808 ≤ n) (h1 : n ≤ 9223372036854775807) : Ev (fun k => placketref01_Bytes.f k n) (strOfNums (be8 (n + 9223372036854775808).toNat)) := by
  unfold placketref01_Bytes.f
  have e0 : (n % 18446744073709551616 + 9223372036854775808) % 18446744073709551616 = n + 9223372036854775808 := by omega
  have e : IntKind.u64.wrap ((IntKind.u64.wrap n) + 9223372036854775808) = ((n + 9223372036854775808).toNat : Int) := by
    rw [u64, u64, e0, Int.toNat_of_nonneg (by omega)]
  rw [e]
  generalize (n + 9223372036854775808).toNat = u
  have := refBytes_loop u 8 0 (List.replicate 8 0) (by omega) (by omega) (by simp) (by simp)
  exact Ev.congr (fun k => by rw [if_pos (by decide), Int.natCast_zero]) this

/-- Bytes of equally many are in the order of the numbers. -/
theorem less_foldB (l : List Int) : ∀ m : List Int, l.length = m.length → (∀ x ∈ l, 0 ≤ x ∧ x ≤ 255) → (∀ x ∈ m, 0 ≤ x ∧ x ≤ 255) →
    Op.bytesLess (l.map fun n => UInt8.ofNat n.toNat) (m.map fun n => UInt8.ofNat n.toNat) = decide (foldB 0 l < foldB 0 m) := by
  have key : ∀ (l m : List Int) (u v : Nat), l.length = m.length → (∀ x ∈ l, 0 ≤ x ∧ x ≤ 255) → (∀ x ∈ m, 0 ≤ x ∧ x ≤ 255) → u < v → foldB u l < foldB v m := by
    intro l
    induction l with
    | nil =>
      intro m u v hl _ _ h
      rw [List.eq_nil_of_length_eq_zero hl.symm]
      exact h
    | cons c l ih =>
      intro m u v hl hc hm h
      match m, hl with
      | d :: m, hl =>
        have h1 := hc c (by simp)
        have h2 := hm d (by simp)
        refine ih m (256 * u + c.toNat) (256 * v + d.toNat) (by simpa using hl) (fun x hx => hc x (by simp [hx])) (fun x hx => hm x (by simp [hx])) ?_
        omega
  have main : ∀ (l m : List Int) (u : Nat), l.length = m.length → (∀ x ∈ l, 0 ≤ x ∧ x ≤ 255) → (∀ x ∈ m, 0 ≤ x ∧ x ≤ 255) →
      Op.bytesLess (l.map fun n => UInt8.ofNat n.toNat) (m.map fun n => UInt8.ofNat n.toNat) = decide (foldB u l < foldB u m) := by
    intro l
    induction l with
    | nil =>
      intro m u hl _ _
      rw [List.eq_nil_of_length_eq_zero hl.symm]
      simp [Op.bytesLess]
    | cons c l ih =>
      intro m u hl hc hm
      match m, hl with
      | d :: m, hl =>
        have h1 := hc c (by simp)
        have h2 := hm d (by simp)
        have hl' : l.length = m.length := by simpa using hl
        have e1 : foldB u (c :: l) = foldB (256 * u + c.toNat) l := rfl
        have e2 : foldB u (d :: m) = foldB (256 * u + d.toNat) m := rfl
        have elt : (UInt8.ofNat c.toNat < UInt8.ofNat d.toNat) ↔ c.toNat < d.toNat := by
          rw [UInt8.lt_iff_toNat_lt]
          simp
          omega
        have eeq : (UInt8.ofNat c.toNat = UInt8.ofNat d.toNat) ↔ c.toNat = d.toNat := by
          rw [← UInt8.toNat_inj]
          simp
          omega
        rw [e1, e2, List.map_cons, List.map_cons, Op.bytesLess]
        rcases Nat.lt_trichotomy c.toNat d.toNat with h | h | h
        · have := key l m (256 * u + c.toNat) (256 * u + d.toNat) hl' (fun x hx => hc x (by simp [hx])) (fun x hx => hm x (by simp [hx])) (by omega)
          rw [decide_eq_true (elt.2 h), decide_eq_true this]
          rfl
        · have := ih m (256 * u + d.toNat) hl' (fun x hx => hc x (by simp [hx])) (fun x hx => hm x (by simp [hx]))
          rw [h, decide_eq_false (by rw [UInt8.lt_iff_toNat_lt]; omega), this]
          simp
        · have := key m l (256 * u + d.toNat) (256 * u + c.toNat) hl'.symm (fun x hx => hm x (by simp [hx])) (fun x hx => hc x (by simp [hx])) (by omega)
          rw [decide_eq_false (fun hh => by have := elt.1 hh; omega), decide_eq_false (show ¬ foldB (256 * u + c.toNat) l < foldB (256 * u + d.toNat) m by omega)]
          have : (UInt8.ofNat c.toNat == UInt8.ofNat d.toNat) = false := beq_eq_false_iff_ne.2 (fun hh => by have := eeq.1 hh; omega)
          rw [this]
          rfl
  intro m h1 h2 h3
  exact main l m 0 h1 h2 h3

theorem NumBytes : placketlaw01_NumBytes.Pure := by
  intro a b s wa wb hs
  obtain ⟨ha0, ha1⟩ := i64_wf wa
  obtain ⟨hb0, hb1⟩ := i64_wf wb
  have bs : ∀ {n : Int}, -9223372036854775808 ≤ n → n ≤ 9223372036854775807 → num_Bytes.f n = some (strOfNums (be8 (n + 9223372036854775808).toNat)) := by
    intro n h0 h1
    unfold num_Bytes.f
    rw [if_pos ⟨h0, h1⟩]
  apply Ev.rounds
  unfold placketlaw01_NumBytes.f
  refine Ev.bind live_ev ?_
  by_cases hb : (s.size : Int) > 200
  · refine Ev.step (f := fun k => (placketlaw01_live.f k).bind fun t => some t) (fun k => ?_) (Ev.bind live_ev (Ev.now _))
    rw [if_pos rfl, decide_eq_true hb]
    simp only [placketlaw01_NumBytes.j0]
    rw [if_pos trivial]
  · refine Ev.step (f := fun k => (num_Unbytes.f k s).bind fun x => (placketref01_Unbytes.f k s).bind fun y => (placketref01_Bytes.f k a).bind fun t => if (strOfNums (be8 (a + 9223372036854775808).toNat)).toList = t.toList then (if x.1 = y.1 then (if x.2 = y.2 then some (Op.bytesLess (strOfNums (be8 (a + 9223372036854775808).toNat)).toList (strOfNums (be8 (b + 9223372036854775808).toNat)).toList == decide (a < b)) else some false) else some false) else some false) (fun k => ?_) ?_
    · rw [if_pos rfl, decide_eq_false hb]
      simp only [placketlaw01_NumBytes.j0]
      rw [if_neg (by simp), bs ha0 ha1, bs hb0 hb1]
      simp only [Option.bind_some]
    · refine Ev.bind (unbytes_ev s) (Ev.bind (refUnbytes_ev s) (Ev.bind (refBytes_ev a ha0 ha1) ?_))
      refine Ev.congr (f := fun _ => some true) (fun k => ?_) (Ev.now _)
      simp only [if_true]
      rw [Lib.strOfNums_toList, Lib.strOfNums_toList]
      unfold Lib.bytesOf
      rw [less_foldB _ _ (by rw [be8_length, be8_length]) (be8_bytes _) (be8_bytes _), foldB_be8 _ (by omega), foldB_be8 _ (by omega)]
      simp only [Option.some.injEq, beq_iff_eq, decide_eq_decide]
      omega

end Go.Proofs.Ytncmkbmggflloaa.Pure
