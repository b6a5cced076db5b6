/- Bytes of numbers, there and back, and their order: what the printed loops come to. -/
import Derived.Test.YtncmkbmggflloaaNumRound
namespace Go.Proofs.Ytncmkbmggflloaa.Pure
open Go.RowKit Go.Proofs.Ytncmkbmggflloaa.PA Go.Proofs.YtncmkbmggflloaaW.PrintWords Go.Proofs.YtncmkbmggflloaaW.PrintLast

/-- The number of bytes, the highest one first, going on from one. -/
def foldB (u : Nat) (l : List Int) : Nat := l.foldl (fun u c => 256 * u + c.toNat) u
def unbytesS (l : List Int) : Int × Int := if l.length = 8 then ((foldB 0 l : Nat) - 9223372036854775808, 0) else (0, 2)

theorem or_low (u : Nat) (c : Int) (hu : u < 72057594037927936) (h0 : 0 ≤ c) (h1 : c ≤ 255) :
    Go.bits .or .u64 (IntKind.u64.wrap ((u : Int) * 256)) (IntKind.u64.wrap c) = ((256 * u + c.toNat : Nat) : Int) := by
  have e1 : IntKind.u64.wrap ((u : Int) * 256) = (u : Int) * 256 := by rw [u64]; omega
  have e2 : IntKind.u64.wrap c = c := by rw [u64]; omega
  rw [e1, e2, bits_join .u64 64 (by decide) (fun n h0 h1 => by rw [u64]; omega) 8 _ _ (by omega) (by omega) (by omega) h0 (by omega) (by omega)]
  omega

section
variable (s : ByteArray) (h8 : s.size = 8)
include h8
theorem unbytes_loop (d : Nat) : ∀ i u : Nat, i ≤ s.size → s.size - i = d → u < 256 ^ i →
    Ev (fun k => num_Unbytes.l0 k s (u : Int) (s.size : Int) (i : Int)) (((foldB u ((bytesOf s).drop i) : Nat) : Int) - 9223372036854775808, 0) := by
  induction d with
  | zero =>
    intro i u hi hd hu
    have h8i : i = 8 := by omega
    subst h8i
    have hu' : u < 18446744073709551616 := by simpa using hu
    rw [bytes_end s (by omega)]
    refine Ev.step (f := fun _ => some ((u : Int) - 9223372036854775808, 0)) (fun k => ?_) (Ev.now _)
    simp only [num_Unbytes.l0]
    rw [if_neg (by omega), show (9223372036854775808 : Int) = ((9223372036854775808 : Nat) : Int) from rfl, u64_xor_nat _ _ hu' (by omega), xor_top_nat _ hu']
    congr 2
    unfold wrap64
    omega
  | succ d ih =>
    intro i u hi hd hu
    have hlt : i < s.size := by omega
    rw [bytes_drop s hlt]
    have hb := bt_range s (i : Int)
    have hp : (256 : Nat) ^ i ≤ 256 ^ 7 := Nat.pow_le_pow_right (by omega) (by omega)
    have hp2 : (256 : Nat) ^ (i + 1) = 256 ^ i * 256 := Nat.pow_succ ..
    have e7 : (256 : Nat) ^ 7 = 72057594037927936 := by decide
    have ih := ih (i + 1) (256 * u + (bt s (i : Int)).toNat) (by omega) (by omega) (by omega)
    refine Ev.step (f := fun k => num_Unbytes.l0 k s ((256 * u + (bt s (i : Int)).toNat : Nat) : Int) (s.size : Int) ((i + 1 : Nat) : Int)) (fun k => ?_) ih
    simp only [num_Unbytes.l0]
    rw [if_pos (by omega), if_pos (by omega), if_pos (by omega), or_low u _ (by omega) (by omega) (by omega), i_next hlt (by omega)]
end
theorem unbytes_ev (s : ByteArray) : Ev (fun k => num_Unbytes.f k s) (unbytesS (bytesOf s)) := by
  unfold num_Unbytes.f unbytesS
  rw [bytesOf_length]
  by_cases h8 : s.size = 8
  · rw [if_pos h8]
    refine Ev.congr (f := fun k => num_Unbytes.l0 k s ((0 : Nat) : Int) (s.size : Int) ((0 : Nat) : Int)) (fun k => by rw [if_pos (by omega)]; rfl) ?_
    have := unbytes_loop s h8 8 0 0 (by omega) (by omega) (by simp)
    rw [List.drop_zero] at this
    exact this
  · rw [if_neg h8]
    exact Ev.congr (f := fun _ => some (0, 2)) (fun k => by rw [if_neg (by omega)]) (Ev.now _)

/-! ### eight bytes -/
theorem eight {α : Type} (l : List α) (h : l.length = 8) : ∃ a b c d e f g i, l = [a, b, c, d, e, f, g, i] := by
  match l, h with
  | [a, b, c, d, e, f, g, i], _ => exact ⟨a, b, c, d, e, f, g, i, rfl⟩
theorem be8_eq (u : Nat) : be8 u = [((u / 72057594037927936 % 256 : Nat) : Int), ((u / 281474976710656 % 256 : Nat) : Int), ((u / 1099511627776 % 256 : Nat) : Int), ((u / 4294967296 % 256 : Nat) : Int), ((u / 16777216 % 256 : Nat) : Int), ((u / 65536 % 256 : Nat) : Int), ((u / 256 % 256 : Nat) : Int), ((u % 256 : Nat) : Int)] := by
  simp [be8, List.range_succ]
/-- The last k bytes of a number. -/
def digsB : Nat → Nat → List Int
  | 0, _ => []
  | k + 1, u => digsB k (u / 256) ++ [((u % 256 : Nat) : Int)]
theorem be8_digs (u : Nat) : be8 u = digsB 8 u := by
  rw [be8_eq]
  simp [digsB, Nat.div_div_eq_div_mul]
theorem foldB_snoc (l : List Int) (c : Int) : foldB 0 (l ++ [c]) = 256 * foldB 0 l + c.toNat := by simp [foldB]
theorem foldB_digs (k : Nat) : ∀ u, u < 256 ^ k → foldB 0 (digsB k u) = u := by
  induction k with
  | zero => intro u h; simp at h; subst h; rfl
  | succ k ih =>
    intro u h
    rw [digsB, foldB_snoc, ih (u / 256) (by rw [Nat.pow_succ] at h; omega)]
    omega
theorem digs_foldB (k : Nat) : ∀ l : List Int, l.length = k → (∀ x ∈ l, 0 ≤ x ∧ x ≤ 255) → digsB k (foldB 0 l) = l ∧ foldB 0 l < 256 ^ k := by
  induction k with
  | zero =>
    intro l hl _
    rw [List.eq_nil_of_length_eq_zero hl]
    exact ⟨rfl, by simp [foldB]⟩
  | succ k ih =>
    intro l hl hb
    have hn : l ≠ [] := by intro e; subst e; simp at hl
    obtain ⟨m, c, rfl⟩ : ∃ m c, l = m ++ [c] := ⟨l.dropLast, l.getLast hn, (List.dropLast_concat_getLast hn).symm⟩
    obtain ⟨e, hlt⟩ := ih m (by simpa using hl) (fun x hx => hb x (by simp [hx]))
    have hc := hb c (by simp)
    rw [foldB_snoc, digsB, Nat.pow_succ]
    constructor
    · rw [show (256 * foldB 0 m + c.toNat) / 256 = foldB 0 m by omega, e]
      congr 2
      omega
    · omega
theorem foldB_be8 (u : Nat) (h : u < 18446744073709551616) : foldB 0 (be8 u) = u := by
  rw [be8_digs]
  have e : (256 : Nat) ^ 8 = 18446744073709551616 := by decide
  exact foldB_digs 8 u (by omega)
theorem be8_foldB (l : List Int) (h8 : l.length = 8) (hl : ∀ x ∈ l, 0 ≤ x ∧ x ≤ 255) : be8 (foldB 0 l) = l ∧ foldB 0 l < 18446744073709551616 := by
  have e : (256 : Nat) ^ 8 = 18446744073709551616 := by decide
  have := digs_foldB 8 l h8 hl
  rw [be8_digs, ← e]
  exact this
theorem be8_bytes (u : Nat) : ∀ x ∈ be8 u, 0 ≤ x ∧ x ≤ 255 := by
  intro x hx
  simp only [be8, List.mem_map, List.mem_range] at hx
  obtain ⟨i, -, rfl⟩ := hx
  omega

end Go.Proofs.Ytncmkbmggflloaa.Pure
