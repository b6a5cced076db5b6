/- Digits and bytes, there and back: plain laws on lists of numbers. -/
import Derived.Test.YtncmkbmggflloaaRefNum
namespace Go.Proofs.Ytncmkbmggflloaa.Pure
open Go.RowKit Go.Proofs.Ytncmkbmggflloaa.PA Go.Proofs.YtncmkbmggflloaaW.PrintWords Go.Proofs.YtncmkbmggflloaaW.PrintLast

theorem bytesOf_range (s : ByteArray) : ∀ x ∈ bytesOf s, 0 ≤ x ∧ x ≤ 255 := by
  intro x hx
  simp only [bytesOf, List.mem_map] at hx
  obtain ⟨b, -, rfl⟩ := hx
  have := b.toNat_lt
  omega
theorem bytesOf_strOfNums (l : List Int) (h : ∀ x ∈ l, 0 ≤ x ∧ x ≤ 255) : bytesOf (strOfNums l) = l := by
  unfold bytesOf
  rw [strOfNums_data, List.map_map]
  conv => rhs; rw [← List.map_id l]
  apply List.map_congr_left
  intro x hx
  have := h x hx
  simp
  omega
theorem strOfNums_bytesOf (s : ByteArray) : strOfNums (bytesOf s) = s := by
  apply ByteArray.ext
  apply Array.toList_inj.1
  rw [strOfNums_data]
  unfold bytesOf
  rw [List.map_map, show ((fun n : Int => UInt8.ofNat n.toNat) ∘ fun b : UInt8 => (b.toNat : Int)) = id from funext fun b => by simp, List.map_id]
theorem head_app {l m : List Int} (h : l ≠ []) : (l ++ m).head? = l.head? := by
  cases l with
  | nil => exact absurd rfl h
  | cons c l => rfl

theorem foldV_snoc (v : Nat) (l : List Int) (d : Int) : foldV v (l ++ [d]) = 10 * foldV v l + (d - 48).toNat := by simp [foldV]
theorem foldV_decL (u : Nat) : foldV 0 (decL u) = u := by
  induction u using Nat.strongRecOn with
  | _ u ih =>
  by_cases h : u < 10
  · rw [decL_small h]
    simp [foldV]
    omega
  · rw [decL_big h, foldV_snoc, ih (u / 10) (by omega)]
    omega
theorem decL_ne (u : Nat) : decL u ≠ [] := by
  by_cases h : u < 10
  · rw [decL_small h]; simp
  · rw [decL_big h]; simp
theorem decL_head (u : Nat) : (decL u).head? = some 48 → u = 0 := by
  induction u using Nat.strongRecOn with
  | _ u ih =>
  by_cases h : u < 10
  · rw [decL_small h]
    simp
    omega
  · rw [decL_big h, head_app (decL_ne _)]
    intro hh
    have := ih (u / 10) (by omega) hh
    omega
theorem decL_dig (u : Nat) : allDig (decL u) := decL_range u
theorem decL_bytes (u : Nat) : ∀ x ∈ decL u, 0 ≤ x ∧ x ≤ 255 := fun x hx => by have := decL_range u x hx; omega
theorem digL_bytes (n : Int) : ∀ x ∈ digL n, 0 ≤ x ∧ x ≤ 255 := by
  unfold digL
  split
  · intro x hx
    rcases List.mem_cons.1 hx with rfl | hx
    · omega
    · exact decL_bytes _ x hx
  · exact decL_bytes _

theorem decL_of_small (l : List Int) (ha : allDig l) (hl : l.length = 1) : decL (foldV 0 l) = l := by
  match l, hl with
  | [c], _ =>
    have := ha c (by simp)
    have e : foldV 0 [c] = (c - 48).toNat := by simp [foldV]
    rw [e, decL_small (by omega)]
    congr 1
    omega
theorem foldV_pos (l : List Int) (ha : allDig l) (hn : l ≠ []) (hh : l.head? ≠ some 48) : 0 < foldV 0 l := by
  match l with
  | [] => exact absurd rfl hn
  | c :: l =>
    have hc := ha c (by simp)
    have h48 : c ≠ 48 := by simpa using hh
    have := foldV_ge l (10 * 0 + (c - 48).toNat)
    show 0 < foldV (10 * 0 + (c - 48).toNat) l
    omega
/-- Digits without noughts in front are those of their number. -/
theorem decL_foldV (n : Nat) : ∀ l : List Int, l.length = n → allDig l → l ≠ [] → ¬ (l.head? = some 48 ∧ 1 < l.length) → decL (foldV 0 l) = l := by
  induction n with
  | zero => intro l hl _ hn; exact absurd (List.eq_nil_of_length_eq_zero hl) hn
  | succ n ih =>
    intro l hl ha hn hz
    by_cases h1 : l.length = 1
    · exact decL_of_small l ha h1
    · obtain ⟨m, d, rfl⟩ : ∃ m d, l = m ++ [d] := ⟨l.dropLast, l.getLast hn, (List.dropLast_concat_getLast hn).symm⟩
      have hm : m.length = n := by simpa using hl
      have hmn : m ≠ [] := by
        intro e
        subst e
        simp at h1
      have ham : allDig m := fun c hc => ha c (by simp [hc])
      have hd := ha d (by simp)
      have hh : (m ++ [d]).head? = m.head? := head_app hmn
      have hz' : m.head? ≠ some 48 := by
        intro e
        refine hz ⟨by rw [hh]; exact e, ?_⟩
        simp
        exact List.length_pos_iff.2 hmn
      have hp := foldV_pos m ham hmn hz'
      have e := ih m hm ham hmn (fun h => hz' h.1)
      rw [foldV_snoc, decL_big (by omega), show (10 * foldV 0 m + (d - 48).toNat) / 10 = foldV 0 m by omega, e]
      congr 2
      omega

theorem parseS_digL (n : Int) (h0 : -9223372036854775808 ≤ n) (h1 : n ≤ 9223372036854775807) : parseS (digL n) = (n, 0) := by
  unfold digL parseS
  by_cases hn : n < 0
  · rw [if_pos hn, if_pos (by simp), if_pos, List.tail_cons, foldV_decL]
    · unfold finS
      rw [if_pos rfl, if_neg (by omega)]
      congr 1
      omega
    · refine ⟨decL_dig _, decL_ne _, fun h => ?_⟩
      have := decL_head _ h.1
      omega
  · rw [if_neg hn, if_neg, if_pos, foldV_decL]
    · unfold finS
      rw [if_neg (by simp), if_neg (by omega)]
      congr 1
      omega
    · refine ⟨decL_dig _, decL_ne _, fun h => ?_⟩
      have := decL_head _ h.1
      rw [this] at h
      have h2 := h.2
      rw [decL_small (by omega)] at h2
      simp at h2
    · intro h
      have hm := List.mem_of_mem_head? (Option.mem_def.2 h)
      have := decL_range _ _ hm
      omega
theorem digL_parseS (l : List Int) (h : (parseS l).2 = 0) : digL (parseS l).1 = l := by
  unfold parseS at h ⊢
  by_cases hm : l.head? = some 45
  · obtain ⟨t, rfl⟩ : ∃ t, l = 45 :: t := by
      match l, hm with
      | c :: t, hm => exact ⟨t, by simp at hm; rw [hm]⟩
    rw [if_pos hm] at h ⊢
    rw [List.tail_cons] at h ⊢
    by_cases hD : Digs (1 < (45 :: t).length) t
    · rw [if_pos hD] at h ⊢
      obtain ⟨ha, hne, hz⟩ := hD
      have hlong : 1 < (45 :: t).length := by simp; exact List.length_pos_iff.2 hne
      have hz' : t.head? ≠ some 48 := fun e => hz ⟨e, hlong⟩
      have hp := foldV_pos t ha hne hz'
      unfold finS at h ⊢
      rw [if_pos rfl] at h ⊢
      by_cases hb : foldV 0 t > 9223372036854775808
      · rw [if_pos hb] at h; simp at h
      · rw [if_neg hb]
        unfold digL
        rw [if_pos (by omega)]
        congr 1
        rw [show (-((foldV 0 t : Nat) : Int)).natAbs = foldV 0 t by omega]
        exact decL_foldV _ t rfl ha hne (fun e => hz' e.1)
    · rw [if_neg hD] at h; simp at h
  · rw [if_neg hm] at h ⊢
    by_cases hD : Digs (1 < l.length) l
    · rw [if_pos hD] at h ⊢
      obtain ⟨ha, hne, hz⟩ := hD
      unfold finS at h ⊢
      rw [if_neg (show ¬ (false = true) by simp)] at h ⊢
      by_cases hb : foldV 0 l > 9223372036854775807
      · rw [if_pos hb] at h; simp at h
      · rw [if_neg hb]
        unfold digL
        rw [if_neg (by omega)]
        rw [show ((foldV 0 l : Nat) : Int).natAbs = foldV 0 l by omega]
        exact decL_foldV _ l rfl ha hne hz
    · rw [if_neg hD] at h; simp at h
theorem parseS_range (l : List Int) : -9223372036854775808 ≤ (parseS l).1 ∧ (parseS l).1 ≤ 9223372036854775807 := by
  unfold parseS finS
  repeat' split
  all_goals (simp only []; omega)

end Go.Proofs.Ytncmkbmggflloaa.Pure
