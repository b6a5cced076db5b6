/- What parsing a number comes to: the printed loop, as a law on lists of bytes. -/
import Derived.Test.YtncmkbmggflloaaNumPure
namespace Go.Proofs.Ytncmkbmggflloaa.Pure
open Go.RowKit Go.Proofs.Ytncmkbmggflloaa.PA Go.Proofs.YtncmkbmggflloaaW.PrintWords Go.Proofs.YtncmkbmggflloaaW.PrintLast

theorem bytes_drop (s : ByteArray) {i : Nat} (h : i < s.size) : (bytesOf s).drop i = bt s (i : Int) :: (bytesOf s).drop (i + 1) := by
  have hl : i < (bytesOf s).length := by rw [bytesOf_length]; exact h
  rw [List.drop_eq_getElem_cons hl, ← rd_bytesOf]
  simp [rd, hl]
theorem bytes_end (s : ByteArray) {i : Nat} (h : s.size ≤ i) : (bytesOf s).drop i = [] := List.drop_eq_nil_of_le (by rw [bytesOf_length]; exact h)
theorem i_next {i n : Nat} (h : i < n) (hn : n ≤ 140737488351232) : wrap64 ((i : Int) + 1) = ((i + 1 : Nat) : Int) := by unfold wrap64; omega

/-- The number of digits, going on from one. -/
def foldV (v : Nat) (l : List Int) : Nat := l.foldl (fun v c => 10 * v + (c - 48).toNat) v
def allDig (l : List Int) : Prop := ∀ c ∈ l, 48 ≤ c ∧ c ≤ 57
instance (l : List Int) : Decidable (allDig l) := inferInstanceAs (Decidable (∀ c ∈ l, 48 ≤ c ∧ c ≤ 57))
/-- The answer of a size. -/
def finS (below : Bool) (v : Nat) : Int × Int :=
  if below = true then (if v > 9223372036854775808 then (0, 4) else (-(v : Int), 0)) else (if v > 9223372036854775807 then (0, 4) else ((v : Int), 0))
/-- May these be the digits of a number in a text (of more than one byte: long)? -/
def Digs (long : Prop) (l : List Int) : Prop := allDig l ∧ l ≠ [] ∧ ¬ (l.head? = some 48 ∧ long)
instance (long : Prop) [Decidable long] (l : List Int) : Decidable (Digs long l) := inferInstanceAs (Decidable (_ ∧ _ ∧ ¬ (_ ∧ _)))

theorem num_signed_fin (below : Bool) (v : Nat) : num_signed.f (v : Int) below = some (finS below v) := by
  cases below with
  | true => rw [num_signed_neg (by omega)]; simp only [finS, if_true]; repeat' split
            all_goals first | rfl | (exfalso; omega)
  | false => rw [num_signed_pos (by omega)]; simp only [finS]; rw [if_neg (show ¬ (false = true) by simp)]; repeat' split
             all_goals first | rfl | (exfalso; omega)

theorem allDig_cons {c : Int} {l : List Int} : allDig (c :: l) ↔ (48 ≤ c ∧ c ≤ 57) ∧ allDig l := by simp [allDig]

section
variable (s : ByteArray) (hs : s.size ≤ 140737488351232)
include hs

theorem parse_loop (d : Nat) : ∀ (i cnt v : Nat) (below over : Bool) (u : Int), i ≤ s.size → s.size - i = d → cnt ≤ i → (0 < i ∨ ((bytesOf s).drop i).head? ≠ some 45) →
    over = decide (18446744073709551616 ≤ v) → (v < 18446744073709551616 → u = v) → 0 ≤ u → u < 18446744073709551616 →
    Ev (fun k => num_Parse.l0 k s below (cnt : Int) over u (s.size : Int) (i : Int))
      (if allDig ((bytesOf s).drop i) ∧ (0 < cnt ∨ Digs (1 < s.size) ((bytesOf s).drop i)) then finS below (foldV v ((bytesOf s).drop i)) else (0, 2)) := by
  induction d with
  | zero =>
    intro i cnt v below over u hi hd hc hm ho hu h0 h1
    rw [bytes_end s (by omega)]
    refine Ev.step (f := fun _ => if (cnt : Int) = 0 then some (0, 2) else if over = true then some (0, 4) else (num_signed.f u below).bind fun b => some (b.1, b.2)) (fun k => ?_) ?_
    · simp only [num_Parse.l0]
      rw [if_neg (by omega)]
    · by_cases hcz : cnt = 0
      · subst hcz
        simp only [Int.natCast_zero, if_true]
        rw [if_neg (by simp [Digs])]
        exact Ev.now _
      · rw [if_pos (show allDig [] ∧ (0 < cnt ∨ Digs (1 < s.size) []) from ⟨by simp [allDig], .inl (by omega)⟩)]
        simp only [foldV, List.foldl_nil]
        rw [show (if (cnt : Int) = 0 then some ((0 : Int), (2 : Int)) else if over = true then some (0, 4) else (num_signed.f u below).bind fun b => some (b.1, b.2)) = (if over = true then some (0, 4) else (num_signed.f u below).bind fun b => some (b.1, b.2)) from if_neg (by omega)]
        by_cases hv : 18446744073709551616 ≤ v
        · rw [ho, decide_eq_true hv, if_pos rfl]
          have : finS below v = (0, 4) := by unfold finS; cases below <;> simp <;> omega
          rw [this]
          exact Ev.now _
        · rw [ho, decide_eq_false hv, if_neg (by simp), hu (by omega), num_signed_fin]
          exact Ev.now _
  | succ d ih =>
    intro i cnt v below over u hi hd hc hm ho hu h0 h1
    have hlt : i < s.size := by omega
    have hb := bt_range s (i : Int)
    rw [bytes_drop s hlt] at hm ⊢
    generalize hcb : bt s (i : Int) = c at *
    refine Ev.step (f := fun k => num_Parse.j1 k s below (cnt : Int) over u c (s.size : Int) (i : Int) false) (fun k => ?_) ?_
    · simp only [num_Parse.l0]
      rw [if_pos (by omega), if_pos (by omega), if_pos (by omega), hcb]
      by_cases h45 : c = 45
      · rw [if_pos h45]
        have : ((i : Int) == 0) = false := by
          rw [beq_eq_false_iff_ne]
          rcases hm with h | h
          · omega
          · exact absurd (by simp [h45]) h
        rw [this]
      · rw [if_neg h45]
    by_cases hz : c = 48 ∧ cnt = 0 ∧ 1 < s.size
    · obtain ⟨rfl, rfl, hz⟩ := hz
      rw [if_neg (by simp [Digs, hz])]
      refine Ev.step (f := fun k => num_Parse.j2 k s below ((0 : Nat) : Int) over u 48 (s.size : Int) (i : Int) true) (fun k => ?_) ?_
      · simp only [num_Parse.j1]
        rw [if_neg (by simp), if_pos trivial, if_pos (by simp), decide_eq_true (by omega)]
      · refine Ev.step (f := fun _ => some (0, 2)) (fun k => ?_) (Ev.now _)
        simp only [num_Parse.j2]
        rw [if_pos trivial]
    refine Ev.step (f := fun k => num_Parse.j2 k s below (cnt : Int) over u c (s.size : Int) (i : Int) false) (fun k => ?_) ?_
    · simp only [num_Parse.j1]
      rw [if_neg (by simp)]
      by_cases h48 : c = 48
      · rw [if_pos h48]
        by_cases h0c : cnt = 0
        · rw [if_pos (by omega), decide_eq_false (by omega)]
        · rw [if_neg (by omega)]
      · rw [if_neg h48]
    by_cases hdig : 48 ≤ c ∧ c ≤ 57
    · have hmod : (c - 48) % 256 = c - 48 := by omega
      have hcn : wrap64 ((cnt : Int) + 1) = ((cnt + 1 : Nat) : Int) := by unfold wrap64; omega
      refine Ev.step (f := fun k => num_Parse.l0 k s below ((cnt + 1 : Nat) : Int) (decide (18446744073709551616 ≤ 10 * v + (c - 48).toNat)) (IntKind.u64.wrap ((IntKind.u64.wrap (10 * u)) + (c - 48))) (s.size : Int) ((i + 1 : Nat) : Int)) (fun k => ?_) ?_
      · simp only [num_Parse.j2]
        rw [if_neg (by simp), hmod, hcn, i_next hlt hs]
        have hov : over = false → decide (u > (18446744073709551615 - (c - 48)) / 10) = decide (18446744073709551616 ≤ 10 * v + (c - 48).toNat) := by
          intro h
          rw [h] at ho
          have hv := of_decide_eq_false ho.symm
          rw [hu (by omega), decide_eq_decide]
          omega
        have hov2 : over = true → true = decide (18446744073709551616 ≤ 10 * v + (c - 48).toNat) := by
          intro h
          rw [h] at ho
          have hv := of_decide_eq_true ho.symm
          rw [eq_comm, decide_eq_true_iff]
          omega
        have both : (if over = true then num_Parse.l0 k s below ((cnt + 1 : Nat) : Int) true (IntKind.u64.wrap ((IntKind.u64.wrap (10 * u)) + (c - 48))) (s.size : Int) ((i + 1 : Nat) : Int) else num_Parse.l0 k s below ((cnt + 1 : Nat) : Int) (decide (u > (18446744073709551615 - (c - 48)) / 10)) (IntKind.u64.wrap ((IntKind.u64.wrap (10 * u)) + (c - 48))) (s.size : Int) ((i + 1 : Nat) : Int))
            = num_Parse.l0 k s below ((cnt + 1 : Nat) : Int) (decide (18446744073709551616 ≤ 10 * v + (c - 48).toNat)) (IntKind.u64.wrap ((IntKind.u64.wrap (10 * u)) + (c - 48))) (s.size : Int) ((i + 1 : Nat) : Int) := by
          cases over with
          | true => rw [if_pos rfl, ← hov2 rfl]
          | false => rw [if_neg (by simp), hov rfl]
        rw [both]
        by_cases h48 : c = 48
        · rw [if_pos h48]
        · rw [if_neg h48, if_pos (by omega), if_pos (by omega)]
      · have := ih (i + 1) (cnt + 1) (10 * v + (c - 48).toNat) below (decide (18446744073709551616 ≤ 10 * v + (c - 48).toNat)) (IntKind.u64.wrap ((IntKind.u64.wrap (10 * u)) + (c - 48))) (by omega) (by omega) (by omega) (.inl (by omega)) rfl (fun hv => by rw [hu (by omega)]; simp only [u64]; omega) (by rw [u64]; omega) (by rw [u64]; omega)
        have e : (if allDig (c :: (bytesOf s).drop (i + 1)) ∧ (0 < cnt ∨ Digs (1 < s.size) (c :: (bytesOf s).drop (i + 1))) then finS below (foldV v (c :: (bytesOf s).drop (i + 1))) else (0, 2))
            = (if allDig ((bytesOf s).drop (i + 1)) ∧ (0 < cnt + 1 ∨ Digs (1 < s.size) ((bytesOf s).drop (i + 1))) then finS below (foldV (10 * v + (c - 48).toNat) ((bytesOf s).drop (i + 1))) else (0, 2)) := by
          by_cases ha : allDig ((bytesOf s).drop (i + 1))
          · have hc1 : allDig (c :: (bytesOf s).drop (i + 1)) ∧ (0 < cnt ∨ Digs (1 < s.size) (c :: (bytesOf s).drop (i + 1))) := by
              refine ⟨allDig_cons.2 ⟨hdig, ha⟩, ?_⟩
              by_cases h0c : cnt = 0
              · right
                refine ⟨allDig_cons.2 ⟨hdig, ha⟩, by simp, fun h => hz ?_⟩
                simp at h
                exact ⟨h.1, h0c, h.2⟩
              · left; omega
            rw [if_pos hc1, if_pos ⟨ha, .inl (by omega)⟩]
            rfl
          · rw [if_neg (fun h => ha (allDig_cons.1 h.1).2), if_neg (fun h => ha h.1)]
        rw [e]
        exact this
    · rw [if_neg (fun h => hdig (allDig_cons.1 h.1).1)]
      refine Ev.step (f := fun _ => some (0, 2)) (fun k => ?_) (Ev.now _)
      simp only [num_Parse.j2]
      rw [if_neg (by simp), if_neg (by omega)]
      by_cases h49 : c ≥ 49
      · rw [if_pos h49, if_neg (by omega)]
      · rw [if_neg h49]
end

/-- What parsing comes to: of the text's bytes. -/
def parseS (l : List Int) : Int × Int :=
  if l.head? = some 45 then (if Digs (1 < l.length) l.tail then finS true (foldV 0 l.tail) else (0, 2))
  else (if Digs (1 < l.length) l then finS false (foldV 0 l) else (0, 2))

theorem num_Parse_ev (s : ByteArray) (hs : s.size ≤ 140737488351232) : Ev (fun k => num_Parse.f k s) (parseS (bytesOf s)) := by
  unfold num_Parse.f parseS
  rw [bytesOf_length]
  by_cases hm : (bytesOf s).head? = some 45
  · rw [if_pos hm]
    have h0 : 0 < s.size := by
      rcases Nat.eq_zero_or_pos s.size with h | h
      · have : bytesOf s = [] := List.eq_nil_of_length_eq_zero (by rw [bytesOf_length]; exact h)
        rw [this] at hm
        simp at hm
      · exact h
    have hd := bytes_drop s h0
    rw [List.drop_zero] at hd
    have hc : bt s ((0 : Nat) : Int) = 45 := by rw [hd] at hm; simpa using hm
    refine Ev.step (f := fun k => num_Parse.j1 k s false 0 false 0 45 (s.size : Int) 0 true) (fun k => ?_) ?_
    · simp only [num_Parse.l0]
      rw [if_pos (by omega), if_pos (by omega), if_pos (by omega), show bt s 0 = 45 from hc, if_pos rfl]
      rfl
    refine Ev.step (f := fun k => num_Parse.l0 k s true ((0 : Nat) : Int) false 0 (s.size : Int) ((1 : Nat) : Int)) (fun k => ?_) ?_
    · simp only [num_Parse.j1]
      rw [if_pos trivial, show wrap64 (0 + 1) = 1 by unfold wrap64; omega]
      rfl
    have := parse_loop s hs (s.size - 1) 1 0 0 true false 0 (by omega) rfl (by omega) (.inl (by omega)) (by simp) (fun _ => rfl) (by omega) (by omega)
    have et : (bytesOf s).tail = (bytesOf s).drop 1 := by simp
    rw [et]
    have e : (allDig ((bytesOf s).drop 1) ∧ (0 < 0 ∨ Digs (1 < s.size) ((bytesOf s).drop 1))) ↔ Digs (1 < s.size) ((bytesOf s).drop 1) := by
      constructor
      · rintro ⟨_, h | h⟩
        · omega
        · exact h
      · intro h
        exact ⟨h.1, .inr h⟩
    simp only [e] at this
    exact this
  · rw [if_neg hm]
    have := parse_loop s hs s.size 0 0 0 false false 0 (by omega) rfl (by omega) (.inr (by simpa using hm)) (by simp) (fun _ => rfl) (by omega) (by omega)
    rw [List.drop_zero] at this
    have e : (allDig (bytesOf s) ∧ (0 < 0 ∨ Digs (1 < s.size) (bytesOf s))) ↔ Digs (1 < s.size) (bytesOf s) := by
      constructor
      · rintro ⟨_, h | h⟩
        · omega
        · exact h
      · intro h
        exact ⟨h.1, .inr h⟩
    simp only [e] at this
    exact this

end Go.Proofs.Ytncmkbmggflloaa.Pure
