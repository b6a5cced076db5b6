/- The document's digits and parsing come to the same as the program's: laws on lists of bytes. -/
import Derived.Test.YtncmkbmggflloaaParsePure
namespace Go.Proofs.Ytncmkbmggflloaa.Pure
open Go.RowKit Go.Proofs.Ytncmkbmggflloaa.PA Go.Proofs.YtncmkbmggflloaaW.PrintWords Go.Proofs.YtncmkbmggflloaaW.PrintLast

theorem strOfNums_append (xs ys : List Int) : strOfNums (xs ++ ys) = strOfNums xs ++ strOfNums ys := by
  apply ByteArray.ext
  simp [strOfNums, ByteArray.data_append]
theorem decL_length (k : Nat) : ∀ u, u < 10 ^ (k + 1) → (decL u).length ≤ k + 1 := by
  induction k with
  | zero => intro u h; rw [decL_small (by simpa using h)]; simp
  | succ k ih =>
    intro u h
    by_cases hu : u < 10
    · rw [decL_small hu]; simp
    · have := ih (u / 10) (by rw [Nat.pow_succ] at h; omega)
      rw [decL_big hu]
      simp
      omega
theorem decL_len (u : Nat) (h : u ≤ 9223372036854775808) : (decL u).length ≤ 19 := by
  have e : (10 : Nat) ^ 19 = 10000000000000000000 := by decide
  exact decL_length 18 u (by omega)

theorem refDigits_pos (u : Nat) (h : u ≤ 9223372036854775807) : Ev (fun k => placketref01_Digits.f k (u : Int)) (strOfNums (decL u)) := by
  induction u using Nat.strongRecOn with
  | _ u ih =>
  by_cases hu : u < 10
  · refine Ev.step (f := fun _ => some (strOfNums [48 + (u : Int)])) (fun k => ?_) ?_
    · simp only [placketref01_Digits.f]
      rw [if_neg (by omega), if_neg (by omega), if_pos (by omega), w64 (by omega) (by omega), show (48 + (u : Int)) % 256 = 48 + (u : Int) by omega]
    · rw [decL_small hu]
      exact Ev.now _
  · have ih := ih (u / 10) (by omega) (by omega)
    refine Ev.step (f := fun k => (placketref01_Digits.f k ((u / 10 : Nat) : Int)).bind fun t => if t.size + (strOfNums [48 + (u : Int) % 10]).size ≤ 9223372036854775807 then some (t ++ strOfNums [48 + (u : Int) % 10]) else none) (fun k => ?_) ?_
    · simp only [placketref01_Digits.f]
      rw [if_neg (by omega), if_neg (by omega), if_neg (by omega), Int.tdiv_eq_ediv_of_nonneg (by omega), Int.tmod_eq_emod_of_nonneg (by omega), w64 (by omega) (by omega), w64 (by omega) (by omega), show (48 + (u : Int) % 10) % 256 = 48 + (u : Int) % 10 by omega]
      rw [show (u : Int) / 10 = ((u / 10 : Nat) : Int) by omega]
      simp only [Option.bind_some]
    · rw [decL_big hu, strOfNums_append]
      refine Ev.bind ih ?_
      refine Ev.congr (f := fun _ => some (strOfNums (decL (u / 10)) ++ strOfNums [48 + (u : Int) % 10])) (fun k => ?_) (Ev.now _)
      have := decL_len (u / 10) (by omega)
      rw [if_pos]
      rw [strOfNums_size, strOfNums_size]
      simp
      omega

theorem refDigits_ev (n : Int) (h0 : -9223372036854775808 ≤ n) (h1 : n ≤ 9223372036854775807) : Ev (fun k => placketref01_Digits.f k n) (strOfNums (digL n)) := by
  unfold digL
  by_cases hl : n = -9223372036854775808
  · subst hl
    refine Ev.step (f := fun _ => some (⟨#[45, 57, 50, 50, 51, 51, 55, 50, 48, 51, 54, 56, 53, 52, 55, 55, 53, 56, 48, 56]⟩ : ByteArray)) (fun k => ?_) ?_
    · simp only [placketref01_Digits.f]
      rw [if_pos trivial]
    · have e : strOfNums (if (-9223372036854775808 : Int) < 0 then 45 :: decL (-9223372036854775808 : Int).natAbs else decL (-9223372036854775808 : Int).natAbs) = (⟨#[45, 57, 50, 50, 51, 51, 55, 50, 48, 51, 54, 56, 53, 52, 55, 55, 53, 56, 48, 56]⟩ : ByteArray) := by kernel_rfl
      rw [e]
      exact Ev.now _
  · by_cases hn : n < 0
    · rw [if_pos hn]
      have := refDigits_pos n.natAbs (by omega)
      refine Ev.step (f := fun k => (placketref01_Digits.f k (n.natAbs : Int)).bind fun t => if 1 + t.size ≤ 9223372036854775807 then some ((⟨#[45]⟩ : ByteArray) ++ t) else none) (fun k => ?_) ?_
      · simp only [placketref01_Digits.f]
        rw [if_neg hl, if_pos hn, w64 (by omega) (by omega), show -n = (n.natAbs : Int) by omega]
      · refine Ev.bind this ?_
        refine Ev.congr (f := fun _ => some (strOfNums (45 :: decL n.natAbs))) (fun k => ?_) (Ev.now _)
        have := decL_len n.natAbs (by omega)
        rw [if_pos (by rw [strOfNums_size]; omega)]
        rw [show (45 :: decL n.natAbs) = [45] ++ decL n.natAbs from rfl, strOfNums_append]
        rfl
    · rw [if_neg hn]
      have := refDigits_pos n.natAbs (by omega)
      rw [show (n.natAbs : Int) = n by omega] at this
      exact this

theorem foldV_ge (l : List Int) : ∀ v, v ≤ foldV v l := by
  induction l with
  | nil => intro v; exact Nat.le_refl _
  | cons c l ih =>
    intro v
    have := ih (10 * v + (c - 48).toNat)
    show v ≤ foldV (10 * v + (c - 48).toNat) l
    omega
theorem finS_over (below : Bool) {v : Nat} (h : v > 9223372036854775808) : finS below v = (0, 4) := by
  unfold finS
  cases below
  · rw [if_neg (by simp), if_pos (by omega)]
  · rw [if_pos rfl, if_pos h]

theorem tdiv_neg10 (d : Int) (h0 : 0 ≤ d) (h1 : d ≤ 9) : Int.tdiv (-9223372036854775808 + d) 10 = -((9223372036854775808 - d) / 10) := by
  rw [show -9223372036854775808 + d = -(9223372036854775808 - d) by omega, Int.neg_tdiv, Int.tdiv_eq_ediv_of_nonneg (by omega)]

section
variable (s : ByteArray) (hs : s.size ≤ 140737488351232)
include hs

theorem word_loop (d : Nat) : ∀ i : Nat, i ≤ s.size → s.size - i = d → Ev (fun k => placketref01_word.l0 k s (i : Int)) (decide (allDig ((bytesOf s).drop i))) := by
  induction d with
  | zero =>
    intro i hi hd
    rw [bytes_end s (by omega)]
    refine Ev.step (f := fun _ => some true) (fun k => ?_) (by simpa [allDig] using Ev.now true)
    simp only [placketref01_word.l0]
    rw [if_neg (by omega)]
  | succ d ih =>
    intro i hi hd
    have hlt : i < s.size := by omega
    rw [bytes_drop s hlt]
    by_cases hc : 48 ≤ bt s (i : Int) ∧ bt s (i : Int) ≤ 57
    · refine Ev.step (f := fun k => placketref01_word.l0 k s ((i + 1 : Nat) : Int)) (fun k => ?_) ?_
      · simp only [placketref01_word.l0]
        rw [if_pos (by omega), if_pos (by omega), if_neg (by omega), if_neg (by omega), i_next hlt hs]
      · have := ih (i + 1) (by omega) (by omega)
        rw [show decide (allDig (bt s (i : Int) :: (bytesOf s).drop (i + 1))) = decide (allDig ((bytesOf s).drop (i + 1))) from by rw [decide_eq_decide, allDig_cons]; exact ⟨fun h => h.2, fun h => ⟨hc, h⟩⟩]
        exact this
    · rw [decide_eq_false (fun h => hc (allDig_cons.1 h).1)]
      refine Ev.step (f := fun _ => some false) (fun k => ?_) (Ev.now _)
      simp only [placketref01_word.l0]
      rw [if_pos (by omega), if_pos (by omega)]
      by_cases h1 : bt s (i : Int) < 48
      · rw [if_pos h1]
      · rw [if_neg h1, if_pos (by omega)]

def wordS (l : List Int) : Bool := if l.head? = some 45 then decide (Digs (1 < l.length) l.tail) else decide (Digs (1 < l.length) l)

theorem word_from (i : Nat) (hi : i ≤ s.size) : Ev (fun k => placketref01_word.j1 k s (i : Int)) (decide (Digs (1 < s.size) ((bytesOf s).drop i))) := by
  by_cases he : i = s.size
  · rw [bytes_end s (by omega), decide_eq_false (by simp [Digs])]
    refine Ev.step (f := fun k => placketref01_word.j2 k s (i : Int) true) (fun k => ?_) ?_
    · simp only [placketref01_word.j1]
      rw [if_pos (by omega)]
    · refine Ev.step (f := fun _ => some false) (fun k => ?_) (Ev.now _)
      simp only [placketref01_word.j2]
      rw [if_pos trivial]
  · have hlt : i < s.size := by omega
    have hd := bytes_drop s hlt
    by_cases hz : bt s (i : Int) = 48 ∧ 1 < s.size
    · rw [decide_eq_false (by rw [hd]; simp [Digs, hz.1, hz.2])]
      refine Ev.step (f := fun k => placketref01_word.j2 k s (i : Int) true) (fun k => ?_) ?_
      · simp only [placketref01_word.j1]
        rw [if_neg (by omega), if_pos (by omega), if_pos (by omega), if_pos hz.1, decide_eq_true (by omega)]
      · refine Ev.step (f := fun _ => some false) (fun k => ?_) (Ev.now _)
        simp only [placketref01_word.j2]
        rw [if_pos trivial]
    · refine Ev.step (f := fun k => placketref01_word.j2 k s (i : Int) false) (fun k => ?_) ?_
      · simp only [placketref01_word.j1]
        rw [if_neg (by omega), if_pos (by omega), if_pos (by omega)]
        by_cases h48 : bt s (i : Int) = 48
        · rw [if_pos h48, decide_eq_false (by omega)]
        · rw [if_neg h48]
      · refine Ev.step (f := fun k => placketref01_word.l0 k s (i : Int)) (fun k => ?_) ?_
        · simp only [placketref01_word.j2]
          rw [if_neg (by simp)]
        · have := word_loop s hs (s.size - i) i hi rfl
          rw [show decide (Digs (1 < s.size) ((bytesOf s).drop i)) = decide (allDig ((bytesOf s).drop i)) from by
            rw [decide_eq_decide]
            refine ⟨fun h => h.1, fun h => ⟨h, by rw [hd]; simp, ?_⟩⟩
            rw [hd]
            intro hh
            simp at hh
            exact hz hh]
          exact this

theorem word_ev : Ev (fun k => placketref01_word.f k s) (wordS (bytesOf s)) := by
  unfold placketref01_word.f wordS
  rw [bytesOf_length]
  rcases Nat.eq_zero_or_pos s.size with h0 | h0
  · have hn : bytesOf s = [] := List.eq_nil_of_length_eq_zero (by rw [bytesOf_length]; exact h0)
    refine Ev.congr (f := fun k => placketref01_word.j0 k s 0 false) (fun k => by rw [if_neg (by omega)]) ?_
    refine Ev.step (f := fun k => placketref01_word.j1 k s ((0 : Nat) : Int)) (fun k => ?_) ?_
    · simp only [placketref01_word.j0]
      rw [if_neg (by simp)]
      rfl
    · have := word_from s hs 0 (by omega)
      rw [List.drop_zero] at this
      rw [if_neg (by rw [hn]; simp)]
      exact this
  · have hd := bytes_drop s h0
    rw [List.drop_zero] at hd
    refine Ev.congr (f := fun k => placketref01_word.j0 k s 0 ((bt s ((0 : Nat) : Int)) == 45)) (fun k => by rw [if_pos (by omega), if_pos (by omega)]; rfl) ?_
    by_cases hm : bt s ((0 : Nat) : Int) = 45
    · rw [show (bt s ((0 : Nat) : Int) == 45) = true from beq_iff_eq.2 hm, if_pos (by rw [hd, hm]; rfl)]
      refine Ev.step (f := fun k => placketref01_word.j1 k s ((1 : Nat) : Int)) (fun k => ?_) ?_
      · simp only [placketref01_word.j0]
        rw [if_pos trivial]
        rfl
      · have := word_from s hs 1 (by omega)
        rw [show (bytesOf s).tail = (bytesOf s).drop 1 by simp]
        exact this
    · rw [show (bt s ((0 : Nat) : Int) == 45) = false from beq_eq_false_iff_ne.2 hm, if_neg (by rw [hd]; simpa using hm)]
      refine Ev.step (f := fun k => placketref01_word.j1 k s ((0 : Nat) : Int)) (fun k => ?_) ?_
      · simp only [placketref01_word.j0]
        rw [if_neg (by simp)]
        rfl
      · have := word_from s hs 0 (by omega)
        rw [List.drop_zero] at this
        exact this

theorem refParse_loop (h0 : 0 < s.size) (d : Nat) : ∀ i v : Nat, i ≤ s.size → s.size - i = d → v ≤ 9223372036854775808 → (0 < i ∨ (bytesOf s).head? ≠ some 45) → allDig ((bytesOf s).drop i) →
    Ev (fun k => placketref01_Parse.l0 k s (-(v : Int)) (s.size : Int) (i : Int)) (finS ((bt s ((0 : Nat) : Int)) == 45) (foldV v ((bytesOf s).drop i))) := by
  induction d with
  | zero =>
    intro i v hi hd hv hm ha
    rw [bytes_end s (by omega)]
    refine Ev.step (f := fun _ => some (finS ((bt s ((0 : Nat) : Int)) == 45) v)) (fun k => ?_) (Ev.now _)
    simp only [placketref01_Parse.l0]
    rw [if_neg (by omega), if_pos (by omega)]
    unfold finS
    by_cases h45 : bt s ((0 : Nat) : Int) = 45
    · rw [show bt s 0 = 45 from h45, if_pos rfl, h45, if_pos (by simp), if_neg (by omega)]
    · rw [if_neg (show ¬ bt s 0 = 45 from h45), if_neg (show ¬ ((bt s ((0 : Nat) : Int) == 45) = true) by simpa using h45)]
      by_cases hl : v = 9223372036854775808
      · rw [if_pos (by omega), if_pos (by omega)]
      · rw [if_neg (by omega), if_neg (by omega), w64 (by omega) (by omega)]
        congr 2
        omega
  | succ d ih =>
    intro i v hi hd hv hm ha
    have hlt : i < s.size := by omega
    rw [bytes_drop s hlt] at ha ⊢
    obtain ⟨hc, ha'⟩ := allDig_cons.1 ha
    have hne : ¬ bt s (i : Int) = 45 := by omega
    have hmod : (bt s (i : Int) - 48) % 256 = bt s (i : Int) - 48 := by omega
    by_cases hov : 10 * v + (bt s (i : Int) - 48).toNat > 9223372036854775808
    · have := foldV_ge ((bytesOf s).drop (i + 1)) (10 * v + (bt s (i : Int) - 48).toNat)
      rw [show foldV v (bt s (i : Int) :: (bytesOf s).drop (i + 1)) = foldV (10 * v + (bt s (i : Int) - 48).toNat) ((bytesOf s).drop (i + 1)) from rfl, finS_over _ (by omega)]
      refine Ev.step (f := fun _ => some (0, 4)) (fun k => ?_) (Ev.now _)
      simp only [placketref01_Parse.l0]
      rw [if_pos (by omega), if_pos (by omega), if_pos (by omega), if_neg hne, hmod, if_pos]
      rw [tdiv_neg10 _ (by omega) (by omega)]
      omega
    · have ih := ih (i + 1) (10 * v + (bt s (i : Int) - 48).toNat) (by omega) (by omega) (by omega) (.inl (by omega)) ha'
      refine Ev.step (f := fun k => placketref01_Parse.l0 k s (-((10 * v + (bt s (i : Int) - 48).toNat : Nat) : Int)) (s.size : Int) ((i + 1 : Nat) : Int)) (fun k => ?_) ih
      simp only [placketref01_Parse.l0]
      rw [if_pos (by omega), if_pos (by omega), if_pos (by omega), if_neg hne, hmod, if_neg, i_next hlt hs]
      · congr 1
        unfold wrap64
        omega
      · rw [tdiv_neg10 _ (by omega) (by omega)]
        omega

theorem refParse_ev : Ev (fun k => placketref01_Parse.f k s) (parseS (bytesOf s)) := by
  unfold placketref01_Parse.f
  refine Ev.bind (word_ev s hs) ?_
  rcases Nat.eq_zero_or_pos s.size with h0 | h0
  · have hn : bytesOf s = [] := List.eq_nil_of_length_eq_zero (by rw [bytesOf_length]; exact h0)
    rw [hn]
    refine Ev.congr (f := fun _ => some (0, 2)) (fun k => ?_) ?_
    · rw [if_neg (by simp [wordS, Digs])]
    · have : parseS [] = (0, 2) := by simp [parseS, Digs]
      rw [this]
      exact Ev.now _
  have hd := bytes_drop s h0
  rw [List.drop_zero] at hd
  have hh : (bytesOf s).head? = some (bt s ((0 : Nat) : Int)) := by rw [hd]; rfl
  unfold parseS wordS
  rw [bytesOf_length, hh]
  by_cases hm : bt s ((0 : Nat) : Int) = 45
  · rw [if_pos (by rw [hm]), if_pos (by rw [hm])]
    by_cases hD : Digs (1 < s.size) (bytesOf s).tail
    · rw [if_pos hD]
      refine Ev.congr (f := fun k => placketref01_Parse.l0 k s 0 (s.size : Int) 0) (fun k => by rw [if_pos (by simpa using hD)]) ?_
      refine Ev.step (f := fun k => placketref01_Parse.l0 k s (-((0 : Nat) : Int)) (s.size : Int) ((1 : Nat) : Int)) (fun k => ?_) ?_
      · simp only [placketref01_Parse.l0]
        rw [if_pos (by omega), if_pos (by omega), if_pos (by omega), if_pos (show bt s 0 = 45 from hm), show wrap64 (0 + 1) = 1 by unfold wrap64; omega]
        rfl
      · have et : (bytesOf s).tail = (bytesOf s).drop 1 := by simp
        rw [et] at hD ⊢
        have := refParse_loop s hs h0 (s.size - 1) 1 0 (by omega) rfl (by omega) (.inl (by omega)) hD.1
        rw [hm] at this
        exact this
    · rw [if_neg hD]
      exact Ev.congr (f := fun _ => some (0, 2)) (fun k => by rw [if_neg (by simpa using hD)]) (Ev.now _)
  · rw [if_neg (by simpa using hm), if_neg (by simpa using hm)]
    by_cases hD : Digs (1 < s.size) (bytesOf s)
    · rw [if_pos hD]
      refine Ev.congr (f := fun k => placketref01_Parse.l0 k s (-((0 : Nat) : Int)) (s.size : Int) ((0 : Nat) : Int)) (fun k => by rw [if_pos (by simpa using hD)]; rfl) ?_
      have := refParse_loop s hs h0 s.size 0 0 (by omega) rfl (by omega) (.inr (by rw [hh]; simpa using hm)) (by rw [List.drop_zero]; exact hD.1)
      rw [List.drop_zero, show (bt s ((0 : Nat) : Int) == 45) = false from beq_eq_false_iff_ne.2 hm] at this
      exact this
    · rw [if_neg hD]
      exact Ev.congr (f := fun _ => some (0, 2)) (fun k => by rw [if_neg (by simpa using hD)]) (Ev.now _)
end

end Go.Proofs.Ytncmkbmggflloaa.Pure
