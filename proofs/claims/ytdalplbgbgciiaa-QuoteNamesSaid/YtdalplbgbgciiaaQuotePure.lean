/- What the printed functions of the layer quote come to: laws on lists of bytes. -/
import Derived.Test.YtdalplbgbgciiaaBytesPure
import Derived.Test.YtdalplbgbgciiaaQuoteSpec
namespace Go.Proofs.Ytdalplbgbgciiaa.Pure
set_option linter.unusedSimpArgs false
open Go.RowKit Go.Proofs.Ytdalplbgbgciiaa.PA Go.Proofs.YtdalplbgbgciiaaW.PrintWords Go.Proofs.YtdalplbgbgciiaaW.PrintLast

theorem and15 (c : Int) (h0 : 0 ≤ c) (h1 : c ≤ 255) : Go.bits .and .u8 c 15 = c % 16 := u8_and15 c h0 (by omega)
theorem hex_digit (x : Int) (h0 : 0 ≤ x) (h1 : x < 16) : bt (⟨#[48, 49, 50, 51, 52, 53, 54, 55, 56, 57, 97, 98, 99, 100, 101, 102]⟩ : ByteArray) x = hexD x := by
  obtain ⟨n, rfl⟩ := Int.eq_ofNat_of_zero_le h0
  match n, h1 with
  | 0, _ | 1, _ | 2, _ | 3, _ | 4, _ | 5, _ | 6, _ | 7, _ | 8, _ | 9, _ | 10, _ | 11, _ | 12, _ | 13, _ | 14, _ | 15, _ => rfl
  | n + 16, h => omega

theorem qone_length (c : Int) : (qone c).length ≤ 4 := by
  unfold qone
  repeat' split
  all_goals simp
theorem qbody_length (l : List Int) : (qbody l).length ≤ 4 * l.length := by
  induction l with
  | nil => simp [qbody]
  | cons c l ih =>
    have e : qbody (c :: l) = qone c ++ qbody l := by simp [qbody]
    have := qone_length c
    rw [e, List.length_append, List.length_cons]
    omega
theorem qone_bytes (c : Int) (h0 : 0 ≤ c) (h1 : c ≤ 255) : ∀ x ∈ qone c, 0 ≤ x ∧ x ≤ 255 := by
  have hl : 0 ≤ letterS c ∧ letterS c ≤ 255 := by unfold letterS; repeat' split
                                                  all_goals omega
  have hd : ∀ x : Int, 0 ≤ x → x < 16 → 0 ≤ hexD x ∧ hexD x ≤ 255 := by intro x a b; unfold hexD; split <;> omega
  have d1 := hd (c / 16) (by omega) (by omega)
  have d2 := hd (c % 16) (by omega) (by omega)
  unfold qone
  repeat' split
  all_goals
    intro x hx
    simp at hx
    omega
theorem quoteL_bytes (l : List Int) (h : ∀ x ∈ l, 0 ≤ x ∧ x ≤ 255) : ∀ x ∈ quoteL l, 0 ≤ x ∧ x ≤ 255 := by
  intro x hx
  simp only [quoteL, List.mem_cons, List.mem_append, List.not_mem_nil, or_false, qbody, List.mem_flatMap] at hx
  rcases hx with rfl | ⟨c, hc, hx⟩ | rfl
  · omega
  · exact qone_bytes c (h c hc).1 (h c hc).2 x hx
  · omega

section
variable (s : ByteArray)

theorem quote_loop (hs : s.size ≤ 35184372088830) (d : Nat) : ∀ (i : Nat) (acc : List Int), i ≤ s.size → s.size - i = d → acc.length ≤ 4 * i + 1 →
    Ev (fun k => quote_Quote.l0 k s acc (s.size : Int) (i : Int)) (strOfNums (acc ++ qbody ((bytesOf s).drop i) ++ [34])) := by
  induction d with
  | zero =>
    intro i acc hi hd ha
    rw [bytes_end s (by omega)]
    refine Ev.succ ?_
    simp only [quote_Quote.l0, show ¬ ((i : Int) < (s.size : Int)) by omega, show acc.length < 140737488355328 by omega, if_true, if_false]
    simp only [qbody, List.flatMap_nil, List.append_nil]
    exact Ev.now _
  | succ d ih =>
    intro i acc hi hd ha
    have hlt : i < s.size := by omega
    have hb := bt_range s (i : Int)
    have hn := i_next hlt (by omega)
    rw [bytes_drop s hlt]
    have e : qbody (bt s (i : Int) :: (bytesOf s).drop (i + 1)) = qone (bt s (i : Int)) ++ qbody ((bytesOf s).drop (i + 1)) := by simp [qbody]
    rw [e, ← List.append_assoc]
    have hql := qone_length (bt s (i : Int))
    have ih := ih (i + 1) (acc ++ qone (bt s (i : Int))) (by omega) (by omega) (by rw [List.length_append]; omega)
    refine Ev.succ ?_
    simp only [quote_Quote.l0, quote_letter.f, Option.bind_some]
    simp only [show (i : Int) < (s.size : Int) by omega, show (0 : Int) ≤ (i : Int) by omega, if_true, and15 _ hb.1 hb.2, hn]
    generalize bt s (i : Int) = c at *
    have hacc : ∀ y : List Int, y.length ≤ 4 → acc.length + y.length < 140737488355328 := by intro y hy; omega
    by_cases hl : letterS c > 0
    · have e : qone c = [92, letterS c] := by unfold qone; rw [if_pos hl]
      rw [e] at ih ⊢
      simp only [hl, if_true, hacc [92, letterS c] (by simp)]
      exact ih
    · simp only [hl, if_false]
      by_cases hr : c < 32 ∨ c > 126
      · have e : qone c = [92, 120, hexD (c / 16), hexD (c % 16)] := by unfold qone; rw [if_neg hl, if_pos hr]
        rw [e] at ih ⊢
        simp only [show (0 : Int) ≤ c / 16 by omega, show c / 16 < 16 by omega, show (0 : Int) ≤ c % 16 by omega, show c % 16 < 16 by omega, if_true, hex_digit _ (show (0 : Int) ≤ c / 16 by omega) (show c / 16 < 16 by omega), hex_digit _ (show (0 : Int) ≤ c % 16 by omega) (show c % 16 < 16 by omega), hacc [92, 120, hexD (c / 16), hexD (c % 16)] (by simp)]
        rcases hr with hr | hr
        · simp only [hr, if_true]
          exact ih
        · simp only [show ¬ c < 32 by omega, hr, if_true, if_false]
          exact ih
      · have e : qone c = [c] := by unfold qone; rw [if_neg hl, if_neg hr]
        rw [e] at ih ⊢
        simp only [show ¬ c < 32 by omega, show ¬ c > 126 by omega, if_false, show acc.length < 140737488355328 by omega, if_true]
        exact ih
theorem quote_ev (hs : s.size ≤ 35184372088830) : Ev (fun k => quote_Quote.f k s) (strOfNums (quoteL (bytesOf s))) := by
  unfold quote_Quote.f
  have h2 : wrap64 ((s.size : Int) + 2) = (s.size : Int) + 2 := w64 (by omega) (by omega)
  simp only [h2, show (0 : Int) ≤ (s.size : Int) + 2 by omega, show ((s.size : Int) + 2).toNat ≤ 281474976710656 by omega, if_true, Option.bind_some, List.length_nil, show 0 < 140737488355328 by omega, List.nil_append]
  have := quote_loop s hs s.size 0 [34] (by omega) (by omega) (by simp)
  rw [List.drop_zero] at this
  exact this
end

/-! ### hexadecimal digits -/
def hexR (o : Option Int) : Int × Bool := match o with | some v => (v, true) | none => (0, false)
theorem hexV_dig {g : Bool} {c : Int} (h : 48 ≤ c ∧ c ≤ 57) : hexV g c = some (c - 48) := by unfold hexV; rw [if_pos h]
theorem hexV_low {g : Bool} {c : Int} (h : 97 ≤ c ∧ c ≤ 102) : hexV g c = some (c - 87) := by unfold hexV; rw [if_neg (by omega), if_pos h]
theorem hexV_great {c : Int} (h : 65 ≤ c ∧ c ≤ 70) : hexV true c = some (c - 55) := by unfold hexV; rw [if_neg (by omega), if_neg (by omega), if_pos ⟨rfl, h⟩]
theorem hexV_not {c : Int} (h1 : ¬ (48 ≤ c ∧ c ≤ 57)) (h2 : ¬ (97 ≤ c ∧ c ≤ 102)) : hexV false c = none := by unfold hexV; rw [if_neg h1, if_neg h2, if_neg (by simp)]
theorem hexV_nott {c : Int} (h1 : ¬ (48 ≤ c ∧ c ≤ 57)) (h2 : ¬ (97 ≤ c ∧ c ≤ 102)) (h3 : ¬ (65 ≤ c ∧ c ≤ 70)) : hexV true c = none := by unfold hexV; rw [if_neg h1, if_neg h2, if_neg (fun h => h3 h.2)]
theorem nibble_some (k : Nat) (c : Int) (h0 : 0 ≤ c) (h1 : c ≤ 255) : quote_nibble.f (k + 1) c = some (hexR (hexV false c)) := by
  unfold quote_nibble.f
  simp only [quote_nibble.j0, decide_eq_true_eq]
  by_cases a : 48 ≤ c ∧ c ≤ 57
  · rw [hexV_dig a, if_pos a.1, if_pos a.2, hexR, show (c - 48) % 256 = c - 48 by omega]
  · by_cases b : 97 ≤ c ∧ c ≤ 102
    · rw [hexV_low b, if_pos (by omega), if_neg (by omega), if_pos b.1, if_pos b.2, hexR, show (c - 97 + 10) % 256 = c - 87 by omega]
    · rw [hexV_not a b, hexR]
      repeat' split
      all_goals first | rfl | (exfalso; omega) | (exfalso; simp_all)
theorem either_some (k : Nat) (c : Int) (h0 : 0 ≤ c) (h1 : c ≤ 255) : quote_either.f (k + 1) c = some (hexR (hexV true c)) := by
  unfold quote_either.f
  by_cases a : 65 ≤ c ∧ c ≤ 70
  · simp only [show c ≥ 65 by omega, a.2, if_true, show (c + 32) % 256 = c + 32 by omega]
    rw [nibble_some k (c + 32) (by omega) (by omega)]
    have e : hexV true c = hexV false (c + 32) := by
      rw [hexV_great a, hexV_low (by omega)]
      congr 1
      omega
    rw [e]
    rfl
  · have e : hexV true c = hexV false c := by
      unfold hexV
      rw [if_neg (show ¬ (true = true ∧ 65 ≤ c ∧ c ≤ 70) from fun h => a h.2), if_neg (show ¬ (false = true ∧ 65 ≤ c ∧ c ≤ 70) by simp)]
    rw [e, nibble_some k c h0 h1]
    by_cases c1 : c ≥ 65
    · simp only [c1, if_true, show ¬ c ≤ 70 by omega, if_false]
      rfl
    · simp only [c1, if_false]
      rfl
theorem hexV_range {g : Bool} {c v : Int} (h : hexV g c = some v) : 0 ≤ v ∧ v < 16 := by
  unfold hexV at h
  split at h
  · have := Option.some.inj h; omega
  · split at h
    · have := Option.some.inj h; omega
    · split at h
      · have := Option.some.inj h; omega
      · cases h

section
variable (s : ByteArray) (hs : s.size ≤ 140737488351232)
include hs

def pairR (at_ : Nat) (r : Int ⊕ (Nat × Int)) : Int × Int × Int := match r with | .inl x => (x, ((at_ + 2 : Nat) : Int), 0) | .inr (p, e) => (0, (p : Int), e)
theorem pair_ev (i : Nat) (hi : i ≤ s.size) : Ev (fun k => quote_pair.f k s (i : Int)) (pairR i (pairL s.size ((bytesOf s).drop i) i)) := by
  unfold quote_pair.f
  have h2 : wrap64 ((i : Int) + 2) = ((i + 2 : Nat) : Int) := by rw [w64 (by omega) (by omega)]; omega
  refine Ev.succ (Ev.succ ?_)
  simp only [quote_pair.l0, h2, show (i : Int) < ((i + 2 : Nat) : Int) by omega, if_true]
  by_cases h0 : i < s.size
  · rw [bytes_drop s h0]
    have hb := bt_range s (i : Int)
    simp only [show ¬ (i : Int) ≥ (s.size : Int) by omega, if_false, show (0 : Int) ≤ (i : Int) by omega, show (i : Int) < (s.size : Int) by omega, if_true, either_some _ _ hb.1 hb.2, Option.bind_some, i_next h0 hs]
    by_cases h1 : i + 1 < s.size
    · rw [bytes_drop s h1]
      have hb1 := bt_range s ((i + 1 : Nat) : Int)
      simp only [show ((i + 1 : Nat) : Int) < ((i + 2 : Nat) : Int) by omega, show ¬ ((i + 1 : Nat) : Int) ≥ (s.size : Int) by omega, show (0 : Int) ≤ ((i + 1 : Nat) : Int) by omega, show ((i + 1 : Nat) : Int) < (s.size : Int) by omega, if_true, if_false]
      cases hx : hexV true (bt s (i : Int)) with
      | none =>
        simp only [hexR, pairL, hx, pairR]
        exact Ev.now _
      | some x =>
        have hxr := hexV_range hx
        refine Ev.succ ?_
        simp only [hexR, pairL, hx, if_true, either_some _ _ hb1.1 hb1.2, Option.bind_some]
        cases hy : hexV true (bt s ((i + 1 : Nat) : Int)) with
        | none =>
          simp only [hexR, pairR]
          exact Ev.now _
        | some y =>
          have hyr := hexV_range hy
          refine Ev.succ ?_
          simp only [hexR, pairR, if_true, i_next h1 hs, quote_pair.l0, h2, show ¬ ((i + 1 + 1 : Nat) : Int) < ((i + 2 : Nat) : Int) by omega, if_false]
          refine Ev.const ?_
          have e1 : Go.bits .or .u8 (0 * 16 % 256) x = x := by
            rw [show (0 * 16 % 256 : Int) = 0 by omega, bits_join .u8 8 (by decide) wraps_u8 4 0 x (by omega) (by omega) (by omega) (by omega) (by omega) (by omega)]
            omega
          have e2 : Go.bits .or .u8 (x * 16 % 256) y = 16 * x + y := by
            rw [show x * 16 % 256 = x * 16 by omega, bits_join .u8 8 (by decide) wraps_u8 4 _ y (by omega) (by omega) (by omega) (by omega) (by omega) (by omega)]
            omega
          rw [e1, e2]
    · rw [bytes_end s (by omega)]
      have hb1 := bt_range s (i : Int)
      cases hx : hexV true (bt s (i : Int)) with
      | none =>
        simp only [hexR, pairL, hx, pairR]
        exact Ev.now _
      | some x =>
        simp only [hexR, pairL, hx, pairR, if_true, show ((i + 1 : Nat) : Int) < ((i + 2 : Nat) : Int) by omega, show ((i + 1 : Nat) : Int) ≥ (s.size : Int) by omega]
        exact Ev.now _
  · rw [bytes_end s (by omega)]
    simp only [show (i : Int) ≥ (s.size : Int) by omega, if_true, pairL, pairR]
    exact Ev.now _
end

end Go.Proofs.Ytdalplbgbgciiaa.Pure
