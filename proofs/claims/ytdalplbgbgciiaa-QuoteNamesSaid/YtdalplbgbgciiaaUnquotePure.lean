/- Reading a text in quotes: the printed loop as a law on lists of bytes; canonical texts. -/
import Derived.Test.YtdalplbgbgciiaaQuotePure
namespace Go.Proofs.Ytdalplbgbgciiaa.Pure
set_option linter.unusedSimpArgs false
open Go.RowKit Go.Proofs.Ytdalplbgbgciiaa.PA Go.Proofs.YtdalplbgbgciiaaW.PrintWords Go.Proofs.YtdalplbgbgciiaaW.PrintLast

def resU (r : List Int × Nat × Int) : ByteArray × Int × Int := (strOfNums r.1, (r.2.1 : Int), r.2.2)
theorem no_text : strOfNums [] = (⟨#[]⟩ : ByteArray) := rfl

section
variable (s : ByteArray) (hs : s.size ≤ 140737488351232)
include hs

theorem unquote_loop (d : Nat) : ∀ (i : Nat) (acc : List Int), i ≤ s.size → s.size - i = d → acc.length ≤ i →
    Ev (fun k => quote_Unquote.l0 k s acc (i : Int)) (resU (unqL s.size ((bytesOf s).drop i) i acc)) := by
  induction d using Nat.strongRecOn with
  | _ d ih =>
  intro i acc hi hd ha
  refine Ev.succ ?_
  simp only [quote_Unquote.l0]
  by_cases hlt : i < s.size
  · have hb := bt_range s (i : Int)
    have hn := i_next hlt hs
    rw [bytes_drop s hlt]
    simp only [show (i : Int) < (s.size : Int) by omega, show (0 : Int) ≤ (i : Int) by omega, if_true, hn, show acc.length < 140737488355328 by omega]
    by_cases h34 : bt s (i : Int) = 34
    · rw [h34, unqL_mark]
      simp only [if_true]
      exact Ev.now _
    simp only [h34, if_false]
    by_cases h32 : bt s (i : Int) < 32
    · rw [unqL_low _ _ _ _ h32]
      simp only [h32, if_true]
      exact Ev.now _
    simp only [h32, if_false]
    by_cases h92 : bt s (i : Int) = 92
    · rw [h92]
      simp only [if_true]
      by_cases h1 : i + 1 < s.size
      · have hb1 := bt_range s ((i + 1 : Nat) : Int)
        rw [bytes_drop s h1]
        simp only [show ¬ ((i + 1 : Nat) : Int) ≥ (s.size : Int) by omega, show (0 : Int) ≤ ((i + 1 : Nat) : Int) by omega, show ((i + 1 : Nat) : Int) < (s.size : Int) by omega, if_true, if_false, i_next h1 hs]
        by_cases h120 : bt s ((i + 1 : Nat) : Int) = 120
        · rw [h120, unqL_hex]
          simp only [if_true]
          refine Ev.bind (pair_ev s hs (i + 1 + 1) (by omega)) ?_
          cases hp : pairL s.size ((bytesOf s).drop (i + 1 + 1)) (i + 2) with
          | inl x =>
            have hp' : pairL s.size ((bytesOf s).drop (i + 1 + 1)) (i + 1 + 1) = .inl x := hp
            simp only [hp', pairR, if_true]
            have hsz : i + 4 ≤ s.size := by
              rcases Nat.lt_or_ge s.size (i + 4) with h | h
              · exfalso
                by_cases h2 : i + 2 < s.size
                · rw [bytes_drop s h2, bytes_end s (show s.size ≤ i + 1 + 1 + 1 by omega)] at hp
                  simp only [pairL] at hp
                  split at hp <;> cases hp
                · rw [bytes_end s (by omega)] at hp
                  cases hp
              · exact h
            have := ih (s.size - (i + 4)) (by omega) (i + 4) (acc ++ [x]) hsz rfl (by simp; omega)
            rw [List.drop_drop]
            exact this
          | inr q =>
            obtain ⟨p, e⟩ := q
            have hp' : pairL s.size ((bytesOf s).drop (i + 1 + 1)) (i + 1 + 1) = .inr (p, e) := hp
            have he : e ≠ 0 := by
              intro h0
              subst h0
              rcases hl : (bytesOf s).drop (i + 1 + 1) with _ | ⟨a, _ | ⟨b, r⟩⟩ <;> rw [hl] at hp <;> simp only [pairL] at hp
              · simp at hp
              · split at hp <;> simp at hp
              · split at hp
                · simp at hp
                · split at hp <;> simp at hp
            simp only [hp', pairR, he, if_false]
            exact Ev.now _
        · rw [unqL_let _ _ _ _ h120]
          simp only [h120, if_false, quote_byLetter.f, Option.bind_some]
          by_cases hl : (byLetterS (bt s ((i + 1 : Nat) : Int))).2 = true
          · simp only [hl, if_true]
            exact ih (s.size - (i + 2)) (by omega) (i + 2) (acc ++ [(byLetterS (bt s ((i + 1 : Nat) : Int))).1]) (by omega) rfl (by simp; omega)
          · simp only [hl, if_false]
            exact Ev.now _
      · rw [bytes_end s (show s.size ≤ i + 1 by omega), unqL_end]
        simp only [show ((i + 1 : Nat) : Int) ≥ (s.size : Int) by omega, if_true]
        exact Ev.now _
    · rw [unqL_plain _ _ _ _ h34 h32 h92]
      simp only [h92, if_false]
      exact ih (s.size - (i + 1)) (by omega) (i + 1) (acc ++ [bt s (i : Int)]) (by omega) rfl (by simp; omega)
  · rw [bytes_end s (by omega), unqL_nil]
    simp only [show ¬ (i : Int) < (s.size : Int) by omega, if_false]
    exact Ev.now _
theorem unquote_ev : Ev (fun k => quote_Unquote.f k s) (resU (unquoteL (bytesOf s))) := by
  unfold quote_Unquote.f
  by_cases h0 : s.size = 0
  · rw [bytes_nil h0]
    simp only [toList_nil.2 h0, if_true]
    exact Ev.now _
  · have hd := bytes_drop s (show 0 < s.size by omega)
    rw [List.drop_zero] at hd
    have hn : ¬ s.toList = [] := fun h => h0 (toList_nil.1 h)
    simp only [hn, if_false, show (0 : Int) < (s.size : Int) by omega, if_true, show (0 : Int) ≤ (s.size : Int) by omega, show (s.size : Int).toNat ≤ 281474976710656 by omega]
    unfold unquoteL
    rw [hd]
    simp only []
    by_cases h34 : bt s ((0 : Nat) : Int) = 34
    · simp only [h34, show bt s 0 = 34 from h34, if_true]
      have := unquote_loop s hs (s.size - 1) 1 [] (by omega) rfl (by simp)
      have el : ((bytesOf s).drop (0 + 1)).length + 1 = s.size := by rw [List.length_drop, bytesOf_length]; omega
      rw [el]
      exact this
    · simp only [h34, show ¬ bt s 0 = 34 from h34, if_false]
      exact Ev.now _
end

/-- Is a list of bytes a quotation as it is written? -/
def canonL (l : List Int) : Bool := decide ((unquoteL l).2.2 = 0) && decide ((unquoteL l).2.1 = l.length) && decide (quoteL (unquoteL l).1 = l)
theorem unqL_bytes (n : Nat) : ∀ (m : Nat) (l : List Int), l.length ≤ m → ∀ (p : Nat) (acc : List Int), (∀ x ∈ l, 0 ≤ x ∧ x ≤ 255) → (∀ x ∈ acc, 0 ≤ x ∧ x ≤ 255) →
    (∀ x ∈ (unqL n l p acc).1, 0 ≤ x ∧ x ≤ 255) ∧ (unqL n l p acc).1.length ≤ acc.length + l.length := by
  intro m
  induction m with
  | zero =>
    intro l hl p acc _ _
    rw [List.eq_nil_of_length_eq_zero (show l.length = 0 by omega), unqL_nil]
    simp
  | succ m ih =>
    intro l hl p acc hb ha
    have snoc : ∀ (x : Int) (acc : List Int), 0 ≤ x → x ≤ 255 → (∀ x ∈ acc, 0 ≤ x ∧ x ≤ 255) → ∀ y ∈ acc ++ [x], 0 ≤ y ∧ y ≤ 255 := by
      intro x acc h0 h1 h y hy
      rcases List.mem_append.1 hy with hy | hy
      · exact h y hy
      · simp at hy; subst hy; exact ⟨h0, h1⟩
    match l, hl with
    | [], _ => rw [unqL_nil]; simp
    | c :: r, hl =>
      rw [List.length_cons] at hl
      have hc := hb c (by simp)
      have hr : ∀ x ∈ r, 0 ≤ x ∧ x ≤ 255 := fun x hx => hb x (by simp [hx])
      by_cases h34 : c = 34
      · subst h34; rw [unqL_mark]; exact ⟨ha, by simp⟩
      by_cases h32 : c < 32
      · rw [unqL_low _ _ _ _ h32]; simp
      by_cases h92 : c = 92
      · subst h92
        match r, hr, hl with
        | [], _, _ => rw [unqL_end]; simp
        | d :: r2, hr, hl =>
          rw [List.length_cons] at hl
          have hd := hr d (by simp)
          have hr2 : ∀ x ∈ r2, 0 ≤ x ∧ x ≤ 255 := fun x hx => hr x (by simp [hx])
          by_cases h120 : d = 120
          · subst h120
            rw [unqL_hex]
            cases hp : pairL n r2 (p + 2) with
            | inl x =>
              simp only []
              match r2, hr2, hp, hl with
              | [], _, hp, _ => cases hp
              | [a], _, hp, _ => simp only [pairL] at hp; split at hp <;> cases hp
              | a :: b :: r4, hr2, hp, hl =>
                simp only [pairL] at hp
                cases hu : hexV true a with
                | none => rw [hu] at hp; cases hp
                | some u =>
                  cases hv : hexV true b with
                  | none => rw [hu, hv] at hp; cases hp
                  | some v =>
                    rw [hu, hv] at hp
                    have := hexV_range hu
                    have := hexV_range hv
                    have e : 16 * u + v = x := Sum.inl.inj hp
                    have := ih r4 (by simp at hl; omega) (p + 4) (acc ++ [x]) (fun x hx => hr2 x (by simp [hx])) (snoc x acc (by omega) (by omega) ha)
                    simp only [List.drop_succ_cons, List.drop_zero]
                    refine ⟨this.1, ?_⟩
                    have h2 := this.2
                    simp at h2 ⊢
                    omega
            | inr q => simp
          · rw [unqL_let _ _ _ _ h120]
            by_cases hl2 : (byLetterS d).2 = true
            · rw [if_pos hl2]
              have hbl : 0 ≤ (byLetterS d).1 ∧ (byLetterS d).1 ≤ 255 := by
                unfold byLetterS
                repeat' split
                all_goals (simp only []; omega)
              have := ih r2 (by omega) (p + 2) (acc ++ [(byLetterS d).1]) hr2 (snoc _ acc hbl.1 hbl.2 ha)
              refine ⟨this.1, ?_⟩
              have h2 := this.2
              simp at h2 ⊢
              omega
            · rw [if_neg hl2]; simp
      · rw [unqL_plain _ _ _ _ h34 h32 h92]
        have := ih r (by omega) (p + 1) (acc ++ [c]) hr (snoc c acc hc.1 hc.2 ha)
        refine ⟨this.1, ?_⟩
        have h2 := this.2
        simp at h2 ⊢
        omega
theorem unquoteL_bytes (l : List Int) (h : ∀ x ∈ l, 0 ≤ x ∧ x ≤ 255) : (∀ x ∈ (unquoteL l).1, 0 ≤ x ∧ x ≤ 255) ∧ (unquoteL l).1.length ≤ l.length := by
  unfold unquoteL
  match l with
  | [] => simp
  | c :: r =>
    simp only []
    split
    · have := unqL_bytes (r.length + 1) r.length r (Nat.le_refl _) 1 [] (fun x hx => h x (by simp [hx])) (by simp)
      refine ⟨this.1, ?_⟩
      have h2 := this.2
      simp at h2 ⊢
      omega
    · simp
theorem canon_ev (s : ByteArray) (hs : s.size ≤ 35184372088830) : Ev (fun k => quote_Canon.f k s) (canonL (bytesOf s)) := by
  unfold quote_Canon.f
  refine Ev.bind (unquote_ev s (by omega)) ?_
  unfold canonL resU
  simp only [bytesOf_length]
  obtain ⟨hb, hl⟩ := unquoteL_bytes (bytesOf s) (bytesOf_range s)
  rw [bytesOf_length] at hl
  by_cases h1 : (unquoteL (bytesOf s)).2.2 = 0
  · by_cases h2 : (unquoteL (bytesOf s)).2.1 = s.size
    · simp only [h1, h2, if_true, decide_true, Bool.true_and]
      refine Ev.bind (quote_ev (strOfNums (unquoteL (bytesOf s)).1) (by rw [strOfNums_size]; omega)) ?_
      rw [bytesOf_strOfNums _ hb]
      refine Ev.const ?_
      congr 1
      rw [Bool.eq_iff_iff, beq_iff_eq, toList_inj, decide_eq_true_iff]
      constructor
      · intro e
        have := congrArg bytesOf e
        rwa [bytesOf_strOfNums _ (quoteL_bytes _ hb)] at this
      · intro e
        rw [e, strOfNums_bytesOf]
    · simp only [h1, if_true, show ¬ ((unquoteL (bytesOf s)).2.1 : Int) = (s.size : Int) by omega, if_false, h2, decide_false, Bool.and_false, Bool.false_and]
      exact Ev.now _
  · simp only [h1, if_false, decide_false, Bool.false_and]
    exact Ev.now _

end Go.Proofs.Ytdalplbgbgciiaa.Pure
