/- Texts in quotes, as plain laws on lists of bytes: what is quoted is unquoted, and cut off anywhere it is too short. No program in sight but the table of letters. -/
import Derived.Test.YtdalplbgbgciiaaGLetters
namespace Go.Proofs.Ytdalplbgbgciiaa.Pure
open Go.Proofs.Ytdalplbgbgciiaa

def hexD (n : Int) : Int := if n < 10 then 48 + n else 87 + n
/-- What a hexadecimal digit says; great letters, too, if they may be. -/
def hexV (great : Bool) (c : Int) : Option Int :=
  if 48 ≤ c ∧ c ≤ 57 then some (c - 48) else if 97 ≤ c ∧ c ≤ 102 then some (c - 87) else if great = true ∧ 65 ≤ c ∧ c ≤ 70 then some (c - 55) else none
/-- A byte within quotes. -/
def qone (c : Int) : List Int :=
  if letterS c > 0 then [92, letterS c] else if c < 32 ∨ c > 126 then [92, 120, hexD (c / 16), hexD (c % 16)] else [c]
def qbody (l : List Int) : List Int := l.flatMap qone
def quoteL (l : List Int) : List Int := 34 :: (qbody l ++ [34])

/-- Behind 'backslash x': the byte that two digits say, or where they are wrong. -/
def pairL (n : Nat) : List Int → Nat → Int ⊕ (Nat × Int)
  | [], _ => .inr (n, 10)
  | [a], at_ => match hexV true a with | none => .inr (at_, 2) | some _ => .inr (n, 10)
  | a :: b :: _, at_ => match hexV true a with
    | none => .inr (at_, 2)
    | some x => match hexV true b with
      | none => .inr (at_ + 1, 2)
      | some y => .inl (16 * x + y)

/-- The text that stands in quotes from a place on (behind the first mark); n: how many bytes there are in all. -/
def unqL (n : Nat) (l : List Int) (at_ : Nat) (acc : List Int) : List Int × Nat × Int :=
  match l with
  | [] => ([], n, 10)
  | c :: r =>
    if c = 34 then (acc, at_ + 1, 0)
    else if c < 32 then ([], at_, 2)
    else if c = 92 then
      match r with
      | [] => ([], n, 10)
      | d :: r2 =>
        if d = 120 then
          match pairL n r2 (at_ + 2) with
          | .inl x => unqL n (r2.drop 2) (at_ + 4) (acc ++ [x])
          | .inr (p, e) => ([], p, e)
        else if (byLetterS d).2 = true then unqL n r2 (at_ + 2) (acc ++ [(byLetterS d).1])
        else ([], at_ + 1, 2)
    else unqL n r (at_ + 1) (acc ++ [c])
termination_by l.length
decreasing_by all_goals (simp; try omega)

section
variable (n p : Nat) (acc r : List Int) {c d : Int}
theorem unqL_nil : unqL n [] p acc = ([], n, 10) := by rw [unqL.eq_def]
theorem unqL_mark : unqL n (34 :: r) p acc = (acc, p + 1, 0) := by rw [unqL.eq_def]; rfl
theorem unqL_low (h : c < 32) : unqL n (c :: r) p acc = ([], p, 2) := by
  rw [unqL.eq_def]
  simp only []
  rw [if_neg (by omega), if_pos h]
theorem unqL_end : unqL n [92] p acc = ([], n, 10) := by rw [unqL.eq_def]; rfl
theorem unqL_hex : unqL n (92 :: 120 :: r) p acc = (match pairL n r (p + 2) with
    | .inl x => unqL n (r.drop 2) (p + 4) (acc ++ [x])
    | .inr (q, e) => ([], q, e)) := by
  rw [unqL.eq_def]
  rfl
theorem unqL_let (h : d ≠ 120) : unqL n (92 :: d :: r) p acc = (if (byLetterS d).2 = true then unqL n r (p + 2) (acc ++ [(byLetterS d).1]) else ([], p + 1, 2)) := by
  rw [unqL.eq_def]
  simp only []
  rw [if_neg (by omega), if_neg (by omega), if_pos trivial, if_neg h]
theorem unqL_plain (h34 : c ≠ 34) (h32 : ¬ c < 32) (h92 : c ≠ 92) : unqL n (c :: r) p acc = unqL n r (p + 1) (acc ++ [c]) := by
  rw [unqL.eq_def]
  simp only []
  rw [if_neg h34, if_neg h32, if_neg h92]
end

/-- The text in quotes at a text's beginning. -/
def unquoteL (l : List Int) : List Int × Nat × Int :=
  match l with
  | [] => ([], 0, 10)
  | c :: r => if c = 34 then unqL (r.length + 1) r 1 [] else ([], 0, 2)

theorem hexV_hexD (g : Bool) {x : Int} (h0 : 0 ≤ x) (h1 : x < 16) : hexV g (hexD x) = some x := by
  unfold hexV hexD
  by_cases h : x < 10
  · rw [if_pos h, if_pos (by omega)]
    congr 1
    omega
  · rw [if_neg h, if_neg (by omega), if_pos (by omega)]
    congr 1
    omega
theorem letter_cases (c : Int) : (letterS c > 0 ∧ letterS c ≠ 120 ∧ byLetterS (letterS c) = (c, true)) ∨ (letterS c = 0 ∧ c ≠ 34 ∧ c ≠ 92) := by
  unfold letterS
  by_cases h1 : c = 34
  · subst h1; left; simp [byLetterS]
  by_cases h2 : c = 92
  · subst h2; left; simp [byLetterS]
  by_cases h3 : c = 10
  · subst h3; left; simp [byLetterS]
  by_cases h4 : c = 9
  · subst h4; left; simp [byLetterS]
  by_cases h5 : c = 13
  · subst h5; left; simp [byLetterS]
  right
  simp [h1, h2, h3, h4, h5]

/-- A byte as it is quoted is read as it was. -/
theorem unq_one (n : Nat) (c : Int) (h0 : 0 ≤ c) (h1 : c ≤ 255) (r : List Int) (p : Nat) (acc : List Int) :
    unqL n (qone c ++ r) p acc = unqL n r (p + (qone c).length) (acc ++ [c]) := by
  rcases letter_cases c with ⟨hl, hx, hb⟩ | ⟨hl, h34, h92⟩
  · have e : qone c = [92, letterS c] := by unfold qone; rw [if_pos hl]
    rw [e]
    simp only [List.cons_append, List.nil_append, List.length_cons, List.length_nil]
    rw [unqL_let _ _ _ _ hx, hb]
    simp
  · by_cases hr : c < 32 ∨ c > 126
    · have e : qone c = [92, 120, hexD (c / 16), hexD (c % 16)] := by unfold qone; rw [if_neg (by omega), if_pos hr]
      rw [e]
      simp only [List.cons_append, List.nil_append, List.length_cons, List.length_nil]
      rw [unqL_hex]
      simp only [pairL, hexV_hexD true (show 0 ≤ c / 16 by omega) (show c / 16 < 16 by omega), hexV_hexD true (show 0 ≤ c % 16 by omega) (show c % 16 < 16 by omega), List.drop_succ_cons, List.drop_zero]
      rw [show 16 * (c / 16) + c % 16 = c by omega]
    · have e : qone c = [c] := by unfold qone; rw [if_neg (by omega), if_neg hr]
      rw [e]
      simp only [List.cons_append, List.nil_append, List.length_cons, List.length_nil]
      rw [unqL_plain _ _ _ _ h34 (by omega) h92]
theorem unq_body (n : Nat) (l : List Int) : ∀ (r : List Int) (p : Nat) (acc : List Int), (∀ x ∈ l, 0 ≤ x ∧ x ≤ 255) →
    unqL n (qbody l ++ r) p acc = unqL n r (p + (qbody l).length) (acc ++ l) := by
  induction l with
  | nil => intro r p acc _; simp [qbody]
  | cons c l ih =>
    intro r p acc hb
    have hc := hb c (by simp)
    have e : qbody (c :: l) = qone c ++ qbody l := by simp [qbody]
    rw [e, List.append_assoc, unq_one n c hc.1 hc.2, ih _ _ _ (fun x hx => hb x (by simp [hx]))]
    simp [Nat.add_assoc]
/-- What is quoted is unquoted, whatever stands behind. -/
theorem unquote_quote (l r : List Int) (hb : ∀ x ∈ l, 0 ≤ x ∧ x ≤ 255) : unquoteL (quoteL l ++ r) = (l, (quoteL l).length, 0) := by
  unfold unquoteL quoteL
  simp only [List.cons_append, List.append_assoc]
  rw [if_pos trivial, unq_body _ l _ 1 [] hb]
  simp only [List.nil_append]
  rw [unqL_mark]
  simp
  omega
theorem quoteL_inj {l m : List Int} (hl : ∀ x ∈ l, 0 ≤ x ∧ x ≤ 255) (hm : ∀ x ∈ m, 0 ≤ x ∧ x ≤ 255) (h : quoteL l = quoteL m) : l = m := by
  have a := unquote_quote l [] hl
  have b := unquote_quote m [] hm
  rw [h] at a
  rw [b] at a
  exact (congrArg Prod.fst a).symm

/-- Less than a quoted byte is too short. -/
theorem unq_cut_one (n : Nat) (c : Int) (h0 : 0 ≤ c) (h1 : c ≤ 255) (j p : Nat) (acc : List Int) (hj : j < (qone c).length) :
    unqL n ((qone c).take j) p acc = ([], n, 10) := by
  rcases letter_cases c with ⟨hl, hx, hb⟩ | ⟨hl, h34, h92⟩
  · have e : qone c = [92, letterS c] := by unfold qone; rw [if_pos hl]
    rw [e] at hj ⊢
    match j, hj with
    | 0, _ => rw [List.take_zero, unqL_nil]
    | 1, _ =>
      simp only [List.take_succ_cons, List.take_zero]
      rw [unqL_end]
    | j + 2, hj => simp at hj; omega
  · by_cases hr : c < 32 ∨ c > 126
    · have e : qone c = [92, 120, hexD (c / 16), hexD (c % 16)] := by unfold qone; rw [if_neg (by omega), if_pos hr]
      rw [e] at hj ⊢
      match j, hj with
      | 0, _ => rw [List.take_zero, unqL_nil]
      | 1, _ =>
        simp only [List.take_succ_cons, List.take_zero]
        rw [unqL_end]
      | 2, _ =>
        simp only [List.take_succ_cons, List.take_zero]
        rw [unqL_hex]
        simp [pairL]
      | 3, _ =>
        simp only [List.take_succ_cons, List.take_zero]
        rw [unqL_hex]
        simp [pairL, hexV_hexD true (show 0 ≤ c / 16 by omega) (show c / 16 < 16 by omega)]
      | j + 4, hj => simp at hj; omega
    · have e : qone c = [c] := by unfold qone; rw [if_neg (by omega), if_neg hr]
      rw [e] at hj ⊢
      have : j = 0 := by simp at hj; omega
      subst this
      rw [List.take_zero, unqL_nil]
theorem unq_cut (n : Nat) (l : List Int) : ∀ (j p : Nat) (acc : List Int), (∀ x ∈ l, 0 ≤ x ∧ x ≤ 255) → j ≤ (qbody l).length →
    unqL n ((qbody l ++ [34]).take j) p acc = ([], n, 10) := by
  induction l with
  | nil =>
    intro j p acc _ hj
    have : j = 0 := by simp [qbody] at hj; exact hj
    subst this
    rw [List.take_zero, unqL_nil]
  | cons c l ih =>
    intro j p acc hb hj
    have hc := hb c (by simp)
    have e : qbody (c :: l) = qone c ++ qbody l := by simp [qbody]
    rw [e] at hj ⊢
    rw [List.append_assoc]
    by_cases hlt : j < (qone c).length
    · rw [List.take_append_of_le_length (by omega)]
      exact unq_cut_one n c hc.1 hc.2 j p acc hlt
    · obtain ⟨i, rfl⟩ : ∃ i, j = (qone c).length + i := ⟨j - (qone c).length, by omega⟩
      rw [List.take_length_add_append, unq_one n c hc.1 hc.2]
      rw [List.length_append] at hj
      exact ih i _ _ (fun x hx => hb x (by simp [hx])) (by omega)
/-- Cut off anywhere what is quoted is no whole quotation. -/
theorem unquote_cut (l : List Int) (hb : ∀ x ∈ l, 0 ≤ x ∧ x ≤ 255) (j : Nat) (hj : j < (quoteL l).length) : (unquoteL ((quoteL l).take j)).2 = (j, 10) := by
  unfold quoteL at hj ⊢
  match j with
  | 0 => simp [unquoteL]
  | j + 1 =>
    simp only [List.take_succ_cons, unquoteL]
    rw [if_pos trivial]
    rw [List.length_cons, List.length_append, List.length_singleton] at hj
    rw [unq_cut _ l j 1 [] hb (by omega)]
    simp
    omega
end Go.Proofs.Ytdalplbgbgciiaa.Pure
