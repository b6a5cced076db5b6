/- Numbers, names, quotations, tokens: plain laws on lists of bytes, no program. -/
import Derived.Test.YtkbjblhompkdkaaDoorGiven
import Derived.Laws.BytesArg
namespace Go.Proofs.YtkbjblhompkdkaaDoor.Pure
open Go.Proofs.YtkbjblhompkdkaaDoor

/-- The number of digits, going on from one. -/
def foldV (v : Nat) (l : List Int) : Nat := l.foldl (fun v c => 10 * v + (c - 48).toNat) v
def allDig (l : List Int) : Prop := ∀ c ∈ l, 48 ≤ c ∧ c ≤ 57
instance (l : List Int) : Decidable (allDig l) := inferInstanceAs (Decidable (∀ c ∈ l, 48 ≤ c ∧ c ≤ 57))
/-- The answer of a size. -/
def finS (below : Bool) (v : Nat) : Int × Int :=
  if below = true then (if v > 9223372036854775808 then (0, 4) else (-(v : Int), 0)) else (if v > 9223372036854775807 then (0, 4) else ((v : Int), 0))
/-- May these be the digits of a number in a text (of more than one byte: long)? -/
def Digs (long : Prop) (l : List Int) : Prop := allDig l ∧ l ≠ [] ∧ ¬ (l.head? = some 48 ∧ long)
instance (long : Prop) [Decidable long] (l : List Int) : Decidable (Digs long l) := inferInstanceAs (Decidable (_ ∧ _ ∧ ¬ (_ ∧ _)))

theorem allDig_cons {c : Int} {l : List Int} : allDig (c :: l) ↔ (48 ≤ c ∧ c ≤ 57) ∧ allDig l := by simp [allDig]

/-- What parsing comes to: of the text's bytes. -/
def parseS (l : List Int) : Int × Int :=
  if l.head? = some 45 then (if Digs (1 < l.length) l.tail then finS true (foldV 0 l.tail) else (0, 2))
  else (if Digs (1 < l.length) l then finS false (foldV 0 l) else (0, 2))

theorem foldV_ge (l : List Int) : ∀ v, v ≤ foldV v l := by
  induction l with
  | nil => intro v; exact Nat.le_refl _
  | cons c l ih =>
    intro v
    have := ih (10 * v + (c - 48).toNat)
    show v ≤ foldV (10 * v + (c - 48).toNat) l
    omega
theorem finS_over (below : Bool) {v : Nat} (h : v > 9223372036854775808) : finS below v = (0, 4) := by
  unfold finS
  cases below
  · rw [if_neg (by simp), if_pos (by omega)]
  · rw [if_pos rfl, if_pos h]

theorem head_app {l m : List Int} (h : l ≠ []) : (l ++ m).head? = l.head? := by
  cases l with
  | nil => exact absurd rfl h
  | cons c l => rfl

theorem foldV_snoc (v : Nat) (l : List Int) (d : Int) : foldV v (l ++ [d]) = 10 * foldV v l + (d - 48).toNat := by simp [foldV]
theorem foldV_decL (u : Nat) : foldV 0 (decL u) = u := by
  induction u using Nat.strongRecOn with
  | _ u ih =>
  by_cases h : u < 10
  · rw [decL_small h]
    simp [foldV]
    omega
  · rw [decL_big h, foldV_snoc, ih (u / 10) (by omega)]
    omega
theorem decL_ne (u : Nat) : decL u ≠ [] := by
  by_cases h : u < 10
  · rw [decL_small h]; simp
  · rw [decL_big h]; simp
theorem decL_head (u : Nat) : (decL u).head? = some 48 → u = 0 := by
  induction u using Nat.strongRecOn with
  | _ u ih =>
  by_cases h : u < 10
  · rw [decL_small h]
    simp
    omega
  · rw [decL_big h, head_app (decL_ne _)]
    intro hh
    have := ih (u / 10) (by omega) hh
    omega
theorem decL_dig (u : Nat) : allDig (decL u) := decL_range u
theorem decL_bytes (u : Nat) : ∀ x ∈ decL u, 0 ≤ x ∧ x ≤ 255 := fun x hx => by have := decL_range u x hx; omega
theorem digL_bytes (n : Int) : ∀ x ∈ digL n, 0 ≤ x ∧ x ≤ 255 := by
  unfold digL
  split
  · intro x hx
    rcases List.mem_cons.1 hx with rfl | hx
    · omega
    · exact decL_bytes _ x hx
  · exact decL_bytes _

theorem decL_of_small (l : List Int) (ha : allDig l) (hl : l.length = 1) : decL (foldV 0 l) = l := by
  match l, hl with
  | [c], _ =>
    have := ha c (by simp)
    have e : foldV 0 [c] = (c - 48).toNat := by simp [foldV]
    rw [e, decL_small (by omega)]
    congr 1
    omega
theorem foldV_pos (l : List Int) (ha : allDig l) (hn : l ≠ []) (hh : l.head? ≠ some 48) : 0 < foldV 0 l := by
  match l with
  | [] => exact absurd rfl hn
  | c :: l =>
    have hc := ha c (by simp)
    have h48 : c ≠ 48 := by simpa using hh
    have := foldV_ge l (10 * 0 + (c - 48).toNat)
    show 0 < foldV (10 * 0 + (c - 48).toNat) l
    omega
/-- Digits without noughts in front are those of their number. -/
theorem decL_foldV (n : Nat) : ∀ l : List Int, l.length = n → allDig l → l ≠ [] → ¬ (l.head? = some 48 ∧ 1 < l.length) → decL (foldV 0 l) = l := by
  induction n with
  | zero => intro l hl _ hn; exact absurd (List.eq_nil_of_length_eq_zero hl) hn
  | succ n ih =>
    intro l hl ha hn hz
    by_cases h1 : l.length = 1
    · exact decL_of_small l ha h1
    · obtain ⟨m, d, rfl⟩ : ∃ m d, l = m ++ [d] := ⟨l.dropLast, l.getLast hn, (List.dropLast_concat_getLast hn).symm⟩
      have hm : m.length = n := by simpa using hl
      have hmn : m ≠ [] := by
        intro e
        subst e
        simp at h1
      have ham : allDig m := fun c hc => ha c (by simp [hc])
      have hd := ha d (by simp)
      have hh : (m ++ [d]).head? = m.head? := head_app hmn
      have hz' : m.head? ≠ some 48 := by
        intro e
        refine hz ⟨by rw [hh]; exact e, ?_⟩
        simp
        exact List.length_pos_iff.2 hmn
      have hp := foldV_pos m ham hmn hz'
      have e := ih m hm ham hmn (fun h => hz' h.1)
      rw [foldV_snoc, decL_big (by omega), show (10 * foldV 0 m + (d - 48).toNat) / 10 = foldV 0 m by omega, e]
      congr 2
      omega

theorem parseS_digL (n : Int) (h0 : -9223372036854775808 ≤ n) (h1 : n ≤ 9223372036854775807) : parseS (digL n) = (n, 0) := by
  unfold digL parseS
  by_cases hn : n < 0
  · rw [if_pos hn, if_pos (by simp), if_pos, List.tail_cons, foldV_decL]
    · unfold finS
      rw [if_pos rfl, if_neg (by omega)]
      congr 1
      omega
    · refine ⟨decL_dig _, decL_ne _, fun h => ?_⟩
      have := decL_head _ h.1
      omega
  · rw [if_neg hn, if_neg, if_pos, foldV_decL]
    · unfold finS
      rw [if_neg (by simp), if_neg (by omega)]
      congr 1
      omega
    · refine ⟨decL_dig _, decL_ne _, fun h => ?_⟩
      have := decL_head _ h.1
      rw [this] at h
      have h2 := h.2
      rw [decL_small (by omega)] at h2
      simp at h2
    · intro h
      have hm := List.mem_of_mem_head? (Option.mem_def.2 h)
      have := decL_range _ _ hm
      omega
theorem digL_parseS (l : List Int) (h : (parseS l).2 = 0) : digL (parseS l).1 = l := by
  unfold parseS at h ⊢
  by_cases hm : l.head? = some 45
  · obtain ⟨t, rfl⟩ : ∃ t, l = 45 :: t := by
      match l, hm with
      | c :: t, hm => exact ⟨t, by simp at hm; rw [hm]⟩
    rw [if_pos hm] at h ⊢
    rw [List.tail_cons] at h ⊢
    by_cases hD : Digs (1 < (45 :: t).length) t
    · rw [if_pos hD] at h ⊢
      obtain ⟨ha, hne, hz⟩ := hD
      have hlong : 1 < (45 :: t).length := by simp; exact List.length_pos_iff.2 hne
      have hz' : t.head? ≠ some 48 := fun e => hz ⟨e, hlong⟩
      have hp := foldV_pos t ha hne hz'
      unfold finS at h ⊢
      rw [if_pos rfl] at h ⊢
      by_cases hb : foldV 0 t > 9223372036854775808
      · rw [if_pos hb] at h; simp at h
      · rw [if_neg hb]
        unfold digL
        rw [if_pos (by omega)]
        congr 1
        rw [show (-((foldV 0 t : Nat) : Int)).natAbs = foldV 0 t by omega]
        exact decL_foldV _ t rfl ha hne (fun e => hz' e.1)
    · rw [if_neg hD] at h; simp at h
  · rw [if_neg hm] at h ⊢
    by_cases hD : Digs (1 < l.length) l
    · rw [if_pos hD] at h ⊢
      obtain ⟨ha, hne, hz⟩ := hD
      unfold finS at h ⊢
      rw [if_neg (show ¬ (false = true) by simp)] at h ⊢
      by_cases hb : foldV 0 l > 9223372036854775807
      · rw [if_pos hb] at h; simp at h
      · rw [if_neg hb]
        unfold digL
        rw [if_neg (by omega)]
        rw [show ((foldV 0 l : Nat) : Int).natAbs = foldV 0 l by omega]
        exact decL_foldV _ l rfl ha hne hz
    · rw [if_neg hD] at h; simp at h
theorem parseS_range (l : List Int) : -9223372036854775808 ≤ (parseS l).1 ∧ (parseS l).1 ≤ 9223372036854775807 := by
  unfold parseS finS
  repeat' split
  all_goals (simp only []; omega)

end Go.Proofs.YtkbjblhompkdkaaDoor.Pure

namespace Go.Proofs.YtkbjblhompkdkaaDoor.Pure

/-- A letter, or the underline. -/
def isLet (c : Int) : Prop := (97 ≤ c ∧ c ≤ 122) ∨ (65 ≤ c ∧ c ≤ 90) ∨ c = 95
def isDig (c : Int) : Prop := 48 ≤ c ∧ c ≤ 57
instance (c : Int) : Decidable (isLet c) := inferInstanceAs (Decidable (_ ∨ _ ∨ _))
instance (c : Int) : Decidable (isDig c) := inferInstanceAs (Decidable (_ ∧ _))
/-- May the bytes stand in a name, as its first ones or not? -/
def nameR (first : Bool) : List Int → Bool
  | [] => true
  | c :: r => (decide (isLet c) || (!first && decide (isDig c))) && nameR false r
def nameS (l : List Int) : Bool := !l.isEmpty && nameR true l

end Go.Proofs.YtkbjblhompkdkaaDoor.Pure

namespace Go.Proofs.YtkbjblhompkdkaaDoor.Pure
open Go.Proofs.YtkbjblhompkdkaaDoor

def hexD (n : Int) : Int := if n < 10 then 48 + n else 87 + n
/-- What a hexadecimal digit says; great letters, too, if they may be. -/
def hexV (great : Bool) (c : Int) : Option Int :=
  if 48 ≤ c ∧ c ≤ 57 then some (c - 48) else if 97 ≤ c ∧ c ≤ 102 then some (c - 87) else if great = true ∧ 65 ≤ c ∧ c ≤ 70 then some (c - 55) else none
/-- A byte within quotes. -/
def qone (c : Int) : List Int :=
  if letterS c > 0 then [92, letterS c] else if c < 32 ∨ c > 126 then [92, 120, hexD (c / 16), hexD (c % 16)] else [c]
def qbody (l : List Int) : List Int := l.flatMap qone
def quoteL (l : List Int) : List Int := 34 :: (qbody l ++ [34])

/-- Behind 'backslash x': the byte that two digits say, or where they are wrong. -/
def pairL (n : Nat) : List Int → Nat → Int ⊕ (Nat × Int)
  | [], _ => .inr (n, 10)
  | [a], at_ => match hexV true a with | none => .inr (at_, 2) | some _ => .inr (n, 10)
  | a :: b :: _, at_ => match hexV true a with
    | none => .inr (at_, 2)
    | some x => match hexV true b with
      | none => .inr (at_ + 1, 2)
      | some y => .inl (16 * x + y)

/-- The text that stands in quotes from a place on (behind the first mark); n: how many bytes there are in all. -/
def unqL (n : Nat) (l : List Int) (at_ : Nat) (acc : List Int) : List Int × Nat × Int :=
  match l with
  | [] => ([], n, 10)
  | c :: r =>
    if c = 34 then (acc, at_ + 1, 0)
    else if c < 32 then ([], at_, 2)
    else if c = 92 then
      match r with
      | [] => ([], n, 10)
      | d :: r2 =>
        if d = 120 then
          match pairL n r2 (at_ + 2) with
          | .inl x => unqL n (r2.drop 2) (at_ + 4) (acc ++ [x])
          | .inr (p, e) => ([], p, e)
        else if (byLetterS d).2 = true then unqL n r2 (at_ + 2) (acc ++ [(byLetterS d).1])
        else ([], at_ + 1, 2)
    else unqL n r (at_ + 1) (acc ++ [c])
termination_by l.length
decreasing_by all_goals (simp; try omega)

section
variable (n p : Nat) (acc r : List Int) {c d : Int}
theorem unqL_nil : unqL n [] p acc = ([], n, 10) := by rw [unqL.eq_def]
theorem unqL_mark : unqL n (34 :: r) p acc = (acc, p + 1, 0) := by rw [unqL.eq_def]; rfl
theorem unqL_low (h : c < 32) : unqL n (c :: r) p acc = ([], p, 2) := by
  rw [unqL.eq_def]
  simp only []
  rw [if_neg (by omega), if_pos h]
theorem unqL_end : unqL n [92] p acc = ([], n, 10) := by rw [unqL.eq_def]; rfl
theorem unqL_hex : unqL n (92 :: 120 :: r) p acc = (match pairL n r (p + 2) with
    | .inl x => unqL n (r.drop 2) (p + 4) (acc ++ [x])
    | .inr (q, e) => ([], q, e)) := by
  rw [unqL.eq_def]
  rfl
theorem unqL_let (h : d ≠ 120) : unqL n (92 :: d :: r) p acc = (if (byLetterS d).2 = true then unqL n r (p + 2) (acc ++ [(byLetterS d).1]) else ([], p + 1, 2)) := by
  rw [unqL.eq_def]
  simp only []
  rw [if_neg (by omega), if_neg (by omega), if_pos trivial, if_neg h]
theorem unqL_plain (h34 : c ≠ 34) (h32 : ¬ c < 32) (h92 : c ≠ 92) : unqL n (c :: r) p acc = unqL n r (p + 1) (acc ++ [c]) := by
  rw [unqL.eq_def]
  simp only []
  rw [if_neg h34, if_neg h32, if_neg h92]
end

/-- The text in quotes at a text's beginning. -/
def unquoteL (l : List Int) : List Int × Nat × Int :=
  match l with
  | [] => ([], 0, 10)
  | c :: r => if c = 34 then unqL (r.length + 1) r 1 [] else ([], 0, 2)

theorem hexV_hexD (g : Bool) {x : Int} (h0 : 0 ≤ x) (h1 : x < 16) : hexV g (hexD x) = some x := by
  unfold hexV hexD
  by_cases h : x < 10
  · rw [if_pos h, if_pos (by omega)]
    congr 1
    omega
  · rw [if_neg h, if_neg (by omega), if_pos (by omega)]
    congr 1
    omega
theorem letter_cases (c : Int) : (letterS c > 0 ∧ letterS c ≠ 120 ∧ byLetterS (letterS c) = (c, true)) ∨ (letterS c = 0 ∧ c ≠ 34 ∧ c ≠ 92) := by
  unfold letterS
  by_cases h1 : c = 34
  · subst h1; left; simp [byLetterS]
  by_cases h2 : c = 92
  · subst h2; left; simp [byLetterS]
  by_cases h3 : c = 10
  · subst h3; left; simp [byLetterS]
  by_cases h4 : c = 9
  · subst h4; left; simp [byLetterS]
  by_cases h5 : c = 13
  · subst h5; left; simp [byLetterS]
  right
  simp [h1, h2, h3, h4, h5]

/-- A byte as it is quoted is read as it was. -/
theorem unq_one (n : Nat) (c : Int) (h0 : 0 ≤ c) (h1 : c ≤ 255) (r : List Int) (p : Nat) (acc : List Int) :
    unqL n (qone c ++ r) p acc = unqL n r (p + (qone c).length) (acc ++ [c]) := by
  rcases letter_cases c with ⟨hl, hx, hb⟩ | ⟨hl, h34, h92⟩
  · have e : qone c = [92, letterS c] := by unfold qone; rw [if_pos hl]
    rw [e]
    simp only [List.cons_append, List.nil_append, List.length_cons, List.length_nil]
    rw [unqL_let _ _ _ _ hx, hb]
    simp
  · by_cases hr : c < 32 ∨ c > 126
    · have e : qone c = [92, 120, hexD (c / 16), hexD (c % 16)] := by unfold qone; rw [if_neg (by omega), if_pos hr]
      rw [e]
      simp only [List.cons_append, List.nil_append, List.length_cons, List.length_nil]
      rw [unqL_hex]
      simp only [pairL, hexV_hexD true (show 0 ≤ c / 16 by omega) (show c / 16 < 16 by omega), hexV_hexD true (show 0 ≤ c % 16 by omega) (show c % 16 < 16 by omega), List.drop_succ_cons, List.drop_zero]
      rw [show 16 * (c / 16) + c % 16 = c by omega]
    · have e : qone c = [c] := by unfold qone; rw [if_neg (by omega), if_neg hr]
      rw [e]
      simp only [List.cons_append, List.nil_append, List.length_cons, List.length_nil]
      rw [unqL_plain _ _ _ _ h34 (by omega) h92]
theorem unq_body (n : Nat) (l : List Int) : ∀ (r : List Int) (p : Nat) (acc : List Int), (∀ x ∈ l, 0 ≤ x ∧ x ≤ 255) →
    unqL n (qbody l ++ r) p acc = unqL n r (p + (qbody l).length) (acc ++ l) := by
  induction l with
  | nil => intro r p acc _; simp [qbody]
  | cons c l ih =>
    intro r p acc hb
    have hc := hb c (by simp)
    have e : qbody (c :: l) = qone c ++ qbody l := by simp [qbody]
    rw [e, List.append_assoc, unq_one n c hc.1 hc.2, ih _ _ _ (fun x hx => hb x (by simp [hx]))]
    simp [Nat.add_assoc]
/-- What is quoted is unquoted, whatever stands behind. -/
theorem unquote_quote (l r : List Int) (hb : ∀ x ∈ l, 0 ≤ x ∧ x ≤ 255) : unquoteL (quoteL l ++ r) = (l, (quoteL l).length, 0) := by
  unfold unquoteL quoteL
  simp only [List.cons_append, List.append_assoc]
  rw [if_pos trivial, unq_body _ l _ 1 [] hb]
  simp only [List.nil_append]
  rw [unqL_mark]
  simp
  omega
theorem quoteL_inj {l m : List Int} (hl : ∀ x ∈ l, 0 ≤ x ∧ x ≤ 255) (hm : ∀ x ∈ m, 0 ≤ x ∧ x ≤ 255) (h : quoteL l = quoteL m) : l = m := by
  have a := unquote_quote l [] hl
  have b := unquote_quote m [] hm
  rw [h] at a
  rw [b] at a
  exact (congrArg Prod.fst a).symm

/-- Less than a quoted byte is too short. -/
theorem unq_cut_one (n : Nat) (c : Int) (h0 : 0 ≤ c) (h1 : c ≤ 255) (j p : Nat) (acc : List Int) (hj : j < (qone c).length) :
    unqL n ((qone c).take j) p acc = ([], n, 10) := by
  rcases letter_cases c with ⟨hl, hx, hb⟩ | ⟨hl, h34, h92⟩
  · have e : qone c = [92, letterS c] := by unfold qone; rw [if_pos hl]
    rw [e] at hj ⊢
    match j, hj with
    | 0, _ => rw [List.take_zero, unqL_nil]
    | 1, _ =>
      simp only [List.take_succ_cons, List.take_zero]
      rw [unqL_end]
    | j + 2, hj => simp at hj; omega
  · by_cases hr : c < 32 ∨ c > 126
    · have e : qone c = [92, 120, hexD (c / 16), hexD (c % 16)] := by unfold qone; rw [if_neg (by omega), if_pos hr]
      rw [e] at hj ⊢
      match j, hj with
      | 0, _ => rw [List.take_zero, unqL_nil]
      | 1, _ =>
        simp only [List.take_succ_cons, List.take_zero]
        rw [unqL_end]
      | 2, _ =>
        simp only [List.take_succ_cons, List.take_zero]
        rw [unqL_hex]
        simp [pairL]
      | 3, _ =>
        simp only [List.take_succ_cons, List.take_zero]
        rw [unqL_hex]
        simp [pairL, hexV_hexD true (show 0 ≤ c / 16 by omega) (show c / 16 < 16 by omega)]
      | j + 4, hj => simp at hj; omega
    · have e : qone c = [c] := by unfold qone; rw [if_neg (by omega), if_neg hr]
      rw [e] at hj ⊢
      have : j = 0 := by simp at hj; omega
      subst this
      rw [List.take_zero, unqL_nil]
theorem unq_cut (n : Nat) (l : List Int) : ∀ (j p : Nat) (acc : List Int), (∀ x ∈ l, 0 ≤ x ∧ x ≤ 255) → j ≤ (qbody l).length →
    unqL n ((qbody l ++ [34]).take j) p acc = ([], n, 10) := by
  induction l with
  | nil =>
    intro j p acc _ hj
    have : j = 0 := by simp [qbody] at hj; exact hj
    subst this
    rw [List.take_zero, unqL_nil]
  | cons c l ih =>
    intro j p acc hb hj
    have hc := hb c (by simp)
    have e : qbody (c :: l) = qone c ++ qbody l := by simp [qbody]
    rw [e] at hj ⊢
    rw [List.append_assoc]
    by_cases hlt : j < (qone c).length
    · rw [List.take_append_of_le_length (by omega)]
      exact unq_cut_one n c hc.1 hc.2 j p acc hlt
    · obtain ⟨i, rfl⟩ : ∃ i, j = (qone c).length + i := ⟨j - (qone c).length, by omega⟩
      rw [List.take_length_add_append, unq_one n c hc.1 hc.2]
      rw [List.length_append] at hj
      exact ih i _ _ (fun x hx => hb x (by simp [hx])) (by omega)
/-- Cut off anywhere what is quoted is no whole quotation. -/
theorem unquote_cut (l : List Int) (hb : ∀ x ∈ l, 0 ≤ x ∧ x ≤ 255) (j : Nat) (hj : j < (quoteL l).length) : (unquoteL ((quoteL l).take j)).2 = (j, 10) := by
  unfold quoteL at hj ⊢
  match j with
  | 0 => simp [unquoteL]
  | j + 1 =>
    simp only [List.take_succ_cons, unquoteL]
    rw [if_pos trivial]
    rw [List.length_cons, List.length_append, List.length_singleton] at hj
    rw [unq_cut _ l j 1 [] hb (by omega)]
    simp
    omega
end Go.Proofs.YtkbjblhompkdkaaDoor.Pure

namespace Go.Proofs.YtkbjblhompkdkaaDoor.Pure
open Go.Proofs.YtkbjblhompkdkaaDoor
theorem qone_length (c : Int) : (qone c).length ≤ 4 := by
  unfold qone
  repeat' split
  all_goals simp
theorem qbody_length (l : List Int) : (qbody l).length ≤ 4 * l.length := by
  induction l with
  | nil => simp [qbody]
  | cons c l ih =>
    have e : qbody (c :: l) = qone c ++ qbody l := by simp [qbody]
    have := qone_length c
    rw [e, List.length_append, List.length_cons]
    omega
theorem qone_bytes (c : Int) (h0 : 0 ≤ c) (h1 : c ≤ 255) : ∀ x ∈ qone c, 0 ≤ x ∧ x ≤ 255 := by
  have hl : 0 ≤ letterS c ∧ letterS c ≤ 255 := by unfold letterS; repeat' split
                                                  all_goals omega
  have hd : ∀ x : Int, 0 ≤ x → x < 16 → 0 ≤ hexD x ∧ hexD x ≤ 255 := by intro x a b; unfold hexD; split <;> omega
  have d1 := hd (c / 16) (by omega) (by omega)
  have d2 := hd (c % 16) (by omega) (by omega)
  unfold qone
  repeat' split
  all_goals
    intro x hx
    simp at hx
    omega
theorem quoteL_bytes (l : List Int) (h : ∀ x ∈ l, 0 ≤ x ∧ x ≤ 255) : ∀ x ∈ quoteL l, 0 ≤ x ∧ x ≤ 255 := by
  intro x hx
  simp only [quoteL, List.mem_cons, List.mem_append, List.not_mem_nil, or_false, qbody, List.mem_flatMap] at hx
  rcases hx with rfl | ⟨c, hc, hx⟩ | rfl
  · omega
  · exact qone_bytes c (h c hc).1 (h c hc).2 x hx
  · omega

end Go.Proofs.YtkbjblhompkdkaaDoor.Pure

namespace Go.Proofs.YtkbjblhompkdkaaDoor.Pure
open Go.Proofs.YtkbjblhompkdkaaDoor

structure Tok where
  kind : Int
  at_ : Nat
  end_ : Nat
  n : Int
  text : List Int

def blank (c : Int) : Bool := decide (c = 32 ∨ c = 9 ∨ c = 10 ∨ c = 13)
def inName (c : Int) : Bool := decide (isLet c ∨ isDig c)
def digB (c : Int) : Bool := decide (isDig c)
/-- How many bytes at a text's beginning are so. -/
def lead (p : Int → Bool) : List Int → Nat
  | [] => 0
  | c :: r => if p c = true then lead p r + 1 else 0
def signsL : List (List Int) := [[46, 46], [61, 61], [33, 61], [60, 61], [62, 61], [38, 38], [124, 124], [91], [93], [123], [125], [60], [62], [40], [41], [44], [58], [46], [42], [63], [33], [36], [64]]
def signAt (l : List Int) : Option (List Int) := signsL.find? fun x => x.isPrefixOf l
/-- The token at place p; l: the bytes from there on, of which the first is no blank. -/
def tokAt (p : Nat) : List Int → Tok ⊕ (Nat × Int)
  | [] => .inl ⟨0, p, p, 0, []⟩
  | c :: r =>
    if c = 34 then
      if (unquoteL (c :: r)).2.2 = 0 then .inl ⟨4, p, p + (unquoteL (c :: r)).2.1, 0, (unquoteL (c :: r)).1⟩
      else .inr (p + (unquoteL (c :: r)).2.1, (unquoteL (c :: r)).2.2)
    else if isLet c then .inl ⟨2, p, p + 1 + lead inName r, 0, c :: r.take (lead inName r)⟩
    else if c = 45 ∨ isDig c then
      if (parseS (c :: r.take (lead digB r))).2 = 0 then .inl ⟨3, p, p + 1 + lead digB r, (parseS (c :: r.take (lead digB r))).1, []⟩
      else .inr (p, (parseS (c :: r.take (lead digB r))).2)
    else match signAt (c :: r) with
      | some x => .inl ⟨1, p, p + x.length, 0, x⟩
      | none => .inr (p, 2)
/-- The token from place a on. -/
def nextS (l : List Int) (a : Nat) : Tok ⊕ (Nat × Int) := tokAt (a + lead blank (l.drop a)) (l.drop (a + lead blank (l.drop a)))
def allF : Nat → List Int → Nat → List Tok ⊕ (Nat × Int)
  | 0, _, _ => .inl []
  | f + 1, l, a => match nextS l a with
    | .inr e => .inr e
    | .inl t => if t.kind = 0 then .inl [] else match allF f l t.end_ with
      | .inl ts => .inl (t :: ts)
      | .inr e => .inr e
/-- All tokens from place a on. -/
def allS (l : List Int) (a : Nat) : List Tok ⊕ (Nat × Int) := allF (l.length + 1 - a) l a

theorem lead_le (p : Int → Bool) (l : List Int) : lead p l ≤ l.length := by
  induction l with
  | nil => simp [lead]
  | cons c r ih => simp only [lead]; split <;> (simp; try omega)
theorem lead_all (p : Int → Bool) (l : List Int) : ∀ x ∈ l.take (lead p l), p x = true := by
  induction l with
  | nil => simp [lead]
  | cons c r ih =>
    simp only [lead]
    split
    · rename_i h
      simp only [List.take_succ_cons, List.mem_cons, forall_eq_or_imp]
      exact ⟨h, ih⟩
    · simp
theorem lead_stop (p : Int → Bool) (l : List Int) : ∀ c r, l.drop (lead p l) = c :: r → p c = false := by
  induction l with
  | nil => simp [lead]
  | cons d s ih =>
    intro c r h
    simp only [lead] at h
    split at h
    · exact ih c r (by simpa using h)
    · rename_i hd
      simp at h
      rw [← h.1]
      simpa using hd
/-- What is so all along, and then something that is not. -/
theorem lead_app (p : Int → Bool) (l r : List Int) (hl : ∀ x ∈ l, p x = true) (hr : ∀ c s, r = c :: s → p c = false) : lead p (l ++ r) = l.length := by
  induction l with
  | nil =>
    cases r with
    | nil => simp [lead]
    | cons c s => simp [lead, hr c s rfl]
  | cons c l ih =>
    simp only [List.cons_append, lead]
    rw [if_pos (hl c (by simp)), ih (fun x hx => hl x (by simp [hx]))]
    simp

theorem signAt_len {l x : List Int} (h : signAt l = some x) : x.isPrefixOf l = true ∧ x ∈ signsL := ⟨List.find?_some (p := fun x : List Int => x.isPrefixOf l) h, List.mem_of_find?_eq_some (p := fun x : List Int => x.isPrefixOf l) h⟩
theorem signs_pos : ∀ x ∈ signsL, 0 < x.length ∧ x.length ≤ 2 := by decide

/-- What is unquoted is two bytes shorter at least than what it was read of. -/
theorem unqL_len (n : Nat) : ∀ (m : Nat) (l : List Int), l.length ≤ m → ∀ (p : Nat) (acc : List Int), p + l.length = n → (unqL n l p acc).2.1 ≤ n ∧ ((unqL n l p acc).2.2 = 0 → (unqL n l p acc).1.length + p + 1 ≤ (unqL n l p acc).2.1 + acc.length) := by
  intro m
  induction m with
  | zero =>
    intro l hl p acc hp
    have : l = [] := List.eq_nil_of_length_eq_zero (by omega)
    subst this
    rw [unqL_nil]
    simp
  | succ m ih =>
    intro l hl p acc hp
    match l with
    | [] => rw [unqL_nil]; simp
    | c :: r =>
      simp only [List.length_cons] at hl hp
      by_cases h34 : c = 34
      · subst h34
        rw [unqL_mark]
        simp only [true_implies]
        omega
      by_cases h32 : c < 32
      · rw [unqL_low _ _ _ _ h32]
        simp only [show ¬ ((2 : Int) = 0) by omega, false_implies, and_true]
        omega
      by_cases h92 : c = 92
      · subst h92
        match r with
        | [] => rw [unqL_end]; simp
        | d :: r2 =>
          simp only [List.length_cons] at hl hp
          by_cases hx : d = 120
          · subst hx
            rw [unqL_hex]
            match r2 with
            | [] => simp [pairL]
            | [a] =>
              simp only [pairL, List.length_singleton] at hp ⊢
              cases hexV true a with
              | none => simp; omega
              | some x => simp
            | a :: b :: r3 =>
              simp only [pairL, List.length_cons] at hl hp ⊢
              cases hexV true a with
              | none => simp; omega
              | some x =>
                cases hexV true b with
                | none => simp; omega
                | some y =>
                  simp only [List.drop_succ_cons, List.drop_zero]
                  have := ih r3 (by omega) (p + 4) (acc ++ [16 * x + y]) (by omega)
                  refine ⟨this.1, fun h0 => ?_⟩
                  have h2 := this.2 h0
                  simp at h2 ⊢
                  omega
          · rw [unqL_let _ _ _ _ hx]
            split
            · have := ih r2 (by omega) (p + 2) (acc ++ [(byLetterS d).1]) (by omega)
              refine ⟨this.1, fun h0 => ?_⟩
              have h2 := this.2 h0
              simp at h2 ⊢
              omega
            · simp only [show ¬ ((2 : Int) = 0) by omega, false_implies, and_true]
              omega
      · rw [unqL_plain _ _ _ _ h34 h32 h92]
        have := ih r (by omega) (p + 1) (acc ++ [c]) (by omega)
        refine ⟨this.1, fun h0 => ?_⟩
        have h2 := this.2 h0
        simp at h2 ⊢
        omega
theorem unquoteL_len (l : List Int) : (unquoteL l).2.1 ≤ l.length ∧ ((unquoteL l).2.2 = 0 → (unquoteL l).1.length + 2 ≤ (unquoteL l).2.1) := by
  unfold unquoteL
  match l with
  | [] => simp
  | c :: r =>
    simp only []
    split
    · have := unqL_len (r.length + 1) r.length r (Nat.le_refl _) 1 [] (by omega)
      refine ⟨by simpa using this.1, fun h => ?_⟩
      have := this.2 h
      simp at this
      omega
    · simp

/-- A token's place and end. -/
theorem tokAt_ok {p : Nat} {l : List Int} {t : Tok} (h : tokAt p l = .inl t) :
    t.at_ = p ∧ (l = [] → t = ⟨0, p, p, 0, []⟩) ∧ (l ≠ [] → t.kind ≠ 0 ∧ p < t.end_ ∧ t.end_ ≤ p + l.length) := by
  match l with
  | [] =>
    simp only [tokAt, Sum.inl.injEq] at h
    subst h
    simp
  | c :: r =>
    have hr1 := lead_le inName r
    have hr2 := lead_le digB r
    simp only [tokAt] at h
    refine (fun (hh : t.at_ = p ∧ (t.kind ≠ 0 ∧ p < t.end_ ∧ t.end_ ≤ p + (c :: r).length)) => ⟨hh.1, fun e => absurd e (by simp), fun _ => hh.2⟩) ?_
    simp only [List.length_cons]
    split at h
    · split at h
      · rename_i h0
        have hu := unquoteL_len (c :: r)
        have h2 := hu.2 h0
        simp only [List.length_cons] at hu
        simp only [Sum.inl.injEq] at h
        subst h
        simp
        omega
      · simp at h
    · split at h
      · simp only [Sum.inl.injEq] at h
        subst h
        simp
        omega
      · split at h
        · split at h
          · simp only [Sum.inl.injEq] at h
            subst h
            simp
            omega
          · simp at h
        · split at h
          · rename_i x hx
            obtain ⟨hp, hm⟩ := signAt_len hx
            have := signs_pos x hm
            have h3 := (List.isPrefixOf_iff_prefix.1 hp).length_le
            simp only [List.length_cons] at h3
            simp only [Sum.inl.injEq] at h
            subst h
            simp
            omega
          · simp at h
theorem tokAt_bad {p : Nat} {l : List Int} {e : Nat × Int} (h : tokAt p l = .inr e) : e.1 ≤ p + l.length ∧ e.2 ≠ 0 := by
  match l with
  | [] => simp [tokAt] at h
  | c :: r =>
    simp only [tokAt] at h
    split at h
    · split at h
      · simp at h
      · rename_i h0
        have hu := unquoteL_len (c :: r)
        simp only [Sum.inr.injEq] at h
        subst h
        exact ⟨by simp only []; omega, h0⟩
    · split at h
      · simp at h
      · split at h
        · split at h
          · simp at h
          · rename_i h0
            simp only [Sum.inr.injEq] at h
            subst h
            exact ⟨by simp only []; omega, h0⟩
        · split at h
          · simp at h
          · simp only [Sum.inr.injEq] at h
            subst h
            exact ⟨by simp only []; omega, by simp⟩

theorem skip_le (l : List Int) {a : Nat} (ha : a ≤ l.length) : a + lead blank (l.drop a) ≤ l.length := by
  have := lead_le blank (l.drop a)
  simp at this
  omega
theorem nextS_ok {l : List Int} {a : Nat} (ha : a ≤ l.length) {t : Tok} (h : nextS l a = .inl t) :
    t.at_ = a + lead blank (l.drop a) ∧ t.end_ ≤ l.length ∧ t.at_ ≤ l.length ∧ (t.kind = 0 → t.at_ = l.length ∧ t.end_ = l.length) ∧ (t.kind ≠ 0 → t.at_ < t.end_) := by
  have hs := skip_le l ha
  unfold nextS at h
  obtain ⟨h1, h2, h3⟩ := tokAt_ok h
  by_cases he : l.drop (a + lead blank (l.drop a)) = []
  · have e := h2 he
    have hl : l.length ≤ a + lead blank (l.drop a) := List.drop_eq_nil_iff.1 he
    rw [e]
    simp
    omega
  · obtain ⟨h4, h5, h6⟩ := h3 he
    simp at h6
    refine ⟨h1, by omega, by omega, fun h => absurd h h4, fun _ => by omega⟩
theorem nextS_bad {l : List Int} {a : Nat} (ha : a ≤ l.length) {e : Nat × Int} (h : nextS l a = .inr e) : e.1 ≤ l.length ∧ e.2 ≠ 0 := by
  have hs := skip_le l ha
  have := tokAt_bad h
  simp at this
  exact ⟨by omega, this.2⟩

theorem allF_more (l : List Int) : ∀ (d a f : Nat), a ≤ l.length → l.length - a ≤ d → d < f → allF f l a = allF (d + 1) l a := by
  intro d
  induction d with
  | zero =>
    intro a f ha hd hf
    obtain ⟨f, rfl⟩ : ∃ g, f = g + 1 := ⟨f - 1, by omega⟩
    simp only [allF]
    cases hn : nextS l a with
    | inr e => rfl
    | inl t =>
      have hk := nextS_ok ha hn
      have h0 : t.kind = 0 := by
        by_cases h0 : t.kind = 0
        · exact h0
        · have := hk.2.2.2.2 h0; omega
      simp only [h0, if_true]
  | succ d ih =>
    intro a f ha hd hf
    obtain ⟨f, rfl⟩ : ∃ g, f = g + 1 := ⟨f - 1, by omega⟩
    rw [allF, allF.eq_2 l a (d + 1)]
    cases hn : nextS l a with
    | inr e => rfl
    | inl t =>
      have hk := nextS_ok ha hn
      simp only []
      split
      · rfl
      · rename_i h0
        have := hk.2.2.2.2 h0
        rw [ih t.end_ f hk.2.1 (by omega) (by omega)]
theorem allS_step (l : List Int) {a : Nat} (ha : a ≤ l.length) : allS l a = match nextS l a with
    | .inr e => .inr e
    | .inl t => if t.kind = 0 then .inl [] else match allS l t.end_ with
      | .inl ts => .inl (t :: ts)
      | .inr e => .inr e := by
  unfold allS
  rw [show l.length + 1 - a = (l.length - a) + 1 by omega, allF]
  cases hn : nextS l a with
  | inr e => rfl
  | inl t =>
    have hk := nextS_ok ha hn
    simp only []
    split
    · rfl
    · rename_i h0
      have := hk.2.2.2.2 h0
      rw [allF_more l (l.length - t.end_) t.end_ (l.length - a) hk.2.1 (Nat.le_refl _) (by omega), show l.length + 1 - t.end_ = l.length - t.end_ + 1 by omega]
theorem allS_bad (l : List Int) (d : Nat) : ∀ a, a ≤ l.length → l.length - a ≤ d → ∀ e, allS l a = .inr e → e.1 ≤ l.length ∧ e.2 ≠ 0 := by
  induction d with
  | zero =>
    intro a ha hd e h
    rw [allS_step l ha] at h
    cases hn : nextS l a with
    | inr e' =>
      rw [hn] at h
      simp only [Sum.inr.injEq] at h
      subst h
      exact nextS_bad ha hn
    | inl t =>
      have hk := nextS_ok ha hn
      rw [hn] at h
      have h0 : t.kind = 0 := by
        by_cases h0 : t.kind = 0
        · exact h0
        · have := hk.2.2.2.2 h0; omega
      simp [h0] at h
  | succ d ih =>
    intro a ha hd e h
    rw [allS_step l ha] at h
    cases hn : nextS l a with
    | inr e' =>
      rw [hn] at h
      simp only [Sum.inr.injEq] at h
      subst h
      exact nextS_bad ha hn
    | inl t =>
      have hk := nextS_ok ha hn
      rw [hn] at h
      simp only [] at h
      split at h
      · simp at h
      · rename_i h0
        have := hk.2.2.2.2 h0
        cases hm : allS l t.end_ with
        | inl ts => rw [hm] at h; simp at h
        | inr e' =>
          rw [hm] at h
          simp only [Sum.inr.injEq] at h
          subst h
          exact ih t.end_ hk.2.1 (by omega) e' hm

/-- Tokens follow one another from place a on, with nothing but blanks between, up to the end. -/
def Follow (l : List Int) : Nat → List Tok → Prop
  | a, [] => a ≤ l.length ∧ ∀ k, a ≤ k → k < l.length → blank (l.getD k 0) = true
  | a, t :: ts => a ≤ t.at_ ∧ t.at_ < t.end_ ∧ t.end_ ≤ l.length ∧ (∀ k, a ≤ k → k < t.at_ → blank (l.getD k 0) = true) ∧ Follow l t.end_ ts
theorem blanks_at (l : List Int) (a : Nat) (k : Nat) (h1 : a ≤ k) (h2 : k < a + lead blank (l.drop a)) : blank (l.getD k 0) = true := by
  have h := lead_all blank (l.drop a)
  have hl := lead_le blank (l.drop a)
  simp at hl
  refine h _ ?_
  rw [List.mem_take_iff_getElem]
  refine ⟨k - a, by simp; omega, ?_⟩
  simp only [List.getElem_drop]
  have hk : k < l.length := by omega
  simp [List.getD_eq_getElem?_getD, hk, show a + (k - a) = k by omega]
theorem allS_follow (l : List Int) (ts : List Tok) : ∀ a, a ≤ l.length → allS l a = .inl ts → Follow l a ts := by
  induction ts with
  | nil =>
    intro a ha h
    rw [allS_step l ha] at h
    cases hn : nextS l a with
    | inr e => rw [hn] at h; simp at h
    | inl t =>
      have hk := nextS_ok ha hn
      rw [hn] at h
      simp only [] at h
      split at h
      · rename_i h0
        have h2 := hk.2.2.2.1 h0
        exact ⟨ha, fun k h3 h4 => blanks_at l a k h3 (by omega)⟩
      · split at h <;> simp at h
  | cons u ts ih =>
    intro a ha h
    rw [allS_step l ha] at h
    cases hn : nextS l a with
    | inr e => rw [hn] at h; simp at h
    | inl t =>
      have hk := nextS_ok ha hn
      rw [hn] at h
      simp only [] at h
      split at h
      · simp at h
      · rename_i h0
        have h2 := hk.2.2.2.2 h0
        cases hm : allS l t.end_ with
        | inr e => rw [hm] at h; simp at h
        | inl vs =>
          rw [hm] at h
          simp only [Sum.inl.injEq, List.cons.injEq] at h
          obtain ⟨rfl, rfl⟩ := h
          exact ⟨by omega, h2, hk.2.1, fun k h3 h4 => blanks_at l a k h3 (by omega), ih _ hk.2.1 hm⟩
end Go.Proofs.YtkbjblhompkdkaaDoor.Pure
