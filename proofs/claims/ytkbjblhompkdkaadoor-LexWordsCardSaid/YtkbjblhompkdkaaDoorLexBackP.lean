/- What is printed of tokens has those tokens again: plain laws on lists of bytes. -/
import Derived.Test.YtkbjblhompkdkaaDoorLexPure
import Derived.Test.YtkbjblhompkdkaaDoorLexCode
namespace Go.Proofs.YtkbjblhompkdkaaDoor.Pure
open Go.Proofs.YtkbjblhompkdkaaDoor

/-- A token as a text. -/
def reprT (t : Tok) : List Int := if t.kind = 1 ∨ t.kind = 2 then t.text else if t.kind = 3 then digL t.n else if t.kind = 4 then quoteL t.text else []
def tailP (ts : List Tok) : List Int := ts.flatMap fun t => 32 :: reprT t
def printS : List Tok → List Int
  | [] => []
  | t :: ts => reprT t ++ tailP ts
def core (t : Tok) : Int × Int × List Int := (t.kind, t.n, t.text)
/-- Nothing, or a blank. -/
def Stops (r : List Int) : Prop := ∀ c s, r = c :: s → c = 32
theorem tailP_stops (ts : List Tok) : Stops (tailP ts) := by
  intro c s h
  cases ts with
  | nil => simp [tailP] at h
  | cons t ts => simp [tailP] at h; exact h.1.symm
theorem tailP_cons (t : Tok) (ts : List Tok) : tailP (t :: ts) = [32] ++ (reprT t ++ tailP ts) := by simp [tailP]

def InB (l : List Int) : Prop := ∀ x ∈ l, 0 ≤ x ∧ x ≤ 255
theorem signs_again : ∀ x ∈ signsL, signAt x = some x ∧ ∀ c, x.head? = some c → ¬ c = 34 ∧ ¬ isLet c ∧ ¬ (c = 45 ∨ isDig c) ∧ blank c = false := by
  have h : (signsL.all fun x => decide (signAt x = some x) && (match x with | [] => true | c :: _ => decide (¬ c = 34 ∧ ¬ isLet c ∧ ¬ (c = 45 ∨ isDig c) ∧ blank c = false))) = true := by decide +kernel
  intro x hx
  have h1 := List.all_eq_true.1 h x hx
  simp only [Bool.and_eq_true, decide_eq_true_eq] at h1
  refine ⟨h1.1, fun c hc => ?_⟩
  cases x with
  | nil => simp at hc
  | cons d r =>
    obtain rfl : d = c := by simpa using hc
    exact of_decide_eq_true h1.2
/-- A sign with a blank behind it is no longer sign. -/
theorem signAt_blank (l r : List Int) (hl : ∀ x ∈ l, x ≠ 32) : signAt (l ++ 32 :: r) = signAt l := by
  unfold signAt
  have h32 : ∀ x ∈ signsL, ∀ y ∈ x, y ≠ 32 := by decide
  have key : ∀ x ∈ signsL, x.isPrefixOf (l ++ 32 :: r) = x.isPrefixOf l := by
    intro x hx
    have hx2 := h32 x hx
    clear hx
    revert hl
    induction x generalizing l with
    | nil => intro hl; simp
    | cons a x ih =>
      intro hl
      cases l with
      | nil => 
        have := hx2 a (by simp)
        simp [List.isPrefixOf, this]
      | cons b l =>
        simp only [List.cons_append, List.isPrefixOf]
        rw [ih l (fun y hy => hx2 y (by simp [hy])) (fun y hy => hl y (by simp [hy]))]
  have : ∀ L : List (List Int), (∀ x ∈ L, x ∈ signsL) → L.find? (fun x => x.isPrefixOf (l ++ 32 :: r)) = L.find? (fun x => x.isPrefixOf l) := by
    intro L
    induction L with
    | nil => intro _; rfl
    | cons x L ih =>
      intro h
      simp only [List.find?_cons]
      rw [key x (h x (by simp)), ih (fun y hy => h y (by simp [hy]))]
  exact this signsL (fun x hx => hx)
theorem signAt_stops (x r : List Int) (hx : x ∈ signsL) (hr : Stops r) : signAt (x ++ r) = some x := by
  have h32 : ∀ x ∈ signsL, ∀ y ∈ x, y ≠ 32 := by decide
  cases r with
  | nil => rw [List.append_nil]; exact (signs_again x hx).1
  | cons c s =>
    obtain rfl := hr c s rfl
    rw [signAt_blank x s (h32 x hx)]
    exact (signs_again x hx).1

theorem take_lead (p : Int → Bool) (l r : List Int) (hl : ∀ x ∈ l, p x = true) (hr : ∀ c s, r = c :: s → p c = false) : (l ++ r).take (lead p (l ++ r)) = l := by
  rw [lead_app p l r hl hr]
  simp
theorem digL_head (n : Int) : ∃ c r, digL n = c :: r ∧ (c = 45 ∨ isDig c) ∧ ∀ x ∈ r, digB x = true := by
  have hd : ∀ u : Nat, ∃ c r, decL u = c :: r ∧ isDig c ∧ ∀ x ∈ r, digB x = true := by
    intro u
    cases h : decL u with
    | nil => exact absurd h (decL_ne u)
    | cons c r =>
      have hr := decL_range u
      rw [h] at hr
      refine ⟨c, r, rfl, hr c (by simp), fun x hx => ?_⟩
      have := hr x (by simp [hx])
      simp [digB, isDig, this]
  unfold digL
  split
  · refine ⟨45, _, rfl, .inl rfl, fun x hx => ?_⟩
    have := decL_range n.natAbs x hx
    simp [digB, isDig, this]
  · obtain ⟨c, r, h1, h2, h3⟩ := hd n.natAbs
    exact ⟨c, r, h1, .inr h2, h3⟩

/-- A token's text has the token again, whatever stands behind a blank. -/
theorem tok_again {p : Nat} {l : List Int} {t : Tok} (hb : InB l) (h : tokAt p l = .inl t) (h0 : t.kind ≠ 0) :
    (∃ c r, reprT t = c :: r ∧ blank c = false) ∧ (reprT t).length ≤ 4 * (t.end_ - t.at_) ∧ InB (reprT t) ∧
    ∀ (q : Nat) (r : List Int), Stops r → tokAt q (reprT t ++ r) = .inl ⟨t.kind, q, q + (reprT t).length, t.n, t.text⟩ := by
  match l with
  | [] => simp only [tokAt, Sum.inl.injEq] at h; subst h; simp at h0
  | c :: r =>
    have hr1 := lead_le inName r
    have hr2 := lead_le digB r
    have hub := unquoteL_bytes (c :: r) hb
    have hul := unquoteL_len (c :: r)
    simp only [tokAt] at h
    split at h
    · split at h
      · rename_i h1 h2
        simp only [Sum.inl.injEq] at h
        subst h
        have hl2 := hul.2 h2
        generalize (unquoteL (c :: r)).1 = x at *
        have e : reprT ⟨4, p, p + (unquoteL (c :: r)).2.1, 0, x⟩ = quoteL x := by simp [reprT]
        rw [e]
        have hq := qbody_length x
        refine ⟨⟨34, _, rfl, by decide⟩, by simp [quoteL]; omega, quoteL_bytes x hub.1, fun q r' hr' => ?_⟩
        have hx := unquote_quote x r' hub.1
        have e2 : quoteL x ++ r' = 34 :: (qbody x ++ [34] ++ r') := by simp [quoteL]
        rw [e2] at hx ⊢
        simp only [tokAt]
        rw [if_pos trivial, if_pos (by rw [hx]), hx]
      · simp at h
    · rename_i h34
      split at h
      · rename_i hlet
        simp only [Sum.inl.injEq] at h
        subst h
        have e : ∀ a b, reprT ⟨2, a, b, 0, c :: r.take (lead inName r)⟩ = c :: r.take (lead inName r) := by intro a b; simp [reprT]
        rw [e]
        have hbl : blank c = false := by
          unfold isLet at hlet
          simp [blank]
          omega
        refine ⟨⟨c, _, rfl, hbl⟩, by simp; omega, fun x hx => ?_, fun q r' hr' => ?_⟩
        · rcases List.mem_cons.1 hx with rfl | hx
          · exact hb _ (by simp)
          · exact hb x (by simp [List.mem_of_mem_take hx])
        · simp only [List.cons_append, tokAt]
          rw [if_neg h34, if_pos hlet]
          have hs : ∀ d s, r' = d :: s → inName d = false := by
            intro d s e
            have := hr' d s e
            subst this
            decide
          have hle := lead_app inName (r.take (lead inName r)) r' (lead_all inName r) hs
          have htk := take_lead inName (r.take (lead inName r)) r' (lead_all inName r) hs
          rw [htk, hle]
          simp only [List.length_cons]
          rw [show q + 1 + (r.take (lead inName r)).length = q + ((r.take (lead inName r)).length + 1) by omega]
      · rename_i hlet
        split at h
        · rename_i hdig
          split at h
          · rename_i h2
            simp only [Sum.inl.injEq] at h
            subst h
            have hback := digL_parseS _ h2
            have hrange := parseS_range (c :: r.take (lead digB r))
            have hround := parseS_digL _ hrange.1 hrange.2
            have e : ∀ a b n, reprT ⟨3, a, b, n, []⟩ = digL n := by intro a b n; simp [reprT]
            rw [e, hback]
            have hbl : blank c = false := by
              unfold isDig at hdig
              simp [blank]
              omega
            refine ⟨⟨c, _, rfl, hbl⟩, by simp; omega, fun x hx => ?_, fun q r' hr' => ?_⟩
            · rcases List.mem_cons.1 hx with rfl | hx
              · exact hb _ (by simp)
              · exact hb x (by simp [List.mem_of_mem_take hx])
            · simp only [List.cons_append, tokAt]
              rw [if_neg h34, if_neg hlet, if_pos hdig]
              have hs : ∀ d s, r' = d :: s → digB d = false := by
                intro d s e
                have := hr' d s e
                subst this
                decide
              have hle := lead_app digB (r.take (lead digB r)) r' (lead_all digB r) hs
              have htk := take_lead digB (r.take (lead digB r)) r' (lead_all digB r) hs
              rw [htk, hle, if_pos h2]
              simp only [List.length_cons]
              rw [show q + 1 + (r.take (lead digB r)).length = q + ((r.take (lead digB r)).length + 1) by omega]
          · simp at h
        · split at h
          · rename_i x hx
            obtain ⟨hp, hm⟩ := signAt_len hx
            have hpos := signs_pos x hm
            have hag := signs_again x hm
            simp only [Sum.inl.injEq] at h
            subst h
            have e : ∀ a b, reprT ⟨1, a, b, 0, x⟩ = x := by intro a b; simp [reprT]
            rw [e]
            cases x with
            | nil => simp at hpos
            | cons d y =>
              obtain ⟨g1, g2, g3, g4⟩ := hag.2 d rfl
              refine ⟨⟨d, y, rfl, g4⟩, by simp; omega, fun z hz => ?_, fun q r' hr' => ?_⟩
              · have hsub := (List.isPrefixOf_iff_prefix.1 hp).subset
                exact hb z (hsub hz)
              · have hs := signAt_stops (d :: y) r' hm hr'
                simp only [List.cons_append, tokAt] at hs ⊢
                rw [if_neg g1, if_neg g2, if_neg g3, hs]
          · simp at h

/-- Tokens of a text. -/
inductive Good (l : List Int) : Tok → Prop
  | mk (p q : Nat) (t : Tok) (h : tokAt p (l.drop q) = .inl t) (h0 : t.kind ≠ 0) : Good l t
theorem InB.drop {l : List Int} (h : InB l) (q : Nat) : InB (l.drop q) := fun x hx => h x (List.mem_of_mem_drop hx)
theorem allS_good (l : List Int) (ts : List Tok) : ∀ a, a ≤ l.length → allS l a = .inl ts → ∀ t ∈ ts, Good l t := by
  induction ts with
  | nil => intro a ha h t ht; simp at ht
  | cons u ts ih =>
    intro a ha h
    rw [allS_step l ha] at h
    cases hn : nextS l a with
    | inr e => rw [hn] at h; simp at h
    | inl t =>
      have hk := nextS_ok ha hn
      rw [hn] at h
      simp only [] at h
      split at h
      · simp at h
      · rename_i h0
        cases hm : allS l t.end_ with
        | inr e => rw [hm] at h; simp at h
        | inl vs =>
          rw [hm] at h
          simp only [Sum.inl.injEq, List.cons.injEq] at h
          obtain ⟨rfl, rfl⟩ := h
          intro v hv
          rcases List.mem_cons.1 hv with rfl | hv
          · exact Good.mk _ _ _ hn h0
          · exact ih _ hk.2.1 hm v hv

theorem lead_blanks (b : List Int) (hb : ∀ x ∈ b, blank x = true) {c : Int} {r : List Int} (hc : blank c = false) : lead blank (b ++ c :: r) = b.length := by
  refine lead_app blank b (c :: r) hb ?_
  intro d s e
  simp at e
  rw [← e.1]
  exact hc
/-- One token of what is printed, behind blanks. -/
theorem next_again {l : List Int} (hl : InB l) {t : Tok} (hg : Good l t) (pre b r : List Int) (hb : ∀ x ∈ b, blank x = true) (hr : Stops r) :
    nextS (pre ++ (b ++ (reprT t ++ r))) pre.length = .inl ⟨t.kind, pre.length + b.length, pre.length + b.length + (reprT t).length, t.n, t.text⟩ := by
  obtain ⟨p, q, t, h, h0⟩ := hg
  obtain ⟨⟨c, s, e, hc⟩, h2, h3, h4⟩ := tok_again (hl.drop q) h h0
  unfold nextS
  have e1 : (pre ++ (b ++ (reprT t ++ r))).drop pre.length = b ++ (reprT t ++ r) := by simp
  have e2 : lead blank (b ++ (reprT t ++ r)) = b.length := by rw [e]; exact lead_blanks b hb hc
  rw [e1, e2]
  have e3 : (pre ++ (b ++ (reprT t ++ r))).drop (pre.length + b.length) = reprT t ++ r := by
    rw [← List.drop_drop, e1]
    simp
  rw [e3, h4 _ r hr]
theorem tail_again {l : List Int} (hl : InB l) (ts : List Tok) : ∀ pre : List Int, (∀ t ∈ ts, Good l t) →
    ∃ us, allS (pre ++ tailP ts) pre.length = .inl us ∧ us.map core = ts.map core := by
  induction ts with
  | nil =>
    intro pre _
    refine ⟨[], ?_, rfl⟩
    rw [allS_step _ (by simp)]
    have : nextS (pre ++ tailP []) pre.length = .inl ⟨0, pre.length, pre.length, 0, []⟩ := by
      unfold nextS
      simp [tailP, lead, tokAt]
    rw [this]
    simp
  | cons t ts ih =>
    intro pre hg
    have hn := next_again hl (hg t (by simp)) pre [32] (tailP ts) (by decide) (tailP_stops ts)
    rw [← tailP_cons] at hn
    rw [allS_step _ (by simp), hn]
    simp only []
    obtain ⟨p, q, t, h, h0⟩ := hg t (by simp)
    rw [if_neg h0]
    obtain ⟨us, hu, hm⟩ := ih (pre ++ ([32] ++ reprT t)) (fun u hu => hg u (by simp [hu]))
    have e : pre ++ tailP (t :: ts) = pre ++ ([32] ++ reprT t) ++ tailP ts := by rw [tailP_cons]; simp
    have e2 : (pre ++ ([32] ++ reprT t)).length = pre.length + [(32 : Int)].length + (reprT t).length := by simp; omega
    rw [e, ← e2, hu]
    exact ⟨_, rfl, by simp [core, hm]⟩
/-- The tokens of what is printed. -/
theorem print_again {l : List Int} (hl : InB l) (ts : List Tok) (hg : ∀ t ∈ ts, Good l t) : ∃ us, allS (printS ts) 0 = .inl us ∧ us.map core = ts.map core := by
  cases ts with
  | nil => exact tail_again hl [] [] (by simp)
  | cons t ts =>
    have hn := next_again hl (hg t (by simp)) [] [] (tailP ts) (by simp) (tailP_stops ts)
    simp only [List.nil_append, List.length_nil, Nat.zero_add] at hn
    rw [show printS (t :: ts) = reprT t ++ tailP ts from rfl, allS_step _ (by simp), hn]
    simp only []
    obtain ⟨p, q, t, h, h0⟩ := hg t (by simp)
    rw [if_neg h0]
    obtain ⟨us, hu, hm⟩ := tail_again hl ts (reprT t) (fun u hu => hg u (by simp [hu]))
    rw [hu]
    exact ⟨_, rfl, by simp [core, hm]⟩
theorem print_bytes {l : List Int} (hl : InB l) (ts : List Tok) (hg : ∀ t ∈ ts, Good l t) : InB (printS ts) := by
  have ht : ∀ t ∈ ts, InB (reprT t) := by
    intro t h
    obtain ⟨p, q, t, h1, h0⟩ := hg t h
    exact (tok_again (hl.drop q) h1 h0).2.2.1
  have htl : ∀ us : List Tok, (∀ t ∈ us, InB (reprT t)) → InB (tailP us) := by
    intro us hu x hx
    simp only [tailP, List.mem_flatMap] at hx
    obtain ⟨t, h1, h2⟩ := hx
    rcases List.mem_cons.1 h2 with rfl | h2
    · omega
    · exact hu t h1 x h2
  cases ts with
  | nil => intro x hx; simp [printS] at hx
  | cons t ts =>
    intro x hx
    rcases List.mem_append.1 hx with hx | hx
    · exact ht t (by simp) x hx
    · exact htl ts (fun u hu => ht u (by simp [hu])) x hx
theorem tail_len {l : List Int} (hl : InB l) (ts : List Tok) : ∀ a, a ≤ l.length → Follow l a ts → (∀ t ∈ ts, Good l t) → (tailP ts).length ≤ 5 * (l.length - a) := by
  induction ts with
  | nil => intro a _ _ _; simp [tailP]
  | cons t ts ih =>
    intro a ha hf hg
    obtain ⟨p, q, t', h1, h0⟩ := hg t (by simp)
    have h2 := (tok_again (hl.drop q) h1 h0).2.1
    obtain ⟨f1, f2, f3, _, f5⟩ := hf
    have := ih t.end_ f3 f5 (fun u hu => hg u (by simp [hu]))
    rw [tailP_cons]
    simp only [List.length_append, List.length_singleton]
    omega
theorem print_len {l : List Int} (hl : InB l) (ts : List Tok) (hf : Follow l 0 ts) (hg : ∀ t ∈ ts, Good l t) : (printS ts).length ≤ 5 * l.length := by
  have h := tail_len hl ts 0 (Nat.zero_le _) hf hg
  cases ts with
  | nil => simp [printS]
  | cons t ts =>
    rw [tailP_cons] at h
    simp only [List.length_append, List.length_singleton] at h
    rw [show printS (t :: ts) = reprT t ++ tailP ts from rfl, List.length_append]
    omega
end Go.Proofs.YtkbjblhompkdkaaDoor.Pure
