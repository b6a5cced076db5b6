/- YtkbjblhompkdkaaDoorRouteAgainQ11: RouteRound, RoutePrint, RouteBackW, RouteAgainW -/
import Derived.Test.YtkbjblhompkdkaaDoorRouteAgainQ7
import Derived.Test.YtkbjblhompkdkaaDoorRouteAgainQ8
import Derived.Test.YtkbjblhompkdkaaDoorRouteAgainQ6
import Derived.Test.YtkbjblhompkdkaaDoorRouteAgainQ9
import Derived.Test.YtkbjblhompkdkaaDoorRouteAgainQ10
namespace Go.Proofs.YtkbjblhompkdkaaDoor.Pure
set_option linter.unusedVariables false
set_option linter.unusedSimpArgs false
open Go.RowKit Go.Proofs.YtkbjblhompkdkaaDoor Go.Proofs.YtkbjblhompkdkaaDoor.PA Go.Proofs.YtkbjblhompkdkaaDoor.PB Go.Proofs.YtkbjblhompkdkaaDoorW.PrintWords Go.Proofs.YtkbjblhompkdkaaDoorW.PrintLast
def Stops2 (r : List Int) : Prop := ∀ c s, r = c :: s → c = 32 ∨ c = 41
theorem signAt_paren (s : List Int) : ∀ x ∈ signsL, signAt (x ++ 41 :: s) = some x := by
 simp only [signsL, List.forall_mem_cons]
 refine ⟨rfl, rfl, rfl, rfl, rfl, rfl, rfl, rfl, rfl, rfl, rfl, rfl, rfl, rfl, rfl, rfl, rfl, rfl, rfl, rfl, rfl, rfl, rfl, ?_⟩
 intro x hx
 simp at hx
theorem signAt_stops2 (x r : List Int) (hx : x ∈ signsL) (hr : Stops2 r) : signAt (x ++ r) = some x := by
 cases r with
 | nil => rw [List.append_nil]; exact (signs_again x hx).1
 | cons c s =>
  rcases hr c s rfl with rfl | rfl
  ·exact signAt_stops x (32 :: s) hx (fun c' s' e => by simp at e; exact e.1.symm)
  ·exact signAt_paren s x hx
theorem tok_again2 {p : Nat} {l : List Int} {t : Tok} (hb : InB l) (h : tokAt p l = .inl t) (h0 : t.kind ≠ 0) :
  (∃ c r, reprT t = c :: r ∧ blank c = false) ∧ (reprT t).length ≤ 4 * (t.end_ - t.at_) ∧ InB (reprT t) ∧
  ∀ (q : Nat) (r : List Int), Stops2 r → tokAt q (reprT t ++ r) = .inl ⟨t.kind, q, q + (reprT t).length, t.n, t.text⟩ := by
 match l with
 | [] => simp only [tokAt, Sum.inl.injEq] at h; subst h; simp at h0
 | c :: r =>
  have hr1 := lead_le inName r
  have hr2 := lead_le digB r
  have hub := unquoteL_bytes (c :: r) hb
  have hul := unquoteL_len (c :: r)
  simp only [tokAt] at h
  split at h
  ·split at h
   ·rename_i h1 h2
    simp only [Sum.inl.injEq] at h
    subst h
    have hl2 := hul.2 h2
    generalize (unquoteL (c :: r)).1 = x at *
    have e : reprT ⟨4, p, p + (unquoteL (c :: r)).2.1, 0, x⟩ = quoteL x := by simp [reprT]
    rw [e]
    have hq := qbody_length x
    refine ⟨⟨34, _, rfl, by decide⟩, by simp [quoteL]; omega, quoteL_bytes x hub.1, fun q r' hr' => ?_⟩
    have hx := unquote_quote x r' hub.1
    have e2 : quoteL x ++ r' = 34 :: (qbody x ++ [34] ++ r') := by simp [quoteL]
    rw [e2] at hx ⊢
    simp only [tokAt]
    rw [if_pos trivial, if_pos (by rw [hx]), hx]
   ·simp at h
  ·rename_i h34
   split at h
   ·rename_i hlet
    simp only [Sum.inl.injEq] at h
    subst h
    have e : ∀ a b, reprT ⟨2, a, b, 0, c :: r.take (lead inName r)⟩ = c :: r.take (lead inName r) := by intro a b; simp [reprT]
    rw [e]
    have hbl : blank c = false := by
     unfold isLet at hlet
     simp [blank]
     omega
    refine ⟨⟨c, _, rfl, hbl⟩, by simp; omega, fun x hx => ?_, fun q r' hr' => ?_⟩
    ·rcases List.mem_cons.1 hx with rfl | hx
     ·exact hb _ (by simp)
     ·exact hb x (by simp [List.mem_of_mem_take hx])
    ·simp only [List.cons_append, tokAt]
     rw [if_neg h34, if_pos hlet]
     have hs : ∀ d s, r' = d :: s → inName d = false := by
      intro d s e
      rcases hr' d s e with rfl | rfl <;> decide
     have hle := lead_app inName (r.take (lead inName r)) r' (lead_all inName r) hs
     have htk := take_lead inName (r.take (lead inName r)) r' (lead_all inName r) hs
     rw [htk, hle]
     simp only [List.length_cons]
     rw [show q + 1 + (r.take (lead inName r)).length = q + ((r.take (lead inName r)).length + 1) by omega]
   ·rename_i hlet
    split at h
    ·rename_i hdig
     split at h
     ·rename_i h2
      simp only [Sum.inl.injEq] at h
      subst h
      have hback := digL_parseS _ h2
      have hrange := parseS_range (c :: r.take (lead digB r))
      have hround := parseS_digL _ hrange.1 hrange.2
      have e : ∀ a b n, reprT ⟨3, a, b, n, []⟩ = digL n := by intro a b n; simp [reprT]
      rw [e, hback]
      have hbl : blank c = false := by
       unfold isDig at hdig
       simp [blank]
       omega
      refine ⟨⟨c, _, rfl, hbl⟩, by simp; omega, fun x hx => ?_, fun q r' hr' => ?_⟩
      ·rcases List.mem_cons.1 hx with rfl | hx
       ·exact hb _ (by simp)
       ·exact hb x (by simp [List.mem_of_mem_take hx])
      ·simp only [List.cons_append, tokAt]
       rw [if_neg h34, if_neg hlet, if_pos hdig]
       have hs : ∀ d s, r' = d :: s → digB d = false := by
        intro d s e
        rcases hr' d s e with rfl | rfl <;> decide
       have hle := lead_app digB (r.take (lead digB r)) r' (lead_all digB r) hs
       have htk := take_lead digB (r.take (lead digB r)) r' (lead_all digB r) hs
       rw [htk, hle, if_pos h2]
       simp only [List.length_cons]
       rw [show q + 1 + (r.take (lead digB r)).length = q + ((r.take (lead digB r)).length + 1) by omega]
     ·simp at h
    ·split at h
     ·rename_i x hx
      obtain ⟨hp, hm⟩ := signAt_len hx
      have hpos := signs_pos x hm
      have hag := signs_again x hm
      simp only [Sum.inl.injEq] at h
      subst h
      have e : ∀ a b, reprT ⟨1, a, b, 0, x⟩ = x := by intro a b; simp [reprT]
      rw [e]
      cases x with
      | nil => simp at hpos
      | cons d y =>
       obtain ⟨g1, g2, g3, g4⟩ := hag.2 d rfl
       refine ⟨⟨d, y, rfl, g4⟩, by simp; omega, fun z hz => ?_, fun q r' hr' => ?_⟩
       ·have hsub := (List.isPrefixOf_iff_prefix.1 hp).subset
        exact hb z (hsub hz)
       ·have hs := signAt_stops2 (d :: y) r' hm hr'
        simp only [List.cons_append, tokAt] at hs ⊢
        rw [if_neg g1, if_neg g2, if_neg g3, hs]
     ·simp at h
def endP (n but : Int) : List Int := if n = but then [] else digL n
def segP (x : Seg) : List Int :=
 if x.kind = 0 then (if nameS x.text = true then 46 :: x.text else 91 :: (quoteL x.text ++ [93]))
 else if x.kind = 1 then 91 :: (digL x.n ++ [93])
 else if x.kind = 2 then 91 :: (endP x.lo 0 ++ 58 :: (endP x.hi 9223372036854775807 ++ [93]))
 else if x.kind = 3 then [91, 42, 93]
 else if x.kind = 4 then [46, 46]
 else if x.kind = 5 then 91 :: 63 :: 40 :: (x.text ++ [41, 93])
 else []
def routeP (r : List Seg) : List Int := 36 :: r.flatMap segP
theorem drop_more {l u r : List Int} {a : Nat} (h : l.drop a = u ++ r) : l.drop (a + u.length) = r := by
 rw [← List.drop_drop, h]
 simp
theorem drop_le {l r : List Int} {a : Nat} {x : Int} (h : l.drop a = x :: r) : a < l.length := by
 have := congrArg List.length h
 simp at this
 omega
theorem isS_one (a b : Nat) (n : Int) (x : List Int) : isS ⟨1, a, b, n, x⟩ x = true := by simp [isS]
theorem nx_here {l r : List Int} {a : Nat} {t : Tok} (h : l.drop a = r) (hb : ∀ c s, r = c :: s → blank c = false) (ht : tokAt a r = .inl t) : nx l (.inl a) = (t, .inl t.end_) := by
 have h0 : lead blank r = 0 := by
  cases r with
  | nil => rfl
  | cons c s => simp [lead, hb c s rfl]
 have : nextS l a = .inl t := by
  unfold nextS
  rw [h, h0, Nat.add_zero, h, ht]
 simp only [nx, this]
theorem tok_one (p : Nat) (r : List Int) : ∀ x ∈ ([36, 91, 93, 42, 58, 63, 40, 41] : List Int), tokAt p (x :: r) = .inl ⟨1, p, p + 1, 0, [x]⟩ := by
 simp only [List.forall_mem_cons]
 refine ⟨rfl, rfl, rfl, rfl, rfl, rfl, rfl, rfl, ?_⟩
 intro x hx
 simp at hx
theorem tok_deep (p : Nat) (r : List Int) : tokAt p (46 :: 46 :: r) = .inl ⟨1, p, p + 2, 0, [46, 46]⟩ := rfl
theorem tok_dot (p : Nat) (c : Int) (r : List Int) (hc : c ≠ 46) : tokAt p (46 :: c :: r) = .inl ⟨1, p, p + 1, 0, [46]⟩ := by
 have hs : signAt (46 :: c :: r) = some [46] := by
  simp [signAt, signsL, List.find?, List.isPrefixOf, Ne.symm hc]
 simp only [tokAt]
 rw [if_neg (by decide), if_neg (by decide), if_neg (by decide), hs]
 rfl
theorem tok_num (p : Nat) (n : Int) (r : List Int) (h0 : -9223372036854775808 ≤ n) (h1 : n ≤ 9223372036854775807) (hr : ∀ c s, r = c :: s → digB c = false) :
  tokAt p (digL n ++ r) = .inl ⟨3, p, p + (digL n).length, n, []⟩ := by
 have hp := parseS_digL n h0 h1
 obtain ⟨c, t, e, hc, ht⟩ := digL_head n
 rw [e] at hp ⊢
 have hle := lead_app digB t r ht hr
 have htk := take_lead digB t r ht hr
 simp only [List.cons_append, tokAt]
 rw [if_neg (by unfold isDig at hc; omega), if_neg (by unfold isLet; unfold isDig at hc; omega), if_pos hc, htk, hle, hp]
 simp only [if_true, List.length_cons]
 rw [show p + 1 + t.length = p + (t.length + 1) by omega]
theorem tok_quote (p : Nat) (x r : List Int) (hb : InB x) : tokAt p (quoteL x ++ r) = .inl ⟨4, p, p + (quoteL x).length, 0, x⟩ := by
 have hx := unquote_quote x r hb
 have e2 : quoteL x ++ r = 34 :: (qbody x ++ [34] ++ r) := by simp [quoteL]
 rw [e2] at hx ⊢
 simp only [tokAt]
 rw [if_pos trivial, if_pos (by rw [hx]), hx]
theorem nameR_in : ∀ (l : List Int) , nameR false l = true → ∀ x ∈ l, inName x = true := by
 intro l
 induction l with
 | nil => intro _ x hx; simp at hx
 | cons c r ih =>
  intro h x hx
  simp only [nameR, Bool.and_eq_true, Bool.or_eq_true, decide_eq_true_eq, Bool.not_false, true_and] at h
  rcases List.mem_cons.1 hx with rfl | hx
  ·simp [inName, h.1]
  ·exact ih h.2 x hx
theorem name_cons {l : List Int} (h : nameS l = true) : ∃ c r, l = c :: r ∧ isLet c ∧ ∀ x ∈ r, inName x = true := by
 unfold nameS at h
 cases l with
 | nil => simp at h
 | cons c r =>
  simp only [List.isEmpty_cons, Bool.not_false, Bool.true_and, nameR, Bool.and_eq_true, Bool.or_eq_true, decide_eq_true_eq, Bool.not_true, Bool.false_and, or_false] at h
  exact ⟨c, r, rfl, by simpa using h.1, nameR_in r h.2⟩
theorem tok_name (p : Nat) (x r : List Int) (hx : nameS x = true) (hr : ∀ c s, r = c :: s → inName c = false) : tokAt p (x ++ r) = .inl ⟨2, p, p + x.length, 0, x⟩ := by
 obtain ⟨c, t, rfl, hl, ht⟩ := name_cons hx
 have hle := lead_app inName t r ht hr
 have htk := take_lead inName t r ht hr
 simp only [List.cons_append, tokAt]
 rw [if_neg (by unfold isLet at hl; omega), if_pos hl, htk, hle]
 simp only [List.length_cons]
 rw [show p + 1 + t.length = p + (t.length + 1) by omega]
theorem nx_one {l r : List Int} {a : Nat} {x : Int} (h : l.drop a = x :: r) (hx : x ∈ ([36, 91, 93, 42, 58, 63, 40, 41] : List Int)) : nx l (.inl a) = (⟨1, a, a + 1, 0, [x]⟩, .inl (a + 1)) := by
 refine nx_here h (fun c s e => ?_) (tok_one a r x hx)
 simp only [List.cons.injEq] at e
 rw [← e.1]
 simp only [List.mem_cons, List.not_mem_nil, or_false] at hx
 rcases hx with rfl | rfl | rfl | rfl | rfl | rfl | rfl | rfl <;> rfl
theorem must_one {l r : List Int} {a : Nat} {x : Int} (h : l.drop a = x :: r) (hx : x ∈ ([36, 91, 93, 42, 58, 63, 40, 41] : List Int)) : mustC l [x] (.inl a) = .inl (a + 1) := by
 unfold mustC
 rw [nx_one h hx]
 simp [isS]
theorem drop_one {l r : List Int} {a : Nat} {x : Int} (h : l.drop a = x :: r) : l.drop (a + 1) = r := drop_more (u := [x]) h
theorem digL_blank (n : Int) (r : List Int) : ∀ c s, digL n ++ r = c :: s → blank c = false := by
 intro c s e
 obtain ⟨d, t, e2, hc, -⟩ := digL_head n
 rw [e2] at e
 simp at e
 rw [← e.1]
 unfold isDig at hc
 simp [blank]
 omega
theorem nx_num {l r : List Int} {a : Nat} {n : Int} (h : l.drop a = digL n ++ r) (h0 : -9223372036854775808 ≤ n) (h1 : n ≤ 9223372036854775807) (hr : ∀ c s, r = c :: s → digB c = false) :
  nx l (.inl a) = (⟨3, a, a + (digL n).length, n, []⟩, .inl (a + (digL n).length)) := nx_here h (digL_blank n r) (tok_num a n r h0 h1 hr)
structure Fine (x : Seg) : Prop where
 bytes : InB x.text
 n0 : -9223372036854775808 ≤ x.n
 n1 : x.n ≤ 9223372036854775807
 lo0 : -9223372036854775808 ≤ x.lo
 lo1 : x.lo ≤ 9223372036854775807
 hi0 : -9223372036854775808 ≤ x.hi
 hi1 : x.hi ≤ 9223372036854775807
 kinds : (x.kind = 0 ∧ x.n = 0 ∧ x.lo = 0 ∧ x.hi = 0) ∨ (x.kind = 1 ∧ x.lo = 0 ∧ x.hi = 0 ∧ x.text = []) ∨ (x.kind = 2 ∧ x.n = 0 ∧ x.text = []) ∨ ((x.kind = 3 ∨ x.kind = 4) ∧ x.n = 0 ∧ x.lo = 0 ∧ x.hi = 0 ∧ x.text = []) ∨
  (x.kind = 5 ∧ x.n = 0 ∧ x.lo = 0 ∧ x.hi = 0 ∧ ∃ ts, allS x.text 0 = .inl ts ∧ ts ≠ [] ∧ printS ts = x.text ∧ depthC ts 0 = true)
def Begins (r : List Int) : Prop := ∀ c s, r = c :: s → c = 46 ∨ c = 91
theorem slice_end {l r : List Int} {a : Nat} {hi : Int} (lo : Int) (h : l.drop a = endP hi 9223372036854775807 ++ 93 :: r) (h0 : -9223372036854775808 ≤ hi) (h1 : hi ≤ 9223372036854775807) :
  sliceC l lo (.inl a) = (⟨2, 0, lo, hi, []⟩, .inl (a + (endP hi 9223372036854775807).length + 1)) := by
 unfold sliceC
 unfold endP at h ⊢
 by_cases hh : hi = 9223372036854775807
 ·rw [if_pos hh] at h ⊢
  rw [nx_one h (by simp)]
  rw [if_neg (show ¬ ((1 : Int) = 3) by decide)]
  simp [isS, hh]
 ·rw [if_neg hh] at h ⊢
  rw [nx_num h h0 h1 (by intro c s e; simp at e; rw [← e.1]; decide)]
  rw [if_pos rfl]
  have h2 := drop_more h
  simp only []
  rw [must_one h2 (by simp)]
theorem repr_core {t u : Tok} (h : core t = core u) : reprT t = reprT u := by
 simp only [core, Prod.mk.injEq] at h
 obtain ⟨h1, h2, h3⟩ := h
 simp only [reprT, h1, h2, h3]
theorem tailP_core : ∀ {ts us : List Tok}, ts.map core = us.map core → tailP ts = tailP us := by
 intro ts
 induction ts with
 | nil => intro us h; simp at h; rw [h]
 | cons t ts ih =>
  intro us h
  cases us with
  | nil => simp at h
  | cons u us =>
   simp only [List.map_cons, List.cons.injEq] at h
   rw [tailP_cons, tailP_cons, repr_core h.1, ih h.2]
theorem printS_core {ts us : List Tok} (h : ts.map core = us.map core) : printS ts = printS us := by
 cases ts with
 | nil => simp at h; rw [h]
 | cons t ts =>
  cases us with
  | nil => simp at h
  | cons u us =>
   simp only [List.map_cons, List.cons.injEq] at h
   simp only [printS, repr_core h.1, tailP_core h.2]
theorem isS_core {t u : Tok} (h : core t = core u) (x : List Int) : isS t x = isS u x := by
 simp only [core, Prod.mk.injEq] at h
 simp only [isS, h.1, h.2.2]
theorem depth_core : ∀ {ts us : List Tok} (n : Int), ts.map core = us.map core → depthC ts n = depthC us n := by
 intro ts
 induction ts with
 | nil => intro us n h; simp at h; rw [h]
 | cons t ts ih =>
  intro us n h
  cases us with
  | nil => simp at h
  | cons u us =>
   simp only [List.map_cons, List.cons.injEq] at h
   have ho : openC t n = openC u n := by simp only [openC, isS_core h.1]
   simp only [depthC, ho]
   rw [ih _ h.2]
theorem nx_tok {t0 : List Int} (hi : InB t0) {t : Tok} (hg : Good t0 t) {l r b : List Int} {a : Nat} (hb : ∀ x ∈ b, blank x = true) (hr : Stops2 r) (h : l.drop a = b ++ (reprT t ++ r)) :
  nx l (.inl a) = (⟨t.kind, a + b.length, a + b.length + (reprT t).length, t.n, t.text⟩, .inl (a + b.length + (reprT t).length)) := by
 obtain ⟨p, q, t, h1, h0⟩ := hg
 obtain ⟨⟨c, s, e, hc⟩, h2, h3, h4⟩ := tok_again2 (hi.drop q) h1 h0
 have e2 : lead blank (b ++ (reprT t ++ r)) = b.length := by rw [e]; exact lead_blanks b hb hc
 have e3 := drop_more h
 have : nextS l a = .inl ⟨t.kind, a + b.length, a + b.length + (reprT t).length, t.n, t.text⟩ := by
  unfold nextS
  rw [h, e2, e3, h4 _ r hr]
 simp only [nx, this]
theorem good_kind {t0 : List Int} {t : Tok} (hg : Good t0 t) : t.kind ≠ 0 := by
 obtain ⟨p, q, t, h1, h0⟩ := hg
 exact h0
theorem tail_stops2 (us : List Tok) (r : List Int) : Stops2 (tailP us ++ 41 :: r) := by
 intro c s e
 cases us with
 | nil => simp [tailP] at e; exact .inr e.1.symm
 | cons u us => rw [tailP_cons] at e; simp at e; exact .inl e.1.symm
theorem filt_tok {t0 : List Int} (hi : InB t0) {t : Tok} (hg : Good t0 t) {l r b : List Int} {us : List Tok} {a : Nat} {n : Int} (acc : List Tok) (ha : a ≤ l.length) (hb : ∀ x ∈ b, blank x = true) (hn : 1 ≤ n)
  (hd : depthC (t :: us) (n - 1) = true) (h : l.drop a = b ++ (reprT t ++ (tailP us ++ 41 :: r))) :
  ∃ n' t', filtC l (.inl a) n acc = filtC l (.inl (a + b.length + (reprT t).length)) n' (acc ++ [t']) ∧ core t' = core t ∧ 1 ≤ n' ∧ depthC us (n' - 1) = true ∧ a + b.length + (reprT t).length ≤ l.length ∧ l.drop (a + b.length + (reprT t).length) = tailP us ++ 41 :: r := by
 have hx := nx_tok hi hg hb (tail_stops2 us r) h
 have h2 : l.drop (a + b.length + (reprT t).length) = tailP us ++ 41 :: r := drop_more (drop_more h)
 have hle : a + b.length + (reprT t).length ≤ l.length := by
  have := congrArg List.length h
  simp at this
  omega
 have hk := good_kind hg
 rw [filtC_step ha, hx]
 generalize a + b.length + (reprT t).length = e at *
 have hc : core (⟨t.kind, a + b.length, e, t.n, t.text⟩ : Tok) = core t := rfl
 simp only [isS_core hc]
 rw [if_neg hk]
 simp only [depthC] at hd
 by_cases h40 : isS t [40] = true
 ·have ho : openC t (n - 1) = n := by simp [openC, h40]
  rw [ho, if_neg (by omega)] at hd
  rw [if_pos h40]
  exact ⟨_, _, rfl, hc, by omega, by rw [show n + 1 - 1 = n by omega]; exact hd, hle, h2⟩
 ·rw [if_neg h40]
  by_cases h41 : isS t [41] = true
  ·have ho : openC t (n - 1) = n - 1 - 1 := by simp [openC, h40, h41]
   rw [ho] at hd
   have hng : ¬ (n - 1 - 1 < 0) := by
    intro hng
    rw [if_pos hng] at hd
    exact absurd hd (by decide)
   rw [if_neg hng] at hd
   rw [if_pos h41, if_neg (by omega)]
   exact ⟨_, _, rfl, hc, by omega, hd, hle, h2⟩
  ·have ho : openC t (n - 1) = n - 1 := by simp [openC, h40, h41]
   rw [ho, if_neg (by omega)] at hd
   rw [if_neg h41]
   exact ⟨_, _, rfl, hc, hn, hd, hle, h2⟩
theorem filt_end {l r : List Int} {a : Nat} (acc : List Tok) (ha : a ≤ l.length) (hne : acc ≠ []) (h : l.drop a = 41 :: r) : filtC l (.inl a) 1 acc = (acc, .inl (a + 1)) := by
 rw [filtC_step ha, nx_one h (by simp)]
 have hz : acc.length ≠ 0 := fun e => hne (List.eq_nil_of_length_eq_zero e)
 simp [isS, hz]
theorem filt_again {t0 : List Int} (hi : InB t0) (l r : List Int) (us : List Tok) : ∀ (a : Nat) (n : Int) (acc : List Tok), (∀ t ∈ us, Good t0 t) → a ≤ l.length → 1 ≤ n → depthC us (n - 1) = true →
  l.drop a = tailP us ++ 41 :: r → acc ≠ [] →
  ∃ vs, filtC l (.inl a) n acc = (acc ++ vs, .inl (a + (tailP us).length + 1)) ∧ vs.map core = us.map core := by
 induction us with
 | nil =>
  intro a n acc _ ha hn hd h hne
  simp only [depthC, beq_iff_eq] at hd
  obtain rfl : n = 1 := by omega
  refine ⟨[], ?_, rfl⟩
  rw [filt_end acc ha hne (by simpa [tailP] using h)]
  simp [tailP]
 | cons t us ih =>
  intro a n acc hg ha hn hd h hne
  rw [tailP_cons, List.append_assoc, List.append_assoc] at h
  obtain ⟨n', t', e1, hc, hn', hd', hle, h2⟩ := filt_tok hi (hg t (by simp)) acc ha (by decide) hn hd h
  obtain ⟨vs, e2, hv⟩ := ih _ n' (acc ++ [t']) (fun u hu => hg u (by simp [hu])) hle hn' hd' h2 (by simp)
  refine ⟨t' :: vs, ?_, by simp [hc, hv]⟩
  rw [e1, e2, tailP_cons]
  simp only [List.append_assoc, List.singleton_append, List.length_append, List.length_cons, List.length_nil]
  rw [show a + (0 + 1) + (reprT t).length + (tailP us).length + 1 = a + ((reprT t).length + (tailP us).length + 1) + 1 by omega]
theorem filter_again {tx : List Int} (hi : InB tx) {ts : List Tok} (h1 : allS tx 0 = .inl ts) (h2 : ts ≠ []) (h3 : printS ts = tx) (h4 : depthC ts 0 = true) {l r : List Int} {a : Nat} (h : l.drop a = 40 :: (tx ++ 41 :: r)) :
  filterC l (.inl a) = (⟨5, 0, 0, 0, tx⟩, .inl (a + 1 + tx.length + 1)) := by
 have hg := allS_good tx ts 0 (Nat.zero_le _) h1
 have hd1 := drop_one h
 have ha : a + 1 ≤ l.length := by have := drop_le h; omega
 obtain ⟨vs, e, hv⟩ : ∃ vs, filtC l (.inl (a + 1)) 1 [] = (vs, .inl (a + 1 + tx.length + 1)) ∧ vs.map core = ts.map core := by
  cases ts with
  | nil => exact absurd rfl h2
  | cons t us =>
   have hd2 : l.drop (a + 1) = [] ++ (reprT t ++ (tailP us ++ 41 :: r)) := by
    rw [hd1, ← h3]
    simp [printS]
   obtain ⟨n', t', e1, hc, hn', hd', hle, h2⟩ := filt_tok (n := 1) hi (hg t (by simp)) [] ha (by simp) (by omega) h4 hd2
   obtain ⟨vs, e2, hv⟩ := filt_again hi l r us _ n' ([] ++ [t']) (fun u hu => hg u (by simp [hu])) hle hn' hd' h2 (by simp)
   refine ⟨t' :: vs, ?_, by simp [hc, hv]⟩
   rw [e1, e2, ← h3]
   simp only [printS, List.nil_append, List.singleton_append, List.length_append, List.length_nil, Nat.add_zero]
   rw [show a + 1 + (reprT t).length + (tailP us).length + 1 = a + 1 + ((reprT t).length + (tailP us).length) + 1 by omega]
 unfold filterC
 rw [must_one h (by simp), e]
 simp only []
 rw [printS_core hv, h3]
theorem tail_of {r : List Int} (hr : Begins r) {p : Int → Bool} (h46 : p 46 = false) (h91 : p 91 = false) : ∀ c s, r = c :: s → p c = false := by
 intro c s e
 rcases hr c s e with rfl | rfl <;> assumption
theorem seg_again {x : Seg} (hx : Fine x) {l r : List Int} {a : Nat} (hr : Begins r) (h : l.drop a = segP x ++ r) :
  ∃ t c, nx l (.inl a) = (t, .inl c) ∧ t.kind ≠ 0 ∧ begins t = true ∧ segC l t (.inl c) = (x, .inl (a + (segP x).length)) := by
 obtain ⟨k, n, lo, hi, tx⟩ := x
 obtain ⟨hb, n0, n1, lo0, lo1, hi0, hi1, hk⟩ := hx
 dsimp only at hb n0 n1 lo0 lo1 hi0 hi1 hk
 have brack : ∀ {u : List Int}, l.drop a = 91 :: u → nx l (.inl a) = (⟨1, a, a + 1, 0, [91]⟩, .inl (a + 1)) := fun h => nx_one h (by simp)
 rcases hk with ⟨rfl, rfl, rfl, rfl⟩ | ⟨rfl, rfl, rfl, rfl⟩ | ⟨rfl, rfl, rfl⟩ | ⟨rfl | rfl, rfl, rfl, rfl, rfl⟩ | ⟨rfl, rfl, rfl, rfl, ts, g1, g2, g3, g4⟩
 ·by_cases hnm : nameS tx = true
  ·have e : segP ⟨0, 0, 0, 0, tx⟩ = 46 :: tx := by simp [segP, hnm]
   rw [e] at h ⊢
   obtain ⟨c, s, e2, hl, -⟩ := name_cons hnm
   have hd : tokAt a (46 :: (tx ++ r)) = .inl ⟨1, a, a + 1, 0, [46]⟩ := by
    rw [e2]
    exact tok_dot a c (s ++ r) (by unfold isLet at hl; omega)
   have hn := nx_here h (fun c s e => by simp at e; rw [← e.1]; decide) hd
   have h2 := drop_one h
   have hn2 := nx_here h2 (fun d s' e => by rw [e2] at e; simp at e; rw [← e.1]; unfold isLet at hl; simp [blank]; omega) (tok_name (a + 1) tx r hnm (tail_of hr (by decide) (by decide)))
   refine ⟨_, _, hn, (show (1 : Int) ≠ 0 by decide), rfl, ?_⟩
   simp only [segC, pointC]
   rw [if_neg (by decide), if_pos trivial, hn2]
   simp [isS]
   omega
  ·have e : segP ⟨0, 0, 0, 0, tx⟩ = 91 :: (quoteL tx ++ [93]) := by simp [segP, hnm]
   rw [e] at h ⊢
   have hn := brack h
   have h2 : l.drop (a + 1) = quoteL tx ++ (93 :: r) := by have := drop_one h; rw [this]; simp
   have hn2 := nx_here h2 (fun c s e => by simp [quoteL] at e; rw [← e.1]; decide) (tok_quote (a + 1) tx (93 :: r) hb)
   have h3 := must_one (drop_more h2) (by simp)
   refine ⟨_, _, hn, (show (1 : Int) ≠ 0 by decide), rfl, ?_⟩
   simp only [segC, bracketC]
   rw [if_pos trivial, hn2]
   simp only [isS]
   rw [h3]
   simp
   omega
 ·have e : segP ⟨1, n, 0, 0, []⟩ = 91 :: (digL n ++ [93]) := by simp [segP]
  rw [e] at h ⊢
  have hn := brack h
  have h2 : l.drop (a + 1) = digL n ++ (93 :: r) := by have := drop_one h; rw [this]; simp
  have hn2 := nx_num h2 n0 n1 (by intro c s e; simp at e; rw [← e.1]; decide)
  have hn3 := nx_one (drop_more h2) (by simp)
  refine ⟨_, _, hn, (show (1 : Int) ≠ 0 by decide), rfl, ?_⟩
  simp only [segC, bracketC]
  rw [if_pos trivial, hn2]
  simp only []
  rw [hn3]
  simp [isS]
  omega
 ·have e : segP ⟨2, 0, lo, hi, []⟩ = 91 :: (endP lo 0 ++ 58 :: (endP hi 9223372036854775807 ++ [93])) := by simp [segP]
  rw [e] at h ⊢
  have hn := brack h
  refine ⟨_, _, hn, (show (1 : Int) ≠ 0 by decide), rfl, ?_⟩
  have h2 : l.drop (a + 1) = endP lo 0 ++ (58 :: (endP hi 9223372036854775807 ++ 93 :: r)) := by have := drop_one h; rw [this]; simp
  have h3 := drop_one (drop_more h2)
  have h4 := fun lo => slice_end lo h3 hi0 hi1
  simp only [segC, bracketC]
  rw [if_pos trivial]
  by_cases hz : lo = 0
  ·have e0 : endP lo 0 = [] := by simp [endP, hz]
   rw [e0] at h2 h4 ⊢
   have hn2 := nx_one h2 (by simp)
   rw [hn2]
   have e1 : a + 1 + ([] : List Int).length + 1 = a + 1 + 1 := by simp
   rw [e1] at h4
   simp only []
   rw [if_neg (show ¬ ((1 : Int) = 3) by decide), if_pos (isS_one _ _ _ _), h4, hz]
   simp
   omega
  ·have e0 : endP lo 0 = digL lo := by simp [endP, hz]
   rw [e0] at h2 h4 ⊢
   have hn2 := nx_num h2 lo0 lo1 (by intro c s e; simp at e; rw [← e.1]; decide)
   have hn3 := nx_one (drop_more h2) (by simp)
   rw [hn2]
   simp only []
   rw [hn3]
   simp only []
   rw [if_pos trivial, if_pos (isS_one _ _ _ _), h4]
   simp
   omega
 ·have e : segP ⟨3, 0, 0, 0, []⟩ = [91, 42, 93] := by simp [segP]
  rw [e] at h ⊢
  have hn := brack h
  have h2 := drop_one h
  have hn2 := nx_one h2 (by simp)
  have h3 := must_one (drop_one h2) (by simp)
  refine ⟨_, _, hn, (show (1 : Int) ≠ 0 by decide), rfl, ?_⟩
  simp only [segC, bracketC]
  rw [if_pos trivial, hn2]
  simp only [isS]
  rw [h3]
  simp
 ·have e : segP ⟨4, 0, 0, 0, []⟩ = [46, 46] := by simp [segP]
  rw [e] at h ⊢
  have hn := nx_here h (fun c s e => by simp at e; rw [← e.1]; decide) (tok_deep a r)
  refine ⟨_, _, hn, (show (1 : Int) ≠ 0 by decide), rfl, ?_⟩
  simp [segC]
 ·have e : segP ⟨5, 0, 0, 0, tx⟩ = 91 :: 63 :: 40 :: (tx ++ [41, 93]) := by simp [segP]
  rw [e] at h ⊢
  have hn := brack h
  have h2 := drop_one h
  have hn2 := nx_one h2 (by simp)
  have h3 : l.drop (a + 1 + 1) = 40 :: (tx ++ 41 :: (93 :: r)) := by have := drop_one h2; rw [this]; simp
  have hf := filter_again hb g1 g2 g3 g4 h3
  have h5 : l.drop (a + 1 + 1 + 1 + tx.length + 1) = 93 :: r := drop_one (drop_more (drop_one h3))
  have h6 := must_one h5 (by simp)
  refine ⟨_, _, hn, (show (1 : Int) ≠ 0 by decide), rfl, ?_⟩
  simp only [segC, bracketC]
  rw [if_pos trivial, hn2]
  simp only [isS]
  rw [hf]
  simp only []
  rw [h6]
  simp
  omega
theorem segP_begins {x : Seg} (hx : Fine x) : ∃ c s, segP x = c :: s ∧ (c = 46 ∨ c = 91) := by
 obtain ⟨k, n, lo, hi, tx⟩ := x
 have hk := hx.kinds
 dsimp only at hk
 rcases hk with ⟨rfl, rfl, rfl, rfl⟩ | ⟨rfl, rfl, rfl, rfl⟩ | ⟨rfl, rfl, rfl⟩ | ⟨rfl | rfl, rfl, rfl, rfl, rfl⟩ | ⟨rfl, rfl, rfl, rfl, ts, g1, g2, g3, g4⟩
 ·by_cases hnm : nameS tx = true
  ·exact ⟨46, tx, by simp [segP, hnm], .inl rfl⟩
  ·exact ⟨91, _, by simp only [segP]; rw [if_pos trivial, if_neg hnm], .inr rfl⟩
 ·exact ⟨91, _, by simp only [segP]; rw [if_neg (by decide), if_pos trivial], .inr rfl⟩
 ·exact ⟨91, _, by simp only [segP]; rw [if_neg (by decide), if_neg (by decide), if_pos trivial], .inr rfl⟩
 ·exact ⟨91, _, rfl, .inr rfl⟩
 ·exact ⟨46, _, rfl, .inl rfl⟩
 ·exact ⟨91, 63 :: 40 :: (tx ++ [41, 93]), by simp [segP], .inr rfl⟩
theorem flat_begins : ∀ {r : List Seg}, (∀ x ∈ r, Fine x) → Begins (r.flatMap segP) := by
 intro r hr c s e
 cases r with
 | nil => simp at e
 | cons x r =>
  obtain ⟨d, u, e2, h⟩ := segP_begins (hr x (by simp))
  rw [List.flatMap_cons, e2] at e
  simp at e
  rw [← e.1]
  exact h
theorem par_again (l : List Int) (r : List Seg) : ∀ (a : Nat) (acc : List Seg), (∀ x ∈ r, Fine x) → a ≤ l.length → acc.length + r.length ≤ 32 → l.drop a = r.flatMap segP → ∃ c, parC l (.inl a) acc = (acc ++ r, .inl c) := by
 induction r with
 | nil =>
  intro a acc _ ha _ h
  have hn : nx l (.inl a) = (⟨0, a, a, 0, []⟩, .inl a) := nx_here (t := ⟨0, a, a, 0, []⟩) h (fun c s e => by simp at e) rfl
  refine ⟨a, ?_⟩
  rw [parC_step ha hn]
  simp
 | cons x r ih =>
  intro a acc hf ha hl h
  rw [List.flatMap_cons] at h
  obtain ⟨t, c, hn, hk, hb, hs⟩ := seg_again (hf x (by simp)) (flat_begins (fun y hy => hf y (by simp [hy]))) h
  have hle : a + (segP x).length ≤ l.length := by
   have := congrArg List.length h
   simp at this
   omega
  simp only [List.length_cons] at hl
  obtain ⟨d, e⟩ := ih (a + (segP x).length) (acc ++ [x]) (fun y hy => hf y (by simp [hy])) hle (by simp; omega) (drop_more h)
  refine ⟨d, ?_⟩
  rw [parC_step ha hn, if_neg hk, if_neg (by rw [hb]; decide), if_neg (by omega), hs]
  simp only []
  rw [e]
  simp
theorem parse_again {r : List Seg} (hf : ∀ x ∈ r, Fine x) (hl : r.length ≤ 32) : parseC (routeP r) = .inl r := by
 have h : (routeP r).drop 0 = 36 :: r.flatMap segP := rfl
 have hm := must_one h (by simp)
 obtain ⟨c, e⟩ := par_again (routeP r) r 1 [] hf (by simp [routeP]) (by simpa using hl) (drop_one h)
 unfold parseC
 rw [hm, show (0 : Nat) + 1 = 1 from rfl, e]
 simp
theorem inb_nil : InB [] := fun x hx => by simp at hx
theorem z0 : (-9223372036854775808 : Int) ≤ 0 := by decide
theorem z1 : (0 : Int) ≤ 9223372036854775807 := by decide
theorem z9 : (-9223372036854775808 : Int) ≤ 9223372036854775807 := by decide
theorem nx_parts {l : List Int} (hb : InB l) (st : St) : InB (nx l st).1.text ∧ (nx l st).1.text.length ≤ l.length ∧ -9223372036854775808 ≤ (nx l st).1.n ∧ (nx l st).1.n ≤ 9223372036854775807 := by
 have h := nx_ok (strOfNums l) st
 rw [bytesOf_strOfNums _ hb] at h
 obtain ⟨h1, h2, h3, h4⟩ := h
 rw [strOfNums_size] at h2
 exact ⟨h1, h2, h3, h4⟩
theorem nx_inl {l : List Int} {a c : Nat} (h : (nx l (.inl a)).2 = .inl c) : nextS l a = .inl (nx l (.inl a)).1 ∧ (nx l (.inl a)).1.end_ = c := by
 cases hr : nextS l a with
 | inr e => simp [nx, hr] at h
 | inl t =>
  have e : nx l (.inl a) = (t, .inl t.end_) := by simp only [nx, hr]
  rw [e] at h ⊢
  exact ⟨rfl, Sum.inl.inj h⟩
theorem bd_not {l : List Int} {t : Tok} {st : St} {c : Nat} : bd l t st ≠ .inl c := by
 cases st <;> simp [bd]
theorem filtF_fine {l : List Int} (hb : InB l) : ∀ (f : Nat) (a : Nat) (n : Int) (acc ts : List Tok) (c : Nat), a ≤ l.length → l.length + 1 - a ≤ f → 1 ≤ n → filtF f l (.inl a) n acc = (ts, .inl c) →
  ∃ us, ts = acc ++ us ∧ ts ≠ [] ∧ (∀ t ∈ us, Good l t) ∧ depthC us (n - 1) = true ∧ (tailP us).length ≤ 5 * (l.length - a) := by
 intro f
 induction f with
 | zero => intro a n acc ts c ha hf; omega
 | succ f ih =>
  intro a n acc ts c ha hf hn h
  simp only [filtF] at h
  by_cases h0 : (nx l (.inl a)).1.kind = 0
  ·rw [if_pos h0] at h
   exact absurd (Prod.mk.inj h).2 bd_not
  rw [if_neg h0] at h
  obtain ⟨c1, hc1, h1, h2⟩ := nx_more ha h0
  obtain ⟨hx, he⟩ := nx_inl hc1
  rw [hc1] at h
  generalize (nx l (.inl a)).1 = t at *
  have hk := nextS_ok ha hx
  have hg : Good l t := Good.mk _ _ _ hx h0
  have hlen : (reprT t).length ≤ 4 * (t.end_ - t.at_) := (tok_again (InB.drop hb _) hx h0).2.1
  have hlt := hk.2.2.2.2 h0
  have hat := hk.1
  have step : ∀ (m : Int), 1 ≤ m → openC t (n - 1) = m - 1 → filtF f l (.inl c1) m (acc ++ [t]) = (ts, .inl c) →
    ∃ us, ts = acc ++ us ∧ ts ≠ [] ∧ (∀ t ∈ us, Good l t) ∧ depthC us (n - 1) = true ∧ (tailP us).length ≤ 5 * (l.length - a) := by
   intro m hm ho h
   obtain ⟨us, e, hne, hu, hd, hl⟩ := ih c1 m (acc ++ [t]) ts c h2 (by omega) hm h
   refine ⟨t :: us, by rw [e]; simp, hne, ?_, ?_, ?_⟩
   ·intro u hu'
    rcases List.mem_cons.1 hu' with rfl | hu'
    ·exact hg
    ·exact hu u hu'
   ·simp only [depthC]
    rw [ho, if_neg (by omega)]
    exact hd
   ·rw [tailP_cons]
    simp only [List.length_append, List.length_cons, List.length_nil]
    omega
  by_cases h40 : isS t [40] = true
  ·rw [if_pos h40] at h
   exact step (n + 1) (by omega) (by simp [openC, h40]) h
  rw [if_neg h40] at h
  by_cases h41 : isS t [41] = true
  ·rw [if_pos h41] at h
   by_cases hz : n - 1 = 0
   ·rw [if_pos hz] at h
    by_cases hl : acc.length = 0
    ·rw [if_pos hl] at h
     exact absurd (Prod.mk.inj h).2 bd_not
    ·have e : acc = ts := congrArg Prod.fst h
     refine ⟨[], by rw [e]; simp, ?_, by simp, by simp [depthC, hz], by simp [tailP]⟩
     rw [← e]
     intro e2
     exact hl (by rw [e2]; rfl)
   ·rw [if_neg hz] at h
    exact step (n - 1) (by omega) (by simp [openC, h40, h41]) h
  rw [if_neg h41] at h
  exact step n hn (by simp [openC, h40, h41]) h
def Lim (l : List Int) (x : Seg) : Prop := x.text.length ≤ 5 * l.length ∧ (x.kind = 0 → x.text.length ≤ l.length)
theorem lim_nil {l : List Int} {x : Seg} (h : x.text = []) : Lim l x := ⟨by rw [h]; exact Nat.zero_le _, fun _ => by rw [h]; exact Nat.zero_le _⟩
theorem filter_fine {l : List Int} (hb : InB l) {a c : Nat} {x : Seg} (ha : a ≤ l.length) (h : filterC l (.inl a) = (x, .inl c)) : Fine x ∧ Lim l x := by
 unfold filterC at h
 have hok : Ok l 0 (mustC l [40] (.inl a)) := Ok.must (fun b hb => by obtain rfl := Sum.inl.inj hb; exact ⟨Nat.zero_le _, ha⟩)
 cases hm : mustC l [40] (.inl a) with
 | inr e => rw [hm] at h; simp [filtC_err] at h
 | inl b =>
  rw [hm] at h hok
  have hbl := (hok b rfl).2
  obtain ⟨ts, st, hf⟩ : ∃ ts st, filtC l (.inl b) 1 [] = (ts, st) := ⟨_, _, rfl⟩
  rw [hf] at h
  simp only [Prod.mk.injEq] at h
  obtain ⟨rfl, rfl⟩ := h
  obtain ⟨us, e, hne, hg, hd, hl⟩ := filtF_fine hb _ b 1 [] ts c hbl (by simp only [room]; omega) (by omega) hf
  rw [List.nil_append] at e
  subst e
  have hpb := print_bytes hb ts hg
  obtain ⟨vs, hv, hc⟩ := print_again hb ts hg
  have hlen : (printS ts).length ≤ 5 * l.length := by
   cases ts with
   | nil => simp [printS]
   | cons t ts =>
    rw [tailP_cons] at hl
    simp only [List.length_append, List.length_cons, List.length_nil] at hl
    simp only [printS, List.length_append]
    omega
  refine ⟨⟨hpb, z0, z1, z0, z1, z0, z1, .inr (.inr (.inr (.inr ⟨rfl, rfl, rfl, rfl, vs, hv, ?_, printS_core hc, ?_⟩)))⟩, hlen, fun h => absurd h (show ¬ ((5 : Int) = 0) by decide)⟩
  ·intro e
   rw [e] at hc
   exact hne (List.map_eq_nil_iff.1 hc.symm)
  ·rw [depth_core 0 hc]
   exact hd
theorem slice_fine {l : List Int} (hb : InB l) (lo : Int) (st : St) (h0 : -9223372036854775808 ≤ lo) (h1 : lo ≤ 9223372036854775807) : Fine (sliceC l lo st).1 ∧ Lim l (sliceC l lo st).1 := by
 obtain ⟨-, -, k1, k2⟩ := nx_parts hb st
 unfold sliceC
 split
 ·exact ⟨⟨inb_nil, z0, z1, h0, h1, k1, k2, .inr (.inr (.inl ⟨rfl, rfl, rfl⟩))⟩, lim_nil rfl⟩
 ·exact ⟨⟨inb_nil, z0, z1, h0, h1, z9, Int.le_refl _, .inr (.inr (.inl ⟨rfl, rfl, rfl⟩))⟩, lim_nil rfl⟩
theorem plain_fine {l tx : List Int} (k : Int) (hb : InB tx) (hl : tx.length ≤ l.length) (h : (k = 0) ∨ ((k = 3 ∨ k = 4) ∧ tx = [])) : Fine ⟨k, 0, 0, 0, tx⟩ ∧ Lim l ⟨k, 0, 0, 0, tx⟩ := by
 refine ⟨⟨hb, z0, z1, z0, z1, z0, z1, ?_⟩, by show tx.length ≤ _; omega, fun _ => hl⟩
 rcases h with h | ⟨h, h2⟩
 ·exact .inl ⟨h, rfl, rfl, rfl⟩
 ·exact .inr (.inr (.inr (.inl ⟨h, rfl, rfl, rfl, h2⟩)))
theorem bracket_fine {l : List Int} (hb : InB l) {a c : Nat} {x : Seg} (ha : a ≤ l.length) (h : bracketC l (.inl a) = (x, .inl c)) : Fine x ∧ Lim l x := by
 obtain ⟨t1, t2, t3, t4⟩ := nx_parts hb (.inl a)
 have hok : Ok l 0 (nx l (.inl a)).2 := Ok.nx (fun b hb => by obtain rfl := Sum.inl.inj hb; exact ⟨Nat.zero_le _, ha⟩)
 have hfst := congrArg Prod.fst h
 have hsnd := congrArg Prod.snd h
 simp only [bracketC] at hfst hsnd
 split at hfst
 ·rename_i hk
  rw [if_pos hk] at hsnd
  split at hfst
  ·rw [← hfst]; exact slice_fine hb _ _ t3 t4
  ·simp only [] at hfst
   rw [← hfst]
   exact ⟨⟨inb_nil, t3, t4, z0, z1, z0, z1, .inr (.inl ⟨rfl, rfl, rfl, rfl⟩)⟩, lim_nil rfl⟩
 ·rename_i hk
  rw [if_neg hk] at hsnd
  split at hfst
  ·rw [← hfst]; exact slice_fine hb _ _ (by decide) (by decide)
  ·rename_i h58
   rw [if_neg h58] at hsnd
   split at hfst
   ·simp only [] at hfst; rw [← hfst]; exact plain_fine 0 t1 t2 (.inl rfl)
   ·rename_i hk4
    rw [if_neg hk4] at hsnd
    split at hfst
    ·simp only [] at hfst; rw [← hfst]; exact plain_fine 3 inb_nil (by simp) (.inr ⟨.inl rfl, rfl⟩)
    ·rename_i h42
     rw [if_neg h42] at hsnd
     split at hfst
     ·rename_i h63
      rw [if_pos h63] at hsnd
      simp only [] at hfst hsnd
      cases hs : (nx l (.inl a)).2 with
      | inr e =>
       rw [hs] at hsnd
       have : (filterC l (.inr e)).2 = .inr e := by simp [filterC, mustC, nx, isS, tok0, bd, filtC_err]
       rw [this] at hsnd
       simp [mustC, nx, isS, tok0, bd] at hsnd
      | inl b =>
       rw [hs] at hsnd hfst hok
       have hbl := (hok b rfl).2
       cases hf : (filterC l (.inl b)).2 with
       | inr e => rw [hf] at hsnd; simp [mustC, nx, isS, tok0, bd] at hsnd
       | inl d => exact filter_fine hb hbl (c := d) (by rw [← hfst, ← hf])
     ·rename_i h63
      simp only [] at hfst; rw [← hfst]; exact plain_fine 0 inb_nil (by simp) (.inl rfl)
theorem seg_fine {l : List Int} (hb : InB l) {a c : Nat} {x : Seg} {t : Tok} (ha : a ≤ l.length) (h : segC l t (.inl a) = (x, .inl c)) : Fine x ∧ Lim l x := by
 unfold segC at h
 split at h
 ·exact bracket_fine hb ha h
 ·split at h
  ·obtain ⟨t1, t2, t3, t4⟩ := nx_parts hb (.inl a)
   have hfst := congrArg Prod.fst h
   unfold pointC at hfst
   split at hfst
   ·simp only [] at hfst; rw [← hfst]; exact plain_fine 3 inb_nil (by simp) (.inr ⟨.inl rfl, rfl⟩)
   ·simp only [] at hfst; rw [← hfst]; exact plain_fine 0 t1 t2 (.inl rfl)
  ·have hfst := congrArg Prod.fst h
   simp only [] at hfst
   rw [← hfst]
   exact plain_fine 4 inb_nil (by simp) (.inr ⟨.inr rfl, rfl⟩)
theorem par_fine {l : List Int} (hb : InB l) : ∀ (f : Nat) (st : St) (acc r : List Seg) (c : Nat), Ok l 0 st → (∀ x ∈ acc, Fine x ∧ Lim l x) → acc.length ≤ 32 → parF f l st acc = (r, .inl c) →
  (∀ x ∈ r, Fine x ∧ Lim l x) ∧ r.length ≤ 32 := by
 intro f
 induction f with
 | zero =>
  intro st acc r c hok hacc hl h
  have e : acc = r := congrArg Prod.fst h
  subst e
  exact ⟨hacc, hl⟩
 | succ f ih =>
  intro st acc r c hok hacc hl h
  cases st with
  | inr e => simp [parF] at h
  | inl a =>
   have ha := (hok a rfl).2
   have hok2 : Ok l 0 (nx l (.inl a)).2 := Ok.nx hok
   simp only [parF] at h
   cases hs : (nx l (.inl a)).2 with
   | inr e => rw [hs] at h; simp at h
   | inl b =>
    rw [hs] at h hok2
    have hbl := (hok2 b rfl).2
    simp only [] at h
    split at h
    ·have e : acc = r := congrArg Prod.fst h
     subst e
     exact ⟨hacc, hl⟩
    ·split at h
     ·simp at h
     ·split at h
      ·simp at h
      ·rename_i h32
       obtain ⟨x, st2, hx⟩ : ∃ x st2, segC l (nx l (.inl a)).1 (.inl b) = (x, st2) := ⟨_, _, rfl⟩
       have hok3 : Ok l 0 (segC l (nx l (.inl a)).1 (.inl b)).2 := Ok.seg _ hok2
       rw [hx] at h hok3
       simp only [] at h hok3
       cases st2 with
       | inr e =>
        have : (parF f l (.inr e) (acc ++ [x])).2 = .inr e := by cases f <;> rfl
        rw [h] at this
        simp at this
       | inl d =>
        refine ih _ _ _ _ hok3 ?_ (by simp; omega) h
        intro y hy
        rcases List.mem_append.1 hy with hy | hy
        ·exact hacc y hy
        ·obtain rfl := List.mem_singleton.1 hy
         exact seg_fine hb hbl hx
theorem parse_fine {l : List Int} (hb : InB l) {r : List Seg} (h : parseC l = .inl r) : (∀ x ∈ r, Fine x ∧ Lim l x) ∧ r.length ≤ 32 := by
 unfold parseC at h
 obtain ⟨q, st, hq⟩ : ∃ q st, parC l (mustC l [36] (.inl 0)) [] = (q, st) := ⟨_, _, rfl⟩
 rw [hq] at h
 cases st with
 | inr e => simp at h
 | inl c =>
  simp only [Sum.inl.injEq] at h
  subst h
  exact par_fine hb _ _ [] q c (Ok.must (fun b hb => by obtain rfl := Sum.inl.inj hb; exact ⟨Nat.zero_le _, Nat.zero_le _⟩)) (by simp) (by simp) hq
def Okx (l : List Int) : St → Prop
 | .inl a => a ≤ l.length
 | .inr e => e.1 ≤ l.length
theorem Okx.nx {l : List Int} {st : St} (h : Okx l st) : Okx l (nx l st).2 ∧ (Pure.nx l st).1.at_ ≤ l.length := by
 cases st with
 | inr e => exact ⟨h, Nat.zero_le _⟩
 | inl a =>
  cases hr : nextS l a with
  | inr e =>
   have e1 : Pure.nx l (.inl a) = (tok0, .inr e) := by simp only [Pure.nx, hr]
   rw [e1]
   exact ⟨(nextS_bad h hr).1, Nat.zero_le _⟩
  | inl t =>
   have e1 : Pure.nx l (.inl a) = (t, .inl t.end_) := by simp only [Pure.nx, hr]
   rw [e1]
   have hk := nextS_ok h hr
   exact ⟨hk.2.1, hk.2.2.1⟩
theorem Okx.bd {l : List Int} {st : St} {t : Tok} (h : Okx l st) (ht : t.at_ ≤ l.length) : Okx l (bd l t st) := by
 cases st with
 | inr e => exact h
 | inl a =>
  show (badE l t).1 ≤ l.length
  unfold badE
  split
  ·exact Nat.le_refl _
  ·exact ht
theorem Okx.pick {l : List Int} {s1 s2 : St} {p : Prop} [Decidable p] (h1 : Okx l s1) (h2 : Okx l s2) : Okx l (if p then s1 else s2) := by split <;> assumption
theorem Okx.must {l x : List Int} {st : St} (h : Okx l st) : Okx l (mustC l x st) := Okx.pick h.nx.1 (h.nx.1.bd h.nx.2)
theorem Okx.slice {l : List Int} {st : St} (lo : Int) (h : Okx l st) : Okx l (sliceC l lo st).2 := by
 unfold sliceC
 split
 ·exact h.nx.1.must
 ·exact Okx.pick h.nx.1 (h.nx.1.bd h.nx.2)
theorem Okx.filtF {l : List Int} : ∀ (f : Nat) (st : St) (n : Int) (acc : List Tok), Okx l st → Okx l (filtF f l st n acc).2 := by
 intro f
 induction f with
 | zero => intro st n acc h; exact h
 | succ f ih =>
  intro st n acc h
  cases st with
  | inr e => exact h
  | inl b =>
   simp only [Pure.filtF]
   split
   ·exact h.nx.1.bd h.nx.2
   ·split
    ·exact ih _ _ _ h.nx.1
    ·split
     ·split
      ·exact Okx.pick (h.nx.1.bd h.nx.2) h.nx.1
      ·exact ih _ _ _ h.nx.1
     ·exact ih _ _ _ h.nx.1
theorem Okx.filter {l : List Int} {st : St} (h : Okx l st) : Okx l (filterC l st).2 := Okx.filtF _ _ _ _ h.must
theorem Okx.bracket {l : List Int} {st : St} (h : Okx l st) : Okx l (bracketC l st).2 := by
 unfold bracketC
 split
 ·split
  ·exact h.nx.1.nx.1.slice _
  ·exact Okx.pick h.nx.1.nx.1 (h.nx.1.nx.1.bd h.nx.1.nx.2)
 ·split
  ·exact h.nx.1.slice _
  ·split
   ·exact h.nx.1.must
   ·split
    ·exact h.nx.1.must
    ·split
     ·exact h.nx.1.filter.must
     ·exact (h.nx.1.bd h.nx.2).must
theorem Okx.point {l : List Int} {st : St} (h : Okx l st) : Okx l (pointC l st).2 := by
 unfold pointC
 split
 ·exact h.nx.1
 ·exact Okx.pick h.nx.1 (h.nx.1.bd h.nx.2)
theorem Okx.seg {l : List Int} {st : St} (t : Tok) (h : Okx l st) : Okx l (segC l t st).2 := by
 unfold segC
 split
 ·exact h.bracket
 ·split
  ·exact h.point
  ·exact h
theorem Okx.parF {l : List Int} : ∀ (f : Nat) (st : St) (acc : List Seg), Okx l st → Okx l (parF f l st acc).2 := by
 intro f
 induction f with
 | zero => intro st acc h; exact h
 | succ f ih =>
  intro st acc h
  cases st with
  | inr e => exact h
  | inl a =>
   have h2 := h.nx
   simp only [Pure.parF]
   cases hs : (Pure.nx l (.inl a)).2 with
   | inr e => rw [hs] at h2; exact h2.1
   | inl b =>
    rw [hs] at h2
    simp only []
    split
    ·exact h2.1
    ·split
     ·exact Okx.bd (st := .inl b) h2.1 h2.2
     ·split
      ·exact h2.2
      ·exact ih _ _ (Okx.seg _ h2.1)
theorem parse_bad {l : List Int} {e : Nat × Int} (h : parseC l = .inr e) : e.1 ≤ l.length := by
 have hk : Okx l (parC l (mustC l [36] (.inl 0)) []).2 := Okx.parF _ _ _ (Okx.must (Nat.zero_le _))
 unfold parseC at h
 cases hs : (parC l (mustC l [36] (.inl 0)) []).2 with
 | inl a => rw [hs] at h; simp at h
 | inr e2 =>
  rw [hs] at h hk
  simp only [Sum.inr.injEq] at h
  subst h
  exact hk
end Go.Proofs.YtkbjblhompkdkaaDoor.Pure
namespace Go.Proofs.YtkbjblhompkdkaaDoor.Pure
set_option linter.unusedSimpArgs false
set_option linter.unusedVariables false
open Go.RowKit Go.Proofs.YtkbjblhompkdkaaDoor Go.Proofs.YtkbjblhompkdkaaDoor.PA Go.Proofs.YtkbjblhompkdkaaDoor.PB Go.Proofs.YtkbjblhompkdkaaDoorW.PrintWords Go.Proofs.YtkbjblhompkdkaaDoorW.PrintLast
section
variable (s : ByteArray) (hs : s.size ≤ 140737488351232)
include hs
theorem name_loop (d : Nat) : ∀ i : Nat, i ≤ s.size → s.size - i = d → Ev (fun k => quote_Name.l0 k s (s.size : Int) (i : Int)) (nameR (i == 0) ((bytesOf s).drop i)) := by
 induction d with
 | zero =>
  intro i hi hd
  rw [bytes_end s (by omega)]
  refine Ev.succ ?_
  simp only [quote_Name.l0, show ¬ ((i : Int) < (s.size : Int)) by omega, if_false, nameR]
  exact Ev.now _
 | succ d ih =>
  intro i hi hd
  have hlt : i < s.size := by omega
  have hn := i_next hlt hs
  have ih := ih (i + 1) (by omega) (by omega)
  rw [show (i + 1 == 0) = false from rfl] at ih
  rw [bytes_drop s hlt]
  refine Ev.succ ?_
  simp only [quote_Name.l0, show (i : Int) < (s.size : Int) by omega, show (0 : Int) ≤ (i : Int) by omega, if_true]
  generalize bt s (i : Int) = c
  have j2 : ∀ b : Bool, (b = true ↔ isLet c) → Ev (fun k => quote_Name.j2 k s (i : Int) c (s.size : Int) (i : Int) b) (nameR (i == 0) (c :: (bytesOf s).drop (i + 1))) := by
   intro b hb
   refine Ev.succ ?_
   simp only [quote_Name.j2, hn, nameR]
   by_cases hl : isLet c
   ·simp only [hb.2 hl, if_true, hl, decide_true, Bool.true_or, Bool.true_and]
    exact ih
   ·have hbf : b = false := by cases b with
     | false => rfl
     | true => exact absurd (hb.1 rfl) hl
    simp only [hbf, Bool.false_eq_true, if_false, hl, decide_false, Bool.false_or]
    by_cases h0 : i = 0
    ·subst h0
     simp only [Int.natCast_zero, show ¬ (0 : Int) > 0 by omega, if_false]
     exact Ev.now _
    ·simp only [show (i : Int) > 0 by omega, if_true, show (i == 0) = false from beq_eq_false_iff_ne.2 h0, Bool.not_false, Bool.true_and]
     by_cases hd : isDig c
     ·unfold isDig at hd
      simp only [show c ≥ 48 by omega, hd.2, if_true, show isDig c from hd, decide_true, Bool.true_and]
      exact ih
     ·simp only [hd, decide_false, Bool.false_and]
      unfold isDig at hd
      by_cases h48 : c ≥ 48
      ·simp only [h48, if_true, show ¬ c ≤ 57 by omega, if_false]
       exact Ev.now _
      ·simp only [h48, if_false]
       exact Ev.now _
  have j1 : ∀ b : Bool, (b = true ↔ 97 ≤ c ∧ c ≤ 122) → Ev (fun k => quote_Name.j1 k s (i : Int) c (s.size : Int) (i : Int) b) (nameR (i == 0) (c :: (bytesOf s).drop (i + 1))) := by
   intro b hb
   refine Ev.succ ?_
   simp only [quote_Name.j1]
   by_cases h97 : 97 ≤ c ∧ c ≤ 122
   ·simp only [hb.2 h97, if_true]
    exact j2 true ⟨fun _ => .inl h97, fun _ => rfl⟩
   ·have hbf : b = false := by cases b with
     | false => rfl
     | true => exact absurd (hb.1 rfl) h97
    simp only [hbf, Bool.false_eq_true, if_false]
    by_cases h65 : c ≥ 65
    ·by_cases h90 : c ≤ 90
     ·simp only [h65, h90, if_true, decide_true]
      exact j2 true ⟨fun _ => .inr (.inl ⟨h65, h90⟩), fun _ => rfl⟩
     ·simp only [h65, h90, if_true, if_false]
      refine j2 (c == 95) ?_
      rw [beq_iff_eq]
      unfold isLet
      omega
    ·simp only [h65, if_false]
     refine j2 (c == 95) ?_
     rw [beq_iff_eq]
     unfold isLet
     omega
  by_cases h97 : c ≥ 97
  ·simp only [h97, if_true]
   refine j1 (decide (c ≤ 122)) ?_
   rw [decide_eq_true_iff]
   omega
  ·simp only [h97, if_false]
   refine j1 false ?_
   constructor
   ·intro h; cases h
   ·intro h; omega
theorem name_ev : Ev (fun k => quote_Name.f k s) (nameS (bytesOf s)) := by
 unfold quote_Name.f nameS
 by_cases h0 : s.size = 0
 ·rw [bytes_nil h0]
  simp only [toList_nil.2 h0, if_true]
  exact Ev.now _
 ·have hn : ¬ s.toList = [] := fun h => h0 (toList_nil.1 h)
  have hd := bytes_drop s (show 0 < s.size by omega)
  rw [List.drop_zero] at hd
  simp only [hn, if_false]
  have := name_loop s hs s.size 0 (by omega) (by omega)
  rw [List.drop_zero] at this
  rw [show (bytesOf s).isEmpty = false by rw [hd]; rfl]
  exact this
end
def segN (y : S83) : Seg := ⟨y.f0, y.f1, y.f2, y.f3, bytesOf y.f4⟩
structure Rng (y : S83) : Prop where
 n0 : -9223372036854775808 ≤ y.f1
 n1 : y.f1 ≤ 9223372036854775807
 lo0 : -9223372036854775808 ≤ y.f2
 lo1 : y.f2 ≤ 9223372036854775807
 hi0 : -9223372036854775808 ≤ y.f3
 hi1 : y.f3 ≤ 9223372036854775807
theorem end_some (n but : Int) (h0 : -9223372036854775808 ≤ n) (h1 : n ≤ 9223372036854775807) : route_end.f n but = some (strOfNums (endP n but)) := by
 unfold route_end.f endP
 split
 ·rfl
 ·unfold num_Digits.f
  rw [if_pos ⟨h0, h1⟩]
  rfl
theorem endP_len (n but : Int) (h0 : -9223372036854775808 ≤ n) (h1 : n ≤ 9223372036854775807) : (endP n but).length ≤ 20 := by
 unfold endP
 split
 ·simp
 ·exact digL_len n h0 h1
theorem quoteL_len (x : List Int) : (quoteL x).length ≤ 4 * x.length + 2 := by
 have := qbody_length x
 simp [quoteL]
 omega
theorem segP_len (x : Seg) (n0 : -9223372036854775808 ≤ x.n) (n1 : x.n ≤ 9223372036854775807) (lo0 : -9223372036854775808 ≤ x.lo) (lo1 : x.lo ≤ 9223372036854775807) (hi0 : -9223372036854775808 ≤ x.hi) (hi1 : x.hi ≤ 9223372036854775807) :
  (segP x).length ≤ 4 * x.text.length + 50 ∧ (x.kind ≠ 0 → (segP x).length ≤ x.text.length + 50) := by
 have h1 := quoteL_len x.text
 have h2 := digL_len x.n n0 n1
 have h3 := endP_len x.lo 0 lo0 lo1
 have h4 := endP_len x.hi 9223372036854775807 hi0 hi1
 unfold segP
 repeat' split
 all_goals (simp; try omega)
theorem lit1 (c : UInt8) : (⟨#[c]⟩ : ByteArray).size = 1 := rfl
theorem lit3 (a b c : UInt8) : (⟨#[a, b, c]⟩ : ByteArray).size = 3 := rfl
theorem lit2 (a b : UInt8) : (⟨#[a, b]⟩ : ByteArray).size = 2 := rfl
section
variable (L : List S83) (hL : L.length ≤ 1048576) (hx : ∀ x ∈ L, x.f4.size ≤ 1048576 ∧ Rng x)
include hL hx
theorem rprint_loop (d : Nat) : ∀ (i : Nat) (acc : ByteArray), i ≤ L.length → L.length - i = d → acc.size ≤ i * 5000000 + 1 → Ev (fun k => route_Print.l0 k acc L (L.length : Int) (i : Int)) (acc ++ strOfNums (((L.drop i).map segN).flatMap segP)) := by
 induction d with
 | zero =>
  intro i acc hi hd hacc
  refine Ev.succ ?_
  refine Ev.congr (f := fun _ => some acc) (fun k => ?_) ?_
  ·simp only [route_Print.l0]
   rw [if_neg (by omega)]
  ·rw [List.drop_eq_nil_of_le (by omega)]
   have : acc ++ strOfNums ((([] : List S83).map segN).flatMap segP) = acc := bytes_add_nil acc
   rw [this]
   exact Ev.now _
 | succ d ih =>
  intro i acc hi hd hacc
  have hlt : i < L.length := by omega
  obtain ⟨x, hxi⟩ : ∃ x, L[i]? = some x := ⟨_, List.getElem?_eq_getElem hlt⟩
  have hrd : rd_T83 L (i : Int) = x := by simp [rd_T83, hxi]
  have hdrop : L.drop i = x :: L.drop (i + 1) := by
   rw [List.drop_eq_getElem_cons hlt]
   congr 1
   exact (List.getElem?_eq_some_iff.1 hxi).2
  obtain ⟨hsz, hr⟩ := hx x (List.mem_of_getElem? hxi)
  have hn := i_next (n := L.length) hlt (by omega)
  have hlen := (segP_len (segN x) hr.n0 hr.n1 hr.lo0 hr.lo1 hr.hi0 hr.hi1).1
  have htl : (segN x).text.length = x.f4.size := bytesOf_length _
  rw [htl] at hlen
  have ih' : ∀ p : ByteArray, p = strOfNums (segP (segN x)) → Ev (fun k => route_Print.l0 k (acc ++ p) L (L.length : Int) ((i + 1 : Nat) : Int)) (acc ++ strOfNums (((x :: L.drop (i + 1)).map segN).flatMap segP)) := by
   intro p hp
   have hps : p.size ≤ 4 * x.f4.size + 50 := by rw [hp, strOfNums_size]; exact hlen
   have := ih (i + 1) (acc ++ p) (by omega) (by omega) (by rw [ByteArray.size_append]; omega)
   rw [List.map_cons, List.flatMap_cons, strOfNums_append, ← ByteArray.append_assoc, ← hp]
   exact this
  have c1 : (i : Int) < (L.length : Int) := by omega
  have c2 : (0 : Int) ≤ (i : Int) := by omega
  rw [hdrop]
  refine Ev.succ ?_
  simp only [route_Print.l0, hrd, c1, c2, if_true, hn]
  by_cases h0 : x.f0 = 0
  ·simp only [h0, if_true]
   refine Ev.bind (name_ev x.f4 (by omega)) ?_
   by_cases hnm : nameS (bytesOf x.f4) = true
   ·have hp : (⟨#[46]⟩ : ByteArray) ++ x.f4 = strOfNums (segP (segN x)) := by
     have e : segP (segN x) = [46] ++ bytesOf x.f4 := by simp [segP, segN, h0, hnm]
     rw [e, strOfNums_append, strOfNums_bytesOf]
     rfl
    refine Ev.congr (fun k => ?_) (ih' _ hp)
    rw [if_pos hnm, if_pos (by omega), if_pos (by rw [ByteArray.size_append, lit1]; omega)]
   ·have hp : ((⟨#[91]⟩ : ByteArray) ++ strOfNums (quoteL (bytesOf x.f4))) ++ (⟨#[93]⟩ : ByteArray) = strOfNums (segP (segN x)) := by
     have e : segP (segN x) = [91] ++ quoteL (bytesOf x.f4) ++ [93] := by simp [segP, segN, h0, hnm]
     rw [e, strOfNums_append, strOfNums_append]
     rfl
    have hq := quoteL_len (bytesOf x.f4)
    rw [bytesOf_length] at hq
    simp only [hnm, if_false]
    refine Ev.bind (quote_ev x.f4 (by omega)) ?_
    refine Ev.congr (fun k => ?_) (ih' _ hp)
    rw [if_pos (by rw [strOfNums_size]; omega), if_pos (by rw [ByteArray.size_append, lit1, strOfNums_size]; omega), if_pos (by rw [ByteArray.size_append, ByteArray.size_append, lit1, lit1, strOfNums_size]; omega)]
  simp only [h0, if_false]
  by_cases h1 : x.f0 = 1
  ·have hp : ((⟨#[91]⟩ : ByteArray) ++ strOfNums (digL x.f1)) ++ (⟨#[93]⟩ : ByteArray) = strOfNums (segP (segN x)) := by
    have e : segP (segN x) = [91] ++ digL x.f1 ++ [93] := by simp [segP, segN, h1]
    rw [e, strOfNums_append, strOfNums_append]
    rfl
   have hq := digL_len x.f1 hr.n0 hr.n1
   simp only [h1, if_true]
   refine Ev.bind (Ev.const (by unfold num_Digits.f; rw [if_pos ⟨hr.n0, hr.n1⟩])) ?_
   refine Ev.congr (fun k => ?_) (ih' _ hp)
   rw [if_pos (by rw [strOfNums_size]; omega), if_pos (by rw [ByteArray.size_append, lit1, strOfNums_size]; omega), if_pos (by rw [ByteArray.size_append, ByteArray.size_append, lit1, lit1, strOfNums_size]; omega)]
  simp only [h1, if_false]
  by_cases h2 : x.f0 = 2
  ·have hp : ((((⟨#[91]⟩ : ByteArray) ++ strOfNums (endP x.f2 0)) ++ (⟨#[58]⟩ : ByteArray)) ++ strOfNums (endP x.f3 9223372036854775807)) ++ (⟨#[93]⟩ : ByteArray) = strOfNums (segP (segN x)) := by
    have e : segP (segN x) = [91] ++ endP x.f2 0 ++ [58] ++ endP x.f3 9223372036854775807 ++ [93] := by simp [segP, segN, h2]
    rw [e, strOfNums_append, strOfNums_append, strOfNums_append, strOfNums_append]
    rfl
   have hq := endP_len x.f2 0 hr.lo0 hr.lo1
   have hq2 := endP_len x.f3 9223372036854775807 hr.hi0 hr.hi1
   simp only [h2, if_true]
   refine Ev.bind (Ev.const (end_some x.f2 0 hr.lo0 hr.lo1)) ?_
   have k1 : 1 + (strOfNums (endP x.f2 0)).size ≤ 9223372036854775807 := by rw [strOfNums_size]; omega
   have k2 : ((⟨#[91]⟩ : ByteArray) ++ strOfNums (endP x.f2 0)).size + 1 ≤ 9223372036854775807 := by rw [ByteArray.size_append, lit1, strOfNums_size]; omega
   simp only [k1, k2, if_true]
   refine Ev.bind (Ev.const (end_some x.f3 _ hr.hi0 hr.hi1)) ?_
   refine Ev.congr (fun k => ?_) (ih' _ hp)
   rw [if_pos (by simp only [ByteArray.size_append, lit1, strOfNums_size]; omega), if_pos (by simp only [ByteArray.size_append, lit1, strOfNums_size]; omega), if_pos (by simp only [ByteArray.size_append, lit1, strOfNums_size]; omega)]
  simp only [h2, if_false]
  by_cases h3 : x.f0 = 3
  ·have hp : (⟨#[91, 42, 93]⟩ : ByteArray) = strOfNums (segP (segN x)) := by
    have e : segP (segN x) = [91, 42, 93] := by simp [segP, segN, h3]
    rw [e]
    rfl
   simp only [h3, if_true]
   refine Ev.congr (fun k => ?_) (ih' _ hp)
   rw [if_pos (by omega)]
  simp only [h3, if_false]
  by_cases h4 : x.f0 = 4
  ·have hp : (⟨#[46, 46]⟩ : ByteArray) = strOfNums (segP (segN x)) := by
    have e : segP (segN x) = [46, 46] := by simp [segP, segN, h4]
    rw [e]
    rfl
   simp only [h4, if_true]
   refine Ev.congr (fun k => ?_) (ih' _ hp)
   rw [if_pos (by omega)]
  simp only [h4, if_false]
  by_cases h5 : x.f0 = 5
  ·have hp : ((⟨#[91, 63, 40]⟩ : ByteArray) ++ x.f4) ++ (⟨#[41, 93]⟩ : ByteArray) = strOfNums (segP (segN x)) := by
    have e : segP (segN x) = [91, 63, 40] ++ bytesOf x.f4 ++ [41, 93] := by simp [segP, segN, h5]
    rw [e, strOfNums_append, strOfNums_append, strOfNums_bytesOf]
    rfl
   simp only [h5, if_true]
   refine Ev.congr (fun k => ?_) (ih' _ hp)
   rw [if_pos (by omega), if_pos (by simp only [ByteArray.size_append, lit3]; omega), if_pos (by simp only [ByteArray.size_append, lit3, lit2]; omega)]
  ·have hp : (⟨#[]⟩ : ByteArray) = strOfNums (segP (segN x)) := by
    have e : segP (segN x) = [] := by simp [segP, segN, h0, h1, h2, h3, h4, h5]
    rw [e]
    rfl
   simp only [h5, if_false]
   have := ih' _ hp
   rw [bytes_add_nil] at this
   exact this
theorem rprint_ev : Ev (fun k => route_Print.f k L) (strOfNums (routeP (L.map segN))) := by
 unfold route_Print.f
 have := rprint_loop L hL hx _ 0 (⟨#[36]⟩ : ByteArray) (Nat.zero_le _) rfl (by decide)
 rw [List.drop_zero] at this
 have e : strOfNums (routeP (L.map segN)) = (⟨#[36]⟩ : ByteArray) ++ strOfNums ((L.map segN).flatMap segP) := by
  have : routeP (L.map segN) = [36] ++ (L.map segN).flatMap segP := rfl
  rw [this, strOfNums_append]
  rfl
 rw [e]
 exact this
end
theorem i_next2 {i n : Nat} (h : i < n) (hn : n ≤ 9223372036854775807) : wrap64 ((i : Int) + 1) = ((i + 1 : Nat) : Int) := by unfold wrap64; omega
theorem same_loop (L : List S83) (hL : L.length ≤ 9223372036854775807) (d : Nat) : ∀ i : Nat, i ≤ L.length → L.length - i = d → Ev (fun k => placketref16_Same.l0 k L L (L.length : Int) (i : Int)) true := by
 induction d with
 | zero =>
  intro i hi hd
  refine Ev.succ ?_
  refine Ev.congr (fun k => ?_) (Ev.now _)
  simp only [placketref16_Same.l0]
  rw [if_neg (by omega)]
 | succ d ih =>
  intro i hi hd
  have hlt : i < L.length := by omega
  have hn := i_next2 (n := L.length) hlt (by omega)
  have c1 : (i : Int) < (L.length : Int) := by omega
  have c2 : (0 : Int) ≤ (i : Int) := by omega
  refine Ev.succ ?_
  refine Ev.congr (fun k => ?_) (ih (i + 1) (by omega) (by omega))
  simp only [placketref16_Same.l0, c1, c2, if_true, hn]
  rw [if_neg (by simp)]
theorem same_ev (L : List S83) (hL : L.length ≤ 9223372036854775807) : Ev (fun k => placketref16_Same.f k L L) true := by
 refine Ev.congr (fun k => ?_) (same_loop L hL _ 0 (Nat.zero_le _) rfl)
 simp only [placketref16_Same.f, if_true]
 rfl
theorem wrong_fine (x : Seg) (hf : Fine x) (hs : x.text.length ≤ 1048576) : wrongC (segS x) = 0 := by
 have hb := bytesOf_strOfNums x.text hf.bytes
 have hnil : ∀ t : List Int, t = [] → strOfNums t = ⟨#[]⟩ := fun b e => by rw [e]; rfl
 unfold wrongC segS
 simp only [hb]
 rcases hf.kinds with ⟨h0, hz⟩ | ⟨h1, a, b, c⟩ | ⟨h2, a, b⟩ | ⟨h3, a, b, c, d⟩ | ⟨h5, a, b, c, ts, g1, g2, g3, g4⟩
 ·rw [if_neg (by omega), if_pos h0, if_pos hz]
 ·rw [if_neg (by omega), if_neg (by omega), if_pos h1, if_pos ⟨a, b, hnil _ c⟩]
 ·rw [if_neg (by omega), if_neg (by omega), if_neg (by omega), if_pos h2, if_pos ⟨a, hnil _ b⟩]
 ·rw [if_neg (by omega), if_neg (by omega), if_neg (by omega), if_neg (by omega), if_pos h3, if_pos ⟨a, b, c, hnil _ d⟩]
 ·have ha : allR x.text = .inl ts := by
   unfold allR
   rw [if_neg (by omega), g1]
  have hbal : balC x.text = true := by
   unfold balC
   rw [ha]
   simp only []
   rw [if_neg g2, if_pos g3, g4]
  rw [if_pos h5, if_pos hbal, if_pos ⟨a, b, c⟩]
theorem checkF_none : ∀ (l : List S83) (i : Int), checkF l i = none ↔ ∀ x ∈ l, wrongC x = 0 := by
 intro l
 induction l with
 | nil => intro i; simp [checkF]
 | cons x l ih =>
  intro i
  simp only [checkF, List.forall_mem_cons]
  by_cases h : wrongC x = 0
  ·rw [if_pos h, ih]
   exact ⟨fun k => ⟨h, k⟩, fun k => k.2⟩
  ·rw [if_neg h]
   constructor
   ·intro k; simp at k
   ·intro k; exact absurd k.1 h
theorem checkC_none (l : List S83) : checkC l = none ↔ l.length ≤ 32 ∧ ∀ x ∈ l, wrongC x = 0 := by
 unfold checkC
 by_cases h : l.length > 32
 ·rw [if_pos h]
  constructor
  ·intro k; simp at k
  ·intro k; omega
 ·rw [if_neg h, checkF_none]
  exact ⟨fun k => ⟨by omega, k⟩, fun k => k.2⟩
theorem route_len (b : Nat) : ∀ r : List Seg, (∀ x ∈ r, (segP x).length ≤ b) → (routeP r).length ≤ 1 + r.length * b := by
 have : ∀ r : List Seg, (∀ x ∈ r, (segP x).length ≤ b) → (r.flatMap segP).length ≤ r.length * b := by
  intro r
  induction r with
  | nil => intro _; simp
  | cons x r ih =>
   intro h
   have h1 := h x (by simp)
   have h2 := ih (fun y hy => h y (by simp [hy]))
   rw [List.flatMap_cons, List.length_append, List.length_cons, Nat.succ_mul]
   omega
 intro r h
 have := this r h
 simp only [routeP, List.length_cons]
 omega
theorem fine_len (x : Seg) (hf : Fine x) : (segP x).length ≤ 4 * x.text.length + 50 ∧ (x.kind ≠ 0 → (segP x).length ≤ x.text.length + 50) := segP_len x hf.n0 hf.n1 hf.lo0 hf.lo1 hf.hi0 hf.hi1
theorem inb_app {a b : List Int} (ha : InB a) (hb : InB b) : InB (a ++ b) := fun x hx => by
 rcases List.mem_append.1 hx with h | h
 ·exact ha x h
 ·exact hb x h
theorem inb_cons {c : Int} {b : List Int} (h0 : 0 ≤ c) (h1 : c ≤ 255) (hb : InB b) : InB (c :: b) := fun x hx => by
 rcases List.mem_cons.1 hx with h | h
 ·rw [h]; exact ⟨h0, h1⟩
 ·exact hb x h
theorem endP_inb (n but : Int) : InB (endP n but) := by
 unfold endP
 split
 ·exact inb_nil
 ·exact digL_bytes n
theorem segP_inb (x : Seg) (h : InB x.text) : InB (segP x) := by
 have one : ∀ c : Int, 0 ≤ c → c ≤ 255 → InB [c] := fun c h0 h1 => inb_cons h0 h1 inb_nil
 unfold segP
 repeat' split
 ·exact inb_cons (by decide) (by decide) h
 ·exact inb_cons (by decide) (by decide) (inb_app (quoteL_bytes _ h) (one _ (by decide) (by decide)))
 ·exact inb_cons (by decide) (by decide) (inb_app (digL_bytes _) (one _ (by decide) (by decide)))
 ·exact inb_cons (by decide) (by decide) (inb_app (endP_inb _ _) (inb_cons (by decide) (by decide) (inb_app (endP_inb _ _) (one _ (by decide) (by decide)))))
 ·exact inb_cons (by decide) (by decide) (inb_cons (by decide) (by decide) (one _ (by decide) (by decide)))
 ·exact inb_cons (by decide) (by decide) (one _ (by decide) (by decide))
 ·exact inb_cons (by decide) (by decide) (inb_cons (by decide) (by decide) (inb_cons (by decide) (by decide) (inb_app h (inb_cons (by decide) (by decide) (one _ (by decide) (by decide))))))
 ·exact inb_nil
theorem routeP_inb : ∀ r : List Seg, (∀ x ∈ r, InB x.text) → InB (routeP r) := by
 intro r h
 refine inb_cons (by decide) (by decide) ?_
 intro c hc
 obtain ⟨x, h1, h2⟩ := List.mem_flatMap.1 hc
 exact segP_inb x (h x h1) c h2
end Go.Proofs.YtkbjblhompkdkaaDoor.Pure
namespace Go.Proofs.YtkbjblhompkdkaaDoor
open Go.RowKit Go.Proofs.YtkbjblhompkdkaaDoor.PA Go.Proofs.YtkbjblhompkdkaaDoor.PB Go.Proofs.YtkbjblhompkdkaaDoorW.PrintWords Go.Proofs.YtkbjblhompkdkaaDoorW.PrintLast
set_option linter.unusedVariables false
set_option linter.unusedSimpArgs false
theorem same_c {k n c d : Nat} {A B : Option Addr} {l : List S83} {w : World} (hl : l.length = n) (h0 : Kd.C k83 w A n l) (hc : n ≤ c) (h1 : Kd.C k83 w B n l) (hd : n ≤ d) (h : placketref16_Same.f k l l = some true) :
  Calls Tryd.prog 37 #[.slice A n c, .slice B n d] w fun e w' => e = .returned (.bool true) ∧ Drawn0 w w' := by
 subst hl
 exact placketref16_Same.calls k A c l B d l true w h0 hc h1 hd h
end Go.Proofs.YtkbjblhompkdkaaDoor
namespace Go.Proofs.YtkbjblhompkdkaaDoor
open Go.RowKit Go.Proofs.YtkbjblhompkdkaaDoor.PA Go.Proofs.YtkbjblhompkdkaaDoor.PB Go.Proofs.YtkbjblhompkdkaaDoorW.PrintWords Go.Proofs.YtkbjblhompkdkaaDoorW.PrintLast
set_option linter.unusedVariables false
set_option linter.unusedSimpArgs false
theorem segN_segS (x : Pure.Seg) (h : Pure.InB x.text) : Pure.segN (segS x) = x := by simp [Pure.segN, segS, Pure.bytesOf_strOfNums _ h]
theorem segN_map (r : List Pure.Seg) (h : ∀ x ∈ r, Pure.InB x.text) : (r.map segS).map Pure.segN = r := by
 induction r with
 | nil => rfl
 | cons x r ih => rw [List.map_cons, List.map_cons, ih (fun y hy => h y (by simp [hy])), segN_segS x (h x (by simp))]
theorem again_pure (s : ByteArray) (hs : s.size ≤ 3000) {r : List Pure.Seg} (h : Pure.parseC (bytesOf s) = .inl r) :
  (∀ x ∈ r.map segS, x.f4.size ≤ 1048576 ∧ Pure.Rng x) ∧ (r.map segS).map Pure.segN = r ∧ Pure.parseC (bytesOf (strOfNums (Pure.routeP r))) = .inl r ∧ (strOfNums (Pure.routeP r)).size ≤ 1048576 ∧ checkC (r.map segS) = none := by
 obtain ⟨hf, hl⟩ := Pure.parse_fine (Pure.bytesOf_range s) h
 have hfi : ∀ x ∈ r, Pure.Fine x := fun x hx => (hf x hx).1
 have hin := Pure.routeP_inb r (fun x hx => (hfi x hx).bytes)
 rw [Pure.bytesOf_strOfNums _ hin, strOfNums_size]
 have htx : ∀ x ∈ r, x.text.length ≤ 15000 := fun x hx => by
  have := (hf x hx).2.1
  rw [bytesOf_length] at this
  omega
 refine ⟨?_, segN_map r (fun x hx => (hfi x hx).bytes), Pure.parse_again hfi hl, ?_, ?_⟩
 ·intro y hy
  obtain ⟨x, hx, rfl⟩ := List.mem_map.1 hy
  have h1 := htx x hx
  have h2 := hfi x hx
  exact ⟨by simp only [segS, strOfNums_size]; omega, ⟨h2.n0, h2.n1, h2.lo0, h2.lo1, h2.hi0, h2.hi1⟩⟩
 ·have := Pure.route_len 16000 r (by
   intro x hx
   obtain ⟨h1, h2⟩ := Pure.fine_len x (hfi x hx)
   have h3 := htx x hx
   by_cases hk : x.kind = 0
   ·have := (hf x hx).2.2 hk
    rw [bytesOf_length] at this
    omega
   ·have := h2 hk
    omega)
  omega
 ·rw [Pure.checkC_none]
  refine ⟨by rw [List.length_map]; exact hl, fun y hy => ?_⟩
  obtain ⟨x, hx, rfl⟩ := List.mem_map.1 hy
  exact Pure.wrong_fine x (hfi x hx) (by have := htx x hx; omega)
theorem rprint_c {k n c : Nat} {A : Option Addr} {l : List S83} {r : ByteArray} {w : World} (hl : l.length = n) (h0 : Kd.C k83 w A n l) (hc : n ≤ c) (h : route_Print.f k l = some r) :
  Calls Tryd.prog 36 #[.slice A n c] w fun e w' => e = .returned (.string r) ∧ Below w.heap.size w w' := by
 subst hl
 exact route_Print.calls k A c l r w h0 hc h
theorem check_c {n c : Nat} {A : Option Addr} {l : List S83} {w : World} (hl : l.length = n) (hs : Signs w) (h0 : Kd.C k83 w A n l) (hc : n ≤ c) (htx : ∀ x ∈ l, x.f4.size ≤ 140737488351232) (h : checkC l = none) :
  Calls Tryd.prog 34 #[.slice A n c] w fun e w' => e = .returned .nilIface ∧ Below w.heap.size w w' := by
 subst hl
 have := check_calls A c l w hs h0 hc htx
 rw [h] at this
 exact this
set_option maxRecDepth 100000 in
set_option maxHeartbeats 8000000 in
theorem routeAgain_walk (s : ByteArray) (w : World) (hs : Signs w) (hg : Laid w) (hsz : s.size ≤ 140737488351232) :
  Calls Tryd.prog 12 #[.string s] w fun e w' => e = .returned (.bool true) ∧ Below w.heap.size w w' := by
 have HS := Lib.hid hs
 have HG := Lib.hid hg
 clear hs hg
 go_enter Tryd.func12, Tryd.ntmps12
 go_wp2_with fail
 refine (live16_calls _ HS.out).mono ?_
 rintro e w1 ⟨rfl, hb1⟩
 have HB := Lib.hid hb1
 clear hb1
 by_cases hbig : (s.size : Int) > 3000
 ·have b1 : decide ((3000 : Int) < (s.size : Int)) = true := decide_eq_true hbig
  have b2 : decide (3000 < s.size) = true := decide_eq_true (by omega)
  go_wp2_with fail
  refine (live16_calls _ (HS.out.below HB.out (Nat.le_refl _))).mono ?_
  rintro e w2 ⟨rfl, hb2⟩
  replace HB := Lib.hid (below_then HB.out HB.out.size hb2)
  clear hb2
  go_wp2
  go_ret
  exact ⟨rfl, HB.out⟩
 have b1 : decide ((3000 : Int) < (s.size : Int)) = false := decide_eq_false hbig
 have b2 : decide (3000 < s.size) = false := decide_eq_false (by omega)
 have HSM := Lib.hid (show s.size ≤ 3000 by omega)
 clear hbig
 go_wp2_with fail
 refine (parse_calls s w1 (HS.out.below HB.out (Nat.le_refl _)) hsz (by have := HSM.out; omega)).mono ?_
 rintro e w2 ⟨hp, hb2⟩
 replace HB := Lib.hid (below_then HB.out HB.out.size hb2)
 clear hb2 b1 b2
 cases hpar : Pure.parseC (bytesOf s) with
 | inr pc =>
  obtain ⟨p, cd⟩ := pc
  have hple : p ≤ s.size := by have := Pure.parse_bad hpar; rw [bytesOf_length] at this; exact this
  rw [hpar] at hp
  obtain ⟨v, rfl, he⟩ := hp
  obtain ⟨T, x, rfl⟩ := he.iface (.inl (by simp))
  have HE := Lib.hid he
  clear he hpar
  have b3 : decide ((p : Int) ≤ (s.size : Int)) = true := decide_eq_true (by omega)
  have b4 : decide ((0 : Int) ≤ (p : Int)) = true := decide_eq_true (by omega)
  have b5 : decide (p ≤ s.size) = true := decide_eq_true hple
  go_wp2_with fail
  refine (last_calls (p : Int) [] (some cd) _ w2 (HG.out.below HB.out (Nat.le_refl _)) HE.out (by decide)).mono ?_
  rintro e w3 ⟨rfl, hb3⟩
  replace HB := Lib.hid (below_then HB.out HB.out.size hb3)
  clear hb3
  go_wp2
  go_ret
  exact ⟨rfl, HB.out⟩
 | inl r =>
  obtain ⟨hrg, hmm, hpp, hsp, hck⟩ := again_pure s HSM.out hpar
  rw [hpar] at hp
  obtain ⟨A, c, rfl, hc, hC⟩ := hp
  have hlr : (r.map segS).length = r.length := List.length_map _
  have hmax := Kd.C_max hC
  obtain ⟨kp, hkp⟩ := Pure.rprint_ev (r.map segS) (by have := ((Pure.checkC_none _).1 hck).1; omega) hrg
  have hkp2 := hkp kp (Nat.le_refl _)
  simp only [hmm] at hkp2
  obtain ⟨km, hkm⟩ := Pure.same_ev (r.map segS) (by rw [hlr]; exact hmax)
  have HP := Lib.hid hkp2
  have HSM2 := Lib.hid (hkm km (Nat.le_refl _))
  have HC := Lib.hid hC
  have HCP := Lib.hid hc
  have HPP := Lib.hid hpp
  have HSP := Lib.hid hsp
  have HCK := Lib.hid hck
  have HRG := Lib.hid hrg
  clear hpar hkp hkp2 hkm hC hc hpp hsp hck hrg hmm hmax
  go_wp2_with fail
  refine (rprint_c hlr HC.out HCP.out HP.out).mono ?_
  rintro e w3 ⟨rfl, hb3⟩
  replace HB := Lib.hid (below_then HB.out HB.out.size hb3)
  replace HC := Lib.hid (Kd.C_below HC.out hb3)
  clear hb3 HP
  go_wp2_with fail
  refine (parse_calls _ w3 (HS.out.below HB.out (Nat.le_refl _)) (by have := HSP.out; omega) HSP.out).mono ?_
  rintro e w4 ⟨hp, hb4⟩
  rw [HPP.out] at hp
  obtain ⟨A2, c2, rfl, hc2, hC2⟩ := hp
  replace HB := Lib.hid (below_then HB.out HB.out.size hb4)
  replace HC := Lib.hid (Kd.C_below HC.out hb4)
  have HC2 := Lib.hid hC2
  have HCP2 := Lib.hid hc2
  clear hb4 hC2 hc2
  go_wp2_with fail
  refine (check_c hlr (HS.out.below HB.out (Nat.le_refl _)) HC.out HCP.out (fun x hx => by have := (HRG.out x hx).1; omega) HCK.out).mono ?_
  rintro e w5 ⟨rfl, hb5⟩
  replace HB := Lib.hid (below_then HB.out HB.out.size hb5)
  replace HC := Lib.hid (Kd.C_below HC.out hb5)
  replace HC2 := Lib.hid (Kd.C_below HC2.out hb5)
  clear hb5
  go_wp2_with fail
  refine (same_c hlr HC2.out HCP2.out HC.out HCP.out HSM2.out).mono ?_
  rintro e w6 ⟨rfl, hb6⟩
  replace HB := Lib.hid (below_then HB.out HB.out.size hb6.below)
  clear hb6
  go_wp2
  go_ret
  exact ⟨rfl, HB.out⟩
end Go.Proofs.YtkbjblhompkdkaaDoor
