/- What the tokens of a text are like: for the laws' walks. -/
import Derived.Test.YtkbjblhompkdkaaDoorLexAllW
import Derived.Test.YtkbjblhompkdkaaDoorLexBackP
namespace Go.Proofs.YtkbjblhompkdkaaDoor
open Go.RowKit Go.Proofs.YtkbjblhompkdkaaDoor.PA Go.Proofs.YtkbjblhompkdkaaDoorW.PrintWords Go.Proofs.YtkbjblhompkdkaaDoorW.PrintLast Go.Proofs.YtkbjblhompkdkaaDoorW.PrintMore

theorem allR_bad {l : List Int} {q : Nat} {c : Int} (h : allR l = .inr (q, c)) : q ≤ l.length ∧ c ≠ 0 := by
  unfold allR at h
  split at h
  · simp only [Sum.inr.injEq, Prod.mk.injEq] at h
    obtain ⟨rfl, rfl⟩ := h
    exact ⟨Nat.zero_le _, by decide⟩
  · exact Pure.allS_bad l _ 0 (Nat.zero_le _) (Nat.le_refl _) _ h
theorem follow_len {l : List Int} (ts : List Pure.Tok) : ∀ a, Pure.Follow l a ts → ts.length + a ≤ l.length := by
  induction ts with
  | nil => intro a h; have := h.1; simp; exact this
  | cons t ts ih =>
    intro a h
    obtain ⟨h1, h2, h3, _, h5⟩ := h
    have := ih t.end_ h5
    simp
    omega
theorem allR_ok {l : List Int} {ts : List Pure.Tok} (h : allR l = .inl ts) : Pure.Follow l 0 ts ∧ ts.length ≤ l.length ∧ Pure.allS l 0 = .inl ts := by
  unfold allR at h
  split at h
  · simp at h
  · have hf := Pure.allS_follow l ts 0 (Nat.zero_le _) h
    exact ⟨hf, by have := follow_len ts 0 hf; omega, h⟩

/-- The parts of a text's tokens. -/
theorem tok_parts {p : Nat} {l : List Int} {t : Pure.Tok} (hb : Pure.InB l) (h : Pure.tokAt p l = .inl t) : Pure.InB t.text ∧ t.text.length ≤ l.length ∧ -9223372036854775808 ≤ t.n ∧ t.n ≤ 9223372036854775807 := by
  match l with
  | [] => simp only [Pure.tokAt, Sum.inl.injEq] at h; subst h; simp [Pure.InB]
  | c :: r =>
    have hr1 := Pure.lead_le Pure.inName r
    have hub := Pure.unquoteL_bytes (c :: r) hb
    simp only [Pure.tokAt] at h
    split at h
    · split at h
      · simp only [Sum.inl.injEq] at h
        subst h
        exact ⟨hub.1, hub.2, by simp, by simp⟩
      · simp at h
    · split at h
      · simp only [Sum.inl.injEq] at h
        subst h
        refine ⟨fun x hx => ?_, by simp; omega, by simp, by simp⟩
        rcases List.mem_cons.1 hx with rfl | hx
        · exact hb _ (by simp)
        · exact hb x (by simp [List.mem_of_mem_take hx])
      · split at h
        · split at h
          · simp only [Sum.inl.injEq] at h
            subst h
            have := Pure.parseS_range (c :: r.take (Pure.lead Pure.digB r))
            exact ⟨fun x hx => by simp at hx, by simp, this.1, this.2⟩
          · simp at h
        · split at h
          · rename_i x hx
            obtain ⟨hp, hm⟩ := Pure.signAt_len hx
            have hpre := List.isPrefixOf_iff_prefix.1 hp
            simp only [Sum.inl.injEq] at h
            subst h
            exact ⟨fun z hz => hb z (hpre.subset hz), hpre.length_le, by simp, by simp⟩
          · simp at h
theorem toks_ok {l : List Int} (hb : Pure.InB l) {ts : List Pure.Tok} (h : Pure.allS l 0 = .inl ts) : ∀ t ∈ ts, Pure.InB t.text ∧ t.text.length ≤ l.length ∧ -9223372036854775808 ≤ t.n ∧ t.n ≤ 9223372036854775807 := by
  intro t ht
  obtain ⟨p, q, t, h1, h0⟩ := Pure.allS_good l ts 0 (Nat.zero_le _) h t ht
  obtain ⟨h2, h3, h4⟩ := tok_parts (hb.drop q) h1
  exact ⟨h2, by simp at h3; omega, h4⟩
end Go.Proofs.YtkbjblhompkdkaaDoor
