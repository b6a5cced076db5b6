/- An argument that is a slice of tokens, opened to cells (after the guide's plain theorem on slices of structs). -/
import Derived.Test.YtkbjblhompkdkaaDoorLexRow
import Derived.Deep.Slices
import Derived.Deep.Fields
namespace Go.Proofs.YtkbjblhompkdkaaDoor.LexRow
open Go.ChangeShapes Go.WideShapes Go.Deep Go.ChangeAt Go.RowKit Go.Proofs.YtkbjblhompkdkaaDoor.PA Go.Proofs.YtkbjblhompkdkaaDoorW.PrintWords Go.Proofs.YtkbjblhompkdkaaDoorW.PrintLast
set_option linter.unusedVariables false
section
variable {H : Type} {enc : TypeId × Value → H} {P : Program} {w : World} {base : Nat} {spare : Nat → Bool} {held : Bool}
theorem open_fields {t e : TypeId} {fs : Array Field} {fuel : Nat} {cs : List Value} {x : DataW H × List MemPlace} (ht : P.underlying t = some (.slice e)) (he : P.underlying e = some (.struct fs))
    (hone : oneCellFields P fs = true) (hC : P.cellsOf e = fs.size) (h : DataW.trod enc P w base spare held fuel t cs = some x) :
    cs = [.slice none 0 0] ∨
    ∃ (a : Addr) (len cap : Nat), cs = [.slice (some a) len cap] ∧ len ≤ cap ∧ cap ≤ maxLen ∧
      ∀ i, i < len → ∃ n : Nat, ∀ (j : Nat) (f : Field), fs[j]? = some f → ∃ (v : Value) (y : DataW H × List MemPlace), w.cell? (a.add (i * fs.size + j)) = some v ∧ DataW.trod enc P w base spare held n f.type [v] = some y := by
  rcases open_slice ht h with h0 | ⟨a, len, cap, m, n, D, Pl, hcs, hb, hl, hm, hmm, hx, hi⟩
  · exact .inl h0.1
  · refine .inr ⟨a, len, cap, hcs, hl, hm, fun i hil => ?_⟩
    obtain ⟨cs', hc, ht'⟩ := hi i (by rw [hmm]; split <;> omega)
    rw [hC] at hc
    obtain ⟨ys, n', hn', hy, hlen, hyl, hf⟩ := DataW.trod_struct he ht'
    obtain ⟨_, hcl, hat⟩ := World.cells?_some hc
    refine ⟨n', fun j f hj => ?_⟩
    obtain ⟨ho, hk⟩ := hone_of hone j f hj
    have hjl : j < fs.size := (Array.getElem?_eq_some_iff.1 hj).1
    have hcell := hat j hjl
    have hv : cs'[j]? = some (cs'[j]'(by omega)) := List.getElem?_eq_getElem (by omega)
    have h1 := hf j f hj
    rw [ho, hk] at h1
    have hone' : (cs'.drop j).take 1 = [cs'[j]'(by omega)] := by
      rw [List.drop_eq_getElem_cons (by omega)]
      rfl
    rw [hone'] at h1
    have hys : ys[j]? = some (ys[j]'(by omega)) := List.getElem?_eq_getElem (by omega)
    refine ⟨_, _, ?_, h1.trans hys⟩
    rw [← Go.Deep.add_add, hcell, hv]
end
/-- A slice of structs of one shape (four numbers and a text) as the walks read it. -/
theorem C_structs {w : World} {a : Addr} {len : Nat} {l : List S24} (hl : l.length = len) (hm : len ≤ maxLen)
    (hc : ∀ j x, l[j]? = some x → w.cell? (a.add (j * 5 + 0)) = some (.int .i64 x.f0) ∧ w.cell? (a.add (j * 5 + 1)) = some (.int .i64 x.f1) ∧ w.cell? (a.add (j * 5 + 2)) = some (.int .i64 x.f2) ∧ w.cell? (a.add (j * 5 + 3)) = some (.int .i64 x.f3) ∧ w.cell? (a.add (j * 5 + 4)) = some (.string x.f4)) :
    Kd.C k24 w (some a) len l := by
  refine ⟨hl, Nat.le_trans hm (by decide), fun _ => ⟨a, rfl, fun j p hj => ⟨_, rfl, k24_mk w p, fun i u hu => ?_⟩⟩⟩
  obtain ⟨h0, h1, h2, h3, h4⟩ := hc j p hj
  match i, hu with
  | 0, hu => obtain rfl := Option.some.inj hu; exact h0
  | 1, hu => obtain rfl := Option.some.inj hu; exact h1
  | 2, hu => obtain rfl := Option.some.inj hu; exact h2
  | 3, hu => obtain rfl := Option.some.inj hu; exact h3
  | 4, hu => obtain rfl := Option.some.inj hu; exact h4
  | n + 5, hu => simp at hu
theorem choose_list {α : Type} {Q : Nat → α → Prop} (n : Nat) (h : ∀ i, i < n → ∃ x, Q i x) : ∃ l : List α, l.length = n ∧ ∀ j x, l[j]? = some x → Q j x := by
  induction n with
  | zero => exact ⟨[], rfl, fun j x h => by simp at h⟩
  | succ n ih =>
    obtain ⟨l, hl, hq⟩ := ih (fun i hi => h i (by omega))
    obtain ⟨x, hx⟩ := h n (by omega)
    refine ⟨l ++ [x], by simp [hl], fun j y hy => ?_⟩
    rcases Nat.lt_or_ge j l.length with hj | hj
    · rw [List.getElem?_append_left hj] at hy
      exact hq j y hy
    · rw [List.getElem?_append_right hj] at hy
      have hj0 : j - l.length = 0 := by
        rcases Nat.eq_zero_or_pos (j - l.length) with h0 | h0
        · exact h0
        · rw [List.getElem?_eq_none (by simp; omega)] at hy
          cases hy
      rw [hj0] at hy
      simp at hy
      subst hy
      have : j = n := by omega
      subst this
      exact hx
theorem open_toks {H : Type} {enc : TypeId × Value → H} {W : World} {base : Nat} {spare : Nat → Bool} {held : Bool} {fuel : Nat} {a : Option Addr} {len cap : Nat} {x : DataW H × List MemPlace}
    (h : DataW.trod enc Tryd.prog W base spare held fuel 34 (Value.slice a len cap).cells.toList = some x) :
    ∃ l : List S24, len = l.length ∧ Kd.C k24 W a l.length l ∧ l.length ≤ cap ∧ ∀ y ∈ l, -9223372036854775808 ≤ y.f3 ∧ y.f3 ≤ 9223372036854775807 := by
  rcases open_fields Tryd.underlying34 Tryd.underlying24 (by kernel_rfl) (by kernel_rfl) h with hcs | ⟨ad, len', cap', hcs, hl, hm, hf⟩
  · simp [Value.cells] at hcs
    obtain ⟨rfl, rfl, rfl⟩ := hcs
    exact ⟨[], rfl, Kd.C_nil _ _, Nat.le_refl _, by simp⟩
  · simp [Value.cells] at hcs
    obtain ⟨rfl, rfl, rfl⟩ := hcs
    obtain ⟨l, hll, hq⟩ := choose_list (Q := fun j (y : S24) => (W.cell? (ad.add (j * 5 + 0)) = some (.int .i64 y.f0) ∧ W.cell? (ad.add (j * 5 + 1)) = some (.int .i64 y.f1) ∧ W.cell? (ad.add (j * 5 + 2)) = some (.int .i64 y.f2) ∧ W.cell? (ad.add (j * 5 + 3)) = some (.int .i64 y.f3) ∧ W.cell? (ad.add (j * 5 + 4)) = some (.string y.f4)) ∧ -9223372036854775808 ≤ y.f3 ∧ y.f3 ≤ 9223372036854775807) len (fun i hi => by
      obtain ⟨n, hn⟩ := hf i hi
      obtain ⟨v0, y0, c0, t0⟩ := hn 0 _ rfl
      obtain ⟨v1, y1, c1, t1⟩ := hn 1 _ rfl
      obtain ⟨v2, y2, c2, t2⟩ := hn 2 _ rfl
      obtain ⟨v3, y3, c3, t3⟩ := hn 3 _ rfl
      obtain ⟨v4, y4, c4, t4⟩ := hn 4 _ rfl
      obtain ⟨n0, e0, -, -⟩ := DataW.trod_int Tryd.underlying3 t0
      obtain ⟨n1, e1, -, -⟩ := DataW.trod_int Tryd.underlying3 t1
      obtain ⟨n2, e2, -, -⟩ := DataW.trod_int Tryd.underlying3 t2
      obtain ⟨n3, e3, -, w3⟩ := DataW.trod_int Tryd.underlying2 t3
      obtain ⟨s4, e4, -⟩ := DataW.trod_string Tryd.underlying9 t4
      obtain rfl := List.head_eq_of_cons_eq e0
      obtain rfl := List.head_eq_of_cons_eq e1
      obtain rfl := List.head_eq_of_cons_eq e2
      obtain rfl := List.head_eq_of_cons_eq e3
      obtain rfl := List.head_eq_of_cons_eq e4
      exact ⟨⟨n0, n1, n2, n3, s4⟩, ⟨c0, c1, c2, c3, c4⟩, bounds_i64 w3⟩)
    subst hll
    exact ⟨l, rfl, C_structs rfl (Nat.le_trans hl hm) (fun j y hj => (hq j y hj).1), hl, fun y hy => by
      obtain ⟨j, hj, e⟩ := List.getElem_of_mem hy
      exact (hq j y (by rw [List.getElem?_eq_getElem hj, e])).2⟩
end Go.Proofs.YtkbjblhompkdkaaDoor.LexRow
