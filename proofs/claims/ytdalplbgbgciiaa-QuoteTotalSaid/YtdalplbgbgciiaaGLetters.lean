/- The bytes that have letters of their own behind a backslash, both ways: the contracts of two loops over a table of five. -/
import Derived.Test.YtdalplbgbgciiaaProg
import Derived.Test.YtdalplbgbgciiaaWMore
import Derived.Lib.Hide
namespace Go.Proofs.Ytdalplbgbgciiaa
open Go.RowKit Go.Proofs.YtdalplbgbgciiaaW.PrintWords Go.Proofs.YtdalplbgbgciiaaW.PrintLast Go.Proofs.YtdalplbgbgciiaaW.PrintMore
set_option linter.unusedVariables false
set_option linter.unusedSimpArgs false

set_option maxHeartbeats 1000000 in
theorem letters_any (w : World) : Calls Try.prog 35 #[] w fun e w' => e = .returned (.agg #[.int .u8 34, .int .u8 34, .int .u8 92, .int .u8 92, .int .u8 10, .int .u8 110, .int .u8 9, .int .u8 116, .int .u8 13, .int .u8 114]) ∧ Below w.heap.size w w' := by
  go_enter Try.func35, Try.ntmps35
  go_wp2
  exact bodyPost_ret (v := .agg #[.int .u8 34, .int .u8 34, .int .u8 92, .int .u8 92, .int .u8 10, .int .u8 110, .int .u8 9, .int .u8 116, .int .u8 13, .int .u8 114]) (by simp [results, Try.results35, go_sem]) rfl ⟨rfl, (Below.refl _ _).alloc (Nat.le_refl _) _⟩

def letterS (c : Int) : Int := if c = 34 then 34 else if c = 92 then 92 else if c = 10 then 110 else if c = 9 then 116 else if c = 13 then 114 else 0
def byLetterS (c : Int) : Int × Bool := if c = 47 then (47, true) else if c = 34 then (34, true) else if c = 92 then (92, true) else if c = 110 then (10, true) else if c = 116 then (9, true) else if c = 114 then (13, true) else (0, false)

theorem row_at0 (w : World) : (Instr.index 45 (.agg #[.int .u8 34, .int .u8 34, .int .u8 92, .int .u8 92, .int .u8 10, .int .u8 110, .int .u8 9, .int .u8 116, .int .u8 13, .int .u8 114]) (.int .i64 0)).run Try.prog w = .ok (.agg #[.int .u8 34, .int .u8 34]) w := by kernel_rfl
theorem row_at1 (w : World) : (Instr.index 45 (.agg #[.int .u8 34, .int .u8 34, .int .u8 92, .int .u8 92, .int .u8 10, .int .u8 110, .int .u8 9, .int .u8 116, .int .u8 13, .int .u8 114]) (.int .i64 1)).run Try.prog w = .ok (.agg #[.int .u8 92, .int .u8 92]) w := by kernel_rfl
theorem row_at2 (w : World) : (Instr.index 45 (.agg #[.int .u8 34, .int .u8 34, .int .u8 92, .int .u8 92, .int .u8 10, .int .u8 110, .int .u8 9, .int .u8 116, .int .u8 13, .int .u8 114]) (.int .i64 2)).run Try.prog w = .ok (.agg #[.int .u8 10, .int .u8 110]) w := by kernel_rfl
theorem row_at3 (w : World) : (Instr.index 45 (.agg #[.int .u8 34, .int .u8 34, .int .u8 92, .int .u8 92, .int .u8 10, .int .u8 110, .int .u8 9, .int .u8 116, .int .u8 13, .int .u8 114]) (.int .i64 3)).run Try.prog w = .ok (.agg #[.int .u8 9, .int .u8 116]) w := by kernel_rfl
theorem row_at4 (w : World) : (Instr.index 45 (.agg #[.int .u8 34, .int .u8 34, .int .u8 92, .int .u8 92, .int .u8 10, .int .u8 110, .int .u8 9, .int .u8 116, .int .u8 13, .int .u8 114]) (.int .i64 4)).run Try.prog w = .ok (.agg #[.int .u8 13, .int .u8 114]) w := by kernel_rfl
theorem row_at (i : Nat) (hi : i < 5) (x y : Int) (h : ([((34 : Int), (34 : Int)), (92, 92), (10, 110), (9, 116), (13, 114)] : List (Int × Int))[i]? = some (x, y)) (w : World) :
    (Instr.index 45 (.agg #[.int .u8 34, .int .u8 34, .int .u8 92, .int .u8 92, .int .u8 10, .int .u8 110, .int .u8 9, .int .u8 116, .int .u8 13, .int .u8 114]) (.int .i64 (i : Int))).run Try.prog w = .ok (.agg #[.int .u8 x, .int .u8 y]) w := by
  match i, hi with
  | 0, _ => simp at h; obtain ⟨rfl, rfl⟩ := h; exact row_at0 w
  | 1, _ => simp at h; obtain ⟨rfl, rfl⟩ := h; exact row_at1 w
  | 2, _ => simp at h; obtain ⟨rfl, rfl⟩ := h; exact row_at2 w
  | 3, _ => simp at h; obtain ⟨rfl, rfl⟩ := h; exact row_at3 w
  | 4, _ => simp at h; obtain ⟨rfl, rfl⟩ := h; exact row_at4 w

def lettersL : List (Int × Int) := [(34, 34), (92, 92), (10, 110), (9, 116), (13, 114)]
def Lets (r : Int) (e : Ending) : Prop := e = .returned (.int .u8 r)
/-- None of the letters ahead of place k is c. -/
def NotYet (c : Int) (k : Nat) : Prop := ∀ j p, j < k → lettersL[j]? = some p → p.1 ≠ c
theorem NotYet.start (c : Int) : NotYet c 0 := fun j p h => absurd h (by omega)
theorem NotYet.next {c : Int} {k : Nat} {x y : Int} (h : NotYet c k) (hk : lettersL[k]? = some (x, y)) (hx : ¬ x = c) : NotYet c (k + 1) := by
  intro j p hj hp
  rcases Nat.lt_or_eq_of_le (Nat.le_of_lt_succ hj) with h1 | rfl
  · exact h j p h1 hp
  · rw [hk] at hp
    obtain rfl := Option.some.inj hp
    exact hx
theorem NotYet.hit {c : Int} {k : Nat} {x y : Int} (h : NotYet c k) (hk : lettersL[k]? = some (x, y)) (hx : x = c) : letterS c = y := by
  subst hx
  match k, hk with
  | 0, hk => simp [lettersL] at hk; obtain ⟨rfl, rfl⟩ := hk; rfl
  | 1, hk => simp [lettersL] at hk; obtain ⟨rfl, rfl⟩ := hk; rfl
  | 2, hk => simp [lettersL] at hk; obtain ⟨rfl, rfl⟩ := hk; rfl
  | 3, hk => simp [lettersL] at hk; obtain ⟨rfl, rfl⟩ := hk; rfl
  | 4, hk => simp [lettersL] at hk; obtain ⟨rfl, rfl⟩ := hk; rfl
  | n + 5, hk => simp [lettersL] at hk
theorem NotYet.none_ {c : Int} (h : NotYet c 5) : letterS c = 0 := by
  have h0 := h 0 (34, 34) (by omega) rfl
  have h1 := h 1 (92, 92) (by omega) rfl
  have h2 := h 2 (10, 110) (by omega) rfl
  have h3 := h 3 (9, 116) (by omega) rfl
  have h4 := h 4 (13, 114) (by omega) rfl
  simp only [] at h0 h1 h2 h3 h4
  unfold letterS
  rw [if_neg (Ne.symm h0), if_neg (Ne.symm h1), if_neg (Ne.symm h2), if_neg (Ne.symm h3), if_neg (Ne.symm h4)]

set_option maxHeartbeats 2000000 in
theorem letter_any (c : Int) (w : World) : Calls Try.prog 27 #[.int .u8 c] w fun e w' => Lets (letterS c) e ∧ Below w.heap.size w w' := by
  go_enter Try.func27, Try.ntmps27
  go_wp2_with (go_at_call 35; refine (letters_any _).mono ?_; rintro e w1 ⟨rfl, hb⟩)
  go_loopw [6] (fun i wr => ∃ k : Nat, k ≤ 5 ∧ i = .int .i64 (k : Int) ∧ Hid (NotYet c k) ∧ Below w.heap.size w wr) (fun i _ => 5 - (intOf i).toNat)
  case atStart => exact ⟨0, by omega, rfl, NotYet.start c, hb⟩
  case round =>
    obtain ⟨k, hk, rfl, hn, hbel⟩ := hrel
    clear hb
    by_cases h5 : k < 5
    · obtain ⟨⟨x, y⟩, hxy⟩ : ∃ p, lettersL[k]? = some p := ⟨_, List.getElem?_eq_getElem (show k < lettersL.length by simpa [lettersL] using h5)⟩
      have hi := row_at k h5 x y hxy
      have Hxy := Lib.hid hxy
      clear hxy
      have hb2 := Lib.hid (hbel.alloc hbel.size (.cells #[.int .u8 x, .int .u8 y] 44))
      clear hbel
      by_cases hx : x = c
      · have hit := Lib.hid (hn.out.hit Hxy.out hx)
        have hd : (x == c) = true := beq_iff_eq.2 hx
        clear hx
        go_wp2
        go_ret
        exact ⟨by unfold Lets; rw [hit.out]; rfl, hb2.out⟩
      · have hne := Lib.hid (hn.out.next Hxy.out hx)
        have hd : (x == c) = false := beq_eq_false_iff_ne.2 hx
        clear hx
        go_wp2
        go_roundw
        case rel => exact ⟨k + 1, by omega, by go_num, hne, hb2.out⟩
        case measure => simp [intOf]; omega
    · have h0 : letterS c = 0 := NotYet.none_ (by rw [show (5 : Nat) = k by omega]; exact hn.out)
      have H0 := Lib.hid h0
      clear h0
      go_wp2
      go_ret
      exact ⟨by unfold Lets; rw [H0.out]; rfl, hbel⟩


def Lets2 (r : Int × Bool) (e : Ending) : Prop := e = .returned (.tuple #[.int .u8 r.1, .bool r.2])
/-- None of the letters' own bytes ahead of place k is c. -/
def NotYet2 (c : Int) (k : Nat) : Prop := ∀ j p, j < k → lettersL[j]? = some p → p.2 ≠ c
theorem NotYet2.start (c : Int) : NotYet2 c 0 := fun j p h => absurd h (by omega)
theorem NotYet2.next {c : Int} {k : Nat} {x y : Int} (h : NotYet2 c k) (hk : lettersL[k]? = some (x, y)) (hx : ¬ y = c) : NotYet2 c (k + 1) := by
  intro j p hj hp
  rcases Nat.lt_or_eq_of_le (Nat.le_of_lt_succ hj) with h1 | rfl
  · exact h j p h1 hp
  · rw [hk] at hp
    obtain rfl := Option.some.inj hp
    exact hx
theorem NotYet2.hit {c : Int} {k : Nat} {x y : Int} (hk : lettersL[k]? = some (x, y)) (hx : y = c) : byLetterS c = (x, true) := by
  subst hx
  match k, hk with
  | 0, hk => simp [lettersL] at hk; obtain ⟨rfl, rfl⟩ := hk; rfl
  | 1, hk => simp [lettersL] at hk; obtain ⟨rfl, rfl⟩ := hk; rfl
  | 2, hk => simp [lettersL] at hk; obtain ⟨rfl, rfl⟩ := hk; rfl
  | 3, hk => simp [lettersL] at hk; obtain ⟨rfl, rfl⟩ := hk; rfl
  | 4, hk => simp [lettersL] at hk; obtain ⟨rfl, rfl⟩ := hk; rfl
  | n + 5, hk => simp [lettersL] at hk
theorem NotYet2.none_ {c : Int} (hc : ¬ c = 47) (h : NotYet2 c 5) : byLetterS c = (0, false) := by
  have h0 := h 0 (34, 34) (by omega) rfl
  have h1 := h 1 (92, 92) (by omega) rfl
  have h2 := h 2 (10, 110) (by omega) rfl
  have h3 := h 3 (9, 116) (by omega) rfl
  have h4 := h 4 (13, 114) (by omega) rfl
  simp only [] at h0 h1 h2 h3 h4
  unfold byLetterS
  rw [if_neg hc, if_neg (Ne.symm h0), if_neg (Ne.symm h1), if_neg (Ne.symm h2), if_neg (Ne.symm h3), if_neg (Ne.symm h4)]

set_option maxHeartbeats 2000000 in
theorem byLetter_any (c : Int) (w : World) : Calls Try.prog 31 #[.int .u8 c] w fun e w' => Lets2 (byLetterS c) e ∧ Below w.heap.size w w' := by
  by_cases h47 : c = 47
  · subst h47
    go_enter Try.func31, Try.ntmps31
    go_wp2
    go_ret2
    exact ⟨rfl, Below.refl _ _⟩
  have h47d : (c == 47) = false := beq_eq_false_iff_ne.2 h47
  have H47 := Lib.hid h47
  clear h47
  go_enter Try.func31, Try.ntmps31
  go_wp2_with (go_at_call 35; refine (letters_any _).mono ?_; rintro e w1 ⟨rfl, hb⟩)
  go_loopw [10] (fun i wr => ∃ k : Nat, k ≤ 5 ∧ i = .int .i64 (k : Int) ∧ Hid (NotYet2 c k) ∧ Below w.heap.size w wr) (fun i _ => 5 - (intOf i).toNat)
  case atStart => exact ⟨0, by omega, rfl, NotYet2.start c, hb⟩
  case round =>
    obtain ⟨k, hk, rfl, hn, hbel⟩ := hrel
    clear hb
    by_cases h5 : k < 5
    · obtain ⟨⟨x, y⟩, hxy⟩ : ∃ p, lettersL[k]? = some p := ⟨_, List.getElem?_eq_getElem (show k < lettersL.length by simpa [lettersL] using h5)⟩
      have hi := row_at k h5 x y hxy
      have Hxy := Lib.hid hxy
      clear hxy
      have hb2 := Lib.hid (hbel.alloc hbel.size (.cells #[.int .u8 x, .int .u8 y] 44))
      clear hbel
      by_cases hx : y = c
      · have hit := Lib.hid (NotYet2.hit Hxy.out hx)
        have hd : (y == c) = true := beq_iff_eq.2 hx
        clear hx
        go_wp2
        go_ret2
        exact ⟨by unfold Lets2; rw [hit.out]; rfl, hb2.out⟩
      · have hne := Lib.hid (hn.out.next Hxy.out hx)
        have hd : (y == c) = false := beq_eq_false_iff_ne.2 hx
        clear hx
        go_wp2
        go_roundw
        case rel => exact ⟨k + 1, by omega, by go_num, hne, hb2.out⟩
        case measure => simp [intOf]; omega
    · have h0 : byLetterS c = (0, false) := NotYet2.none_ H47.out (by rw [show (5 : Nat) = k by omega]; exact hn.out)
      have H0 := Lib.hid h0
      clear h0
      go_wp2
      go_ret2
      exact ⟨by unfold Lets2; rw [H0.out]; rfl, hbel⟩

/-- The letter of a byte behind a backslash; 0: it has none. -/
def quote_letter.f (a0 : Int) : Option Int := some (letterS a0)
theorem quote_letter.calls (a0 : Int) (r : Int) (w : World) (h : quote_letter.f a0 = some r) :
    Calls Try.prog 27 #[.int .u8 a0] w fun e w' => e = .returned (.int .u8 r) ∧ Below w.heap.size w w' := by
  obtain rfl := Option.some.inj h
  exact letter_any a0 w
/-- The byte of a letter behind a backslash. -/
def quote_byLetter.f (a0 : Int) : Option (Int × Bool) := some (byLetterS a0)
theorem quote_byLetter.calls (a0 : Int) (r1 : Int) (r2 : Bool) (w : World) (h : quote_byLetter.f a0 = some (r1, r2)) :
    Calls Try.prog 31 #[.int .u8 a0] w fun e w' => e = .returned (.tuple #[.int .u8 r1, .bool r2]) ∧ Below w.heap.size w w' := by
  have h' : byLetterS a0 = (r1, r2) := Option.some.inj h
  refine (byLetter_any a0 w).mono ?_
  rintro e w' ⟨he, hb⟩
  unfold Lets2 at he
  rw [h'] at he
  exact ⟨he, hb⟩

end Go.Proofs.Ytdalplbgbgciiaa
