/- LexWords: the walk of lex.Signs and of the law by contracts. -/
import Derived.Test.YtkbjblhompkdkaaDoorLexPrintDoc
import Derived.Test.YtkbjblhompkdkaaDoorLexAllW
namespace Go.Proofs.YtkbjblhompkdkaaDoor
open Go.RowKit Go.Proofs.YtkbjblhompkdkaaDoor.PA Go.Proofs.YtkbjblhompkdkaaDoorW.PrintWords Go.Proofs.YtkbjblhompkdkaaDoorW.PrintLast Go.Proofs.YtkbjblhompkdkaaDoorW.PrintMore
set_option linter.unusedVariables false
set_option linter.unusedSimpArgs false

theorem info9 : (Tryd.prog.info? 9).map (fun i => (i.zero, i.size, i.bytes)) = some (some (.string ⟨#[]⟩), 1, 16) := by kernel_rfl
set_option maxRecDepth 100000 in
set_option maxHeartbeats 4000000 in
theorem signs_calls (w : World) (hs : Signs w) :
    Calls Tryd.prog 27 #[] w fun e w' => ∃ v, e = .returned v ∧ Kd.R Kd.string 9 w' w.heap.size (fun _ => True) v signsB ∧ Below w.heap.size w w' := by
  have HS := Lib.hid hs
  clear hs
  go_enter Tryd.func27, Tryd.ntmps27
  go_wp2_with (first | ((with_reducible refine gate_dst (N := 4) rfl ?_); refine Kd.event_run rfl (v := tableV) (table_run _ _ rfl _ HS.out) ?_))
  go_loopg [1, 5] 23 (fun k vo vi wr => ∃ i : Nat, vi = .int .i64 (i : Int) ∧ i ≤ 23 ∧ Below w.heap.size w wr ∧ Kd.R Kd.string 9 wr w.heap.size (fun _ => True) vo (signsB.take i) ∧ k + i = 23)
  case atStart => exact ⟨0, rfl, Nat.zero_le _, Below.refl _ _, Kd.R_nil _ _ _ _ _, rfl⟩
  case round =>
    obtain ⟨i, rfl, hi, hB, hR, hk⟩ := hrel
    have HB := Lib.hid hB
    have HO := Lib.hid hR
    clear hB hR
    by_cases hlt : i < 23
    · obtain ⟨y, hy⟩ : ∃ y, signsB[i]? = some y := ⟨_, List.getElem?_eq_getElem (show i < signsB.length by simpa [signsB] using hlt)⟩
      have hix := table_at i hlt y hy
      have HT := Lib.hid (show signsB.take (i + 1) = signsB.take i ++ [y] by rw [List.take_add_one, hy]; rfl)
      have HLN := Lib.hid (show (signsB.take i).length ≤ 23 by rw [List.length_take]; omega)
      clear hy
      generalize signsB.take i = L at *
      go_wp2_with (first | ((with_reducible refine gate_builtin (b := .append) (xs := #[.tmp 8, .tmp 10]) rfl ?_); at_builtin; refine Kd.R_append Kd.string (w0 := w) w.heap.size rfl (.tmp 8) (.tmp 10) 47 9 (.string ⟨#[]⟩) 16 rfl Tryd.underlying47 info9 rfl (by decide) (by omega) u1 L y [.string y] (fun _ => True) (fun _ => False) rfl (by first | (go_simp; done) | (go_simp; rfl)) ?aP (fun _ hk => hk.elim) ?aF ?aO ?aB ?aS ?aL ?_; (case aP => exact rfl); (case aB => exact HB.out); (case aF => exact (fun _ _ => trivial)); (case aO => exact HO.out); (case aS => exact HB.out.size); (case aL => have := HLN.out; omega); intro v9 w9 ho hb hg hat; have HO9 := Lib.hid ho; have HB9 := Lib.hid hb; clear hat hg ho hb))
      go_roundg (gk - 1)
      case measure => omega
      case rel => exact ⟨i + 1, by go_num, by omega, HB9.out, by rw [HT.out]; exact HO9.out, by omega⟩
    · have hi23 : i = 23 := by omega
      subst hi23
      go_wp2
      go_ret
      exact ⟨_, rfl, HO.out, HB.out⟩
theorem words_loop (L : List ByteArray) (hL : L.length ≤ 140737488351232) (d : Nat) : ∀ i : Nat, i ≤ L.length → L.length - i = d → Ev (fun k => placketref09_Words.l0 k L L (L.length : Int) (i : Int)) true := by
  induction d with
  | zero =>
    intro i hi hd
    refine Pure.Ev.succ ?_
    refine Ev.congr (f := fun _ => some true) (fun k => ?_) (Ev.now _)
    simp only [placketref09_Words.l0]
    rw [if_neg (by omega)]
  | succ d ih =>
    intro i hi hd
    refine Pure.Ev.succ ?_
    refine Ev.congr (fun k => ?_) (ih (i + 1) (by omega) (by omega))
    simp only [placketref09_Words.l0]
    rw [if_pos (by omega), if_pos (by omega), if_pos (by omega), if_pos (by omega), if_pos trivial, Pure.i_next (n := L.length) (by omega) hL]
theorem words_ev : Ev (fun k => placketref09_Words.f k signsB signsB) true := by
  unfold placketref09_Words.f
  simp only [if_true]
  exact words_loop signsB (by decide) _ 0 (Nat.zero_le _) rfl
theorem words_c {k n c0 c1 : Nat} {A0 A1 : Option Addr} {l : List ByteArray} {w : World} (hl : l.length = n) (h0 : Kd.C Kd.string w A0 n l) (hc0 : n ≤ c0) (h1 : Kd.C Kd.string w A1 n l) (hc1 : n ≤ c1) (h : placketref09_Words.f k l l = some true) :
    Calls Tryd.prog 26 #[.slice A0 n c0, .slice A1 n c1] w fun e w' => e = .returned (.bool true) ∧ Drawn0 w w' := by
  subst hl
  exact placketref09_Words.calls k A0 c0 l A1 c1 l true w h0 hc0 h1 hc1 h
theorem refblank13_some (c : Int) : placketref13_Blank.f c = some (Pure.blank c) := by
  unfold placketref13_Blank.f Pure.blank
  by_cases h1 : c = 32
  · simp [h1]
  by_cases h2 : c = 9
  · simp [h2]
  by_cases h3 : c = 10
  · simp [h3]
  by_cases h4 : c = 13
  · simp [h4]
  simp [h1, h2, h3, h4]

set_option maxRecDepth 100000 in
set_option maxHeartbeats 8000000 in
theorem lexWords_walk (c : Int) (A : Option Addr) (cap : Nat) (l : List S24) (w : World) (hs : Signs w) (hg : Laid w) (hC : Kd.C k24 w A l.length l) (hcap : l.length ≤ cap)
    (hin : ∀ x ∈ l, -9223372036854775808 ≤ x.f3 ∧ x.f3 ≤ 9223372036854775807) :
    Calls Tryd.prog 8 #[.int .u8 c, .slice A l.length cap] w fun e w' => e = .returned (.bool true) ∧ Below w.heap.size w w' := by
  have hlen := Kd.C_max hC
  have HS := Lib.hid hs
  have HG := Lib.hid hg
  have HC := Lib.hid hC
  have HCP := Lib.hid hcap
  have HI := Lib.hid hin
  clear hs hg hC hcap hin
  go_enter Tryd.func8, Tryd.ntmps8
  go_wp2_with fail
  refine (live_calls w HS.out HG.out).mono ?_
  rintro e w1 ⟨rfl, hb1⟩
  have HB1 := Lib.hid hb1
  have HC1 := Lib.hid (Kd.C_below HC.out hb1)
  clear hb1 HC
  by_cases hbig : (l.length : Int) > 100
  · go_wp2_with fail
    refine (live_calls _ (HS.out.below HB1.out (Nat.le_refl _)) (HG.out.below HB1.out (Nat.le_refl _))).mono ?_
    rintro e w2 ⟨rfl, hb2⟩
    have HB2 := Lib.hid (below_then HB1.out HB1.out.size hb2)
    clear hb2
    go_wp2
    go_ret
    exact ⟨rfl, HB2.out⟩
  go_wp2
  go_loopg [17] (l.length) (fun k v wr => ∃ i : Nat, v = .int .i64 (i : Int) ∧ i ≤ l.length ∧ Below w.heap.size w wr ∧ Kd.C k24 wr A l.length l ∧ (∀ x ∈ l.take i, x.f4.size ≤ 300) ∧ k + i = l.length)
  case atStart => exact ⟨0, rfl, Nat.zero_le _, HB1.out, HC1.out, by simp, rfl⟩
  case round =>
    clear HB1 HC1
    obtain ⟨i, rfl, hi, hB, hC, hsm, hk⟩ := hrel
    have HB := Lib.hid hB
    have HC := Lib.hid hC
    have HSM := Lib.hid hsm
    clear hB hC hsm
    by_cases hlt : (i : Int) < (l.length : Int)
    · obtain ⟨x, hx⟩ : ∃ x, l[i]? = some x := ⟨_, List.getElem?_eq_getElem (by omega)⟩
      obtain ⟨ad, rfl, h0, h1, h2, h3, h4⟩ := at_T24 HC.out (i : Int) (by omega) hlt
      rw [show rd_T24 l (i : Int) = x by simp [rd_T24, hx]] at h0 h1 h2 h3 h4
      simp only [Int.toNat_natCast] at h0 h1 h2 h3 h4
      have HX := Lib.hid (show l.take (i + 1) = l.take i ++ [x] by rw [List.take_add_one, hx]; rfl)
      clear hx
      have HB2 := Lib.hid (below_alloc HB.out (.cells #[.int .i64 x.f0, .int .i64 x.f1, .int .i64 x.f2, .int .i64 x.f3, .string x.f4] 24))
      have HC2 := Lib.hid (Kd.C_alloc HC.out (.cells #[.int .i64 x.f0, .int .i64 x.f1, .int .i64 x.f2, .int .i64 x.f3, .string x.f4] 24))
      by_cases hbt : (x.f4.size : Int) > 300
      · go_wp2
        go_ret
        exact ⟨rfl, HB2.out⟩
      · go_wp2
        go_roundg (gk - 1)
        case measure => omega
        case rel =>
          refine ⟨i + 1, by go_num, by omega, HB2.out, HC2.out, fun y hy => ?_, by omega⟩
          rw [HX.out] at hy
          rcases List.mem_append.1 hy with hy | hy
          · exact HSM.out y hy
          · simp at hy
            subst hy
            omega
    · have HSM2 := Lib.hid (show ∀ x ∈ l, x.f4.size ≤ 1048576 ∧ -9223372036854775808 ≤ x.f3 ∧ x.f3 ≤ 9223372036854775807 from fun x hx => ⟨by have := HSM.out x (by rw [List.take_of_length_le (by omega)]; exact hx); omega, HI.out x hx⟩)
      obtain ⟨k1, hk1⟩ := Pure.print_ev l (by omega) HSM2.out
      obtain ⟨k2, hk2⟩ := Pure.refprint_ev l (by omega) HSM2.out
      obtain ⟨k3, hk3⟩ := words_ev
      have HP1 := Lib.hid (hk1 k1 (Nat.le_refl _))
      have HP2 := Lib.hid (hk2 k2 (Nat.le_refl _))
      have HP3 := Lib.hid (hk3 k3 (Nat.le_refl _))
      clear hk1 hk2 hk3
      go_wp2_with fail
      refine (lex_Blank.calls _ _ _ (blank_some _)).mono ?_
      rintro e w2 ⟨rfl, hd⟩
      have HB2 := Lib.hid (below_then HB.out HB.out.size (drawn_below hd))
      have HC2 := Lib.hid (Kd.C_below HC.out (drawn_below hd))
      clear hd HB HC
      go_wp2_with fail
      refine (placketref13_Blank.calls _ _ _ (refblank13_some _)).mono ?_
      rintro e w3 ⟨rfl, hd⟩
      have HB3 := Lib.hid (below_then HB2.out HB2.out.size (drawn_below hd))
      have HC3 := Lib.hid (Kd.C_below HC2.out (drawn_below hd))
      clear hd HB2 HC2
      generalize Pure.blank c = b
      go_wp2_with fail
      refine (signs_calls _ (HS.out.below HB3.out (Nat.le_refl _))).mono ?_
      rintro e w4 ⟨v4, rfl, hR4, hb4⟩
      obtain ⟨A4, c4, rfl, hc4, hC4⟩ := Kd.R_reads hR4
      have HB4 := Lib.hid (below_then HB3.out HB3.out.size hb4)
      have HC4 := Lib.hid (Kd.C_below HC3.out hb4)
      have HD4 := Lib.hid hC4
      have hl23 : signsB.length = 23 := rfl
      rw [hl23] at hc4 HD4 ⊢
      clear hb4 hR4 hC4 HB3 HC3
      go_wp2_with fail
      refine (placketref13_Signs.calls signsB _ (by kernel_rfl)).mono ?_
      rintro e w5 ⟨v5, rfl, hR5, hb5⟩
      obtain ⟨A5, c5, rfl, hc5, hC5⟩ := Kd.R_reads hR5
      have HB5 := Lib.hid (below_then HB4.out HB4.out.size hb5)
      have HC5 := Lib.hid (Kd.C_below HC4.out hb5)
      have HD5 := Lib.hid (Kd.C_below HD4.out hb5)
      have HE5 := Lib.hid hC5
      rw [hl23] at hc5 HE5 ⊢
      clear hb5 hR5 hC5 HB4 HC4 HD4
      go_wp2_with fail
      refine (words_c hl23 HD5.out hc4 HE5.out hc5 HP3.out).mono ?_
      rintro e w6 ⟨rfl, hd⟩
      have HB6 := Lib.hid (below_then HB5.out HB5.out.size (drawn_below hd))
      have HC6 := Lib.hid (Kd.C_below HC5.out (drawn_below hd))
      clear hd HB5 HC5 HD5 HE5
      go_wp2_with fail
      refine (lex_Print.calls k1 A cap l _ _ HC6.out HCP.out HP1.out).mono ?_
      rintro e w7 ⟨rfl, hb7⟩
      have HB7 := Lib.hid (below_then HB6.out HB6.out.size hb7)
      have HC7 := Lib.hid (Kd.C_below HC6.out hb7)
      clear hb7 HB6 HC6
      go_wp2_with fail
      refine (placketref13_Print.calls k2 A cap l _ _ HC7.out HCP.out HP2.out).mono ?_
      rintro e w8 ⟨rfl, hb8⟩
      have HB8 := Lib.hid (below_then HB7.out HB7.out.size hb8)
      clear hb8 HB7 HC7
      go_wp2
      go_ret
      exact ⟨rfl, HB8.out⟩
end Go.Proofs.YtkbjblhompkdkaaDoor
