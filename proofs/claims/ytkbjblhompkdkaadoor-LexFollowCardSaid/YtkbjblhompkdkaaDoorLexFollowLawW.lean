/- LexFollow: the walk of the law by contracts (printed by tools/genfollow.py). -/
import Derived.Test.YtkbjblhompkdkaaDoorLexAllLemmas
namespace Go.Proofs.YtkbjblhompkdkaaDoor
open Go.RowKit Go.Proofs.YtkbjblhompkdkaaDoor.PA Go.Proofs.YtkbjblhompkdkaaDoorW.PrintWords Go.Proofs.YtkbjblhompkdkaaDoorW.PrintLast Go.Proofs.YtkbjblhompkdkaaDoorW.PrintMore
set_option linter.unusedVariables false
set_option linter.unusedSimpArgs false

set_option maxRecDepth 100000 in
set_option maxHeartbeats 8000000 in
theorem lexFollow_walk (s : ByteArray) (w : World) (hs : Signs w) (hg : Laid w) (hsz : s.size ≤ 140737488351232) :
    Calls Tryd.prog 5 #[.string s] w fun e w' => e = .returned (.bool true) ∧ Below w.heap.size w w' := by
  have HS := Lib.hid hs
  have HG := Lib.hid hg
  clear hs hg
  go_enter Tryd.func5, Tryd.ntmps5
  go_wp2_with fail
  refine (live_calls w HS.out HG.out).mono ?_
  rintro e w1 ⟨rfl, hb1⟩
  have HB1 := Lib.hid hb1
  clear hb1
  by_cases hbig : (s.size : Int) > 3000
  · go_wp2_with fail
    refine (live_calls _ (HS.out.below HB1.out (Nat.le_refl _)) (HG.out.below HB1.out (Nat.le_refl _))).mono ?_
    rintro e w2 ⟨rfl, hb2⟩
    have HB2 := Lib.hid (below_then HB1.out HB1.out.size hb2)
    clear hb2
    go_wp2
    go_ret
    exact ⟨rfl, HB2.out⟩
  go_wp2_with fail
  refine (all_calls s w1 (HS.out.below HB1.out (Nat.le_refl _)) hsz).mono ?_
  rintro e w2 ⟨hpost, hb2⟩
  have HB2 := Lib.hid (below_then HB1.out HB1.out.size hb2)
  clear hb2
  cases hr : allR (bytesOf s) with
  | inr qc =>
    obtain ⟨q, c⟩ := qc
    have hq := (allR_bad hr).1
    rw [bytesOf_length] at hq
    have hqs : (q : Int) ≤ (s.size : Int) := by omega
    have hq0 : (q : Int) ≥ 0 := by omega
    rw [hr] at hpost
    obtain ⟨v, rfl, he2⟩ := hpost
    obtain ⟨T, x, rfl⟩ := he2.iface (.inl (by simp))
    have HE2 := Lib.hid he2
    clear he2 hr hq
    go_wp2_with fail
    refine (last_calls (q : Int) [] (some c) _ _ (HG.out.below HB2.out (Nat.le_refl _)) HE2.out (by simp)).mono ?_
    rintro e w3 ⟨rfl, hb3⟩
    have HB3 := Lib.hid (below_then HB2.out HB2.out.size hb3)
    clear hb3
    go_wp2
    go_ret
    exact ⟨rfl, HB3.out⟩
  | inl ts =>
    obtain ⟨hf, hts, -⟩ := allR_ok hr
    rw [bytesOf_length] at hts
    have hlen := bytesOf_length s
    have HF := Lib.hid hf
    rw [hr] at hpost
    obtain ⟨A, c, rfl, hc, hC⟩ := hpost
    have HC := Lib.hid hC
    clear hC hr hf
    go_wp2
    go_loopg [7, 51] (ts.length + 1) (fun k va vi wr => ∃ (i a : Nat), vi = .int .i64 (i : Int) ∧ va = .int .i64 (a : Int) ∧ i ≤ ts.length + 1 ∧ a ≤ s.size ∧ (i ≤ ts.length → Pure.Follow (bytesOf s) a (ts.drop i)) ∧ Below w.heap.size w wr ∧ Kd.C k24 wr A ts.length (ts.map tokS) ∧ k + i = ts.length + 1)
    case atStart => exact ⟨0, 0, rfl, rfl, Nat.zero_le _, Nat.zero_le _, fun _ => HF.out, HB2.out, HC.out, rfl⟩
    case round =>
      clear HC HB2
      obtain ⟨i, a, rfl, rfl, hi, ha, hfo, hB, hC, hk⟩ := hrel
      have HB := Lib.hid hB
      have HC := Lib.hid hC
      clear hB hC
      by_cases hend : (i : Int) < (ts.length : Int) + 1
      · by_cases hlt : (i : Int) < (ts.length : Int)
        · obtain ⟨t, ht⟩ : ∃ t, ts[i]? = some t := ⟨_, List.getElem?_eq_getElem (by omega)⟩
          have hdrop : ts.drop i = t :: ts.drop (i + 1) := by
            rw [List.drop_eq_getElem_cons (by omega)]
            congr 1
            exact (List.getElem?_eq_some_iff.1 ht).2
          have hf := hfo (by omega)
          rw [hdrop] at hf
          obtain ⟨f1, f2, f3, f4, f5⟩ := hf
          rw [hlen] at f3
          have HBL := Lib.hid f4
          have HF5 := Lib.hid f5
          obtain ⟨ad, rfl, -, h1, h2, -⟩ := at_T24 HC.out (i : Int) (by omega) hlt
          rw [show rd_T24 (ts.map tokS) (i : Int) = tokS t by simp [rd_T24, ht]] at h1 h2
          simp only [Int.toNat_natCast, tokS] at h1 h2
          have n1 : ¬ ((t.end_ : Int) ≤ (t.at_ : Int)) := by omega
          have n2 : ¬ ((t.at_ : Int) < (a : Int)) := by omega
          have n3 : ¬ ((t.at_ : Int) > (s.size : Int)) := by omega
          clear hfo hdrop ht f4 f5
          go_wp2_with fail
          go_quiet (fail)
          go_wp2
          clear n1 n2 n3
          have d1 : decide (t.at_ < a) = false := decide_eq_false (by omega)
          have d2 : decide (s.size < t.at_) = false := decide_eq_false (by omega)
          try simp only [d1, d2, Bool.or_false]
          clear d1 d2
          obtain ⟨g0, hg0⟩ : ∃ g, g = gk := ⟨_, rfl⟩
          go_loopg [11] (t.at_) (fun k2 vk wr2 => ∃ j : Nat, vk = .int .i64 (j : Int) ∧ a ≤ j ∧ j ≤ t.at_ ∧ Below w.heap.size w wr2 ∧ Kd.C k24 wr2 (some ad) ts.length (ts.map tokS) ∧ k2 + j = t.at_ + a)
          case atStart => exact ⟨a, rfl, Nat.le_refl _, by omega, pw_below_drewN HB.out _, Kd.C_below HC.out (pw_below_drewN (Below.refl _ _) _), by omega⟩
          case round =>
            obtain ⟨j, rfl, haj, hje, hB2, hC2, hk2⟩ := hrel
            have HB2 := Lib.hid hB2
            have HC2 := Lib.hid hC2
            clear hB2 hC2 HB HC
            by_cases hlt2 : (j : Int) < (t.at_ : Int)
            · have HBL2 := Lib.hid (show lex_Blank.f (bt s (j : Int)) = some true by rw [blank_some]; congr 1; rw [← rd_bytesOf]; exact HBL.out j haj (by omega))
              have hx := bt_nat s j
              have hjs : (j : Int) < (s.size : Int) := by omega
              go_wp2_with fail
              refine (lex_Blank.calls _ _ _ HBL2.out).mono ?_
              rintro e w5 ⟨rfl, hd⟩
              have HB5 := Lib.hid (below_then HB2.out HB2.out.size (drawn_below hd))
              have HC5 := Lib.hid (Kd.C_below HC2.out (drawn_below hd))
              clear hd
              go_wp2
              go_roundg (gk - 1)
              case measure => omega
              case rel => exact ⟨j + 1, by go_num, by omega, by omega, HB5.out, HC5.out, by omega⟩
            · go_wp2
              go_roundg (g0 - 1)
              case measure => omega
              case rel => exact ⟨i + 1, t.end_, by go_num, rfl, by omega, by omega, fun _ => HF5.out, HB2.out, HC2.out, by omega⟩
        · have hin : i = ts.length := by omega
          have hf := hfo (by omega)
          rw [hin, List.drop_length] at hf
          have HBL := Lib.hid (show ∀ k, a ≤ k → k < s.size → Pure.blank ((bytesOf s).getD k 0) = true from fun k h1 h2 => hf.2 k h1 (by rw [hlen]; exact h2))
          have n2 : ¬ ((s.size : Int) < (a : Int)) := by omega
          clear hfo hf
          go_wp2
          clear n2
          have d1 : decide (s.size < a) = false := decide_eq_false (by omega)
          try simp only [d1, Bool.or_false]
          clear d1
          obtain ⟨g0, hg0⟩ : ∃ g, g = gk := ⟨_, rfl⟩
          go_loopg [11] (s.size) (fun k2 vk wr2 => ∃ j : Nat, vk = .int .i64 (j : Int) ∧ a ≤ j ∧ j ≤ s.size ∧ Below w.heap.size w wr2 ∧ Kd.C k24 wr2 A ts.length (ts.map tokS) ∧ k2 + j = s.size + a)
          case atStart => exact ⟨a, rfl, Nat.le_refl _, by omega, HB.out, HC.out, by omega⟩
          case round =>
            obtain ⟨j, rfl, haj, hje, hB2, hC2, hk2⟩ := hrel
            have HB2 := Lib.hid hB2
            have HC2 := Lib.hid hC2
            clear hB2 hC2 HB HC
            by_cases hlt2 : (j : Int) < (s.size : Int)
            · have HBL2 := Lib.hid (show lex_Blank.f (bt s (j : Int)) = some true by rw [blank_some]; congr 1; rw [← rd_bytesOf]; exact HBL.out j haj (by omega))
              have hx := bt_nat s j
              have hjs : (j : Int) < (s.size : Int) := by omega
              go_wp2_with fail
              refine (lex_Blank.calls _ _ _ HBL2.out).mono ?_
              rintro e w5 ⟨rfl, hd⟩
              have HB5 := Lib.hid (below_then HB2.out HB2.out.size (drawn_below hd))
              have HC5 := Lib.hid (Kd.C_below HC2.out (drawn_below hd))
              clear hd
              go_wp2
              go_roundg (gk - 1)
              case measure => omega
              case rel => exact ⟨j + 1, by go_num, by omega, by omega, HB5.out, HC5.out, by omega⟩
            · go_wp2
              go_roundg (g0 - 1)
              case measure => omega
              case rel => exact ⟨i + 1, s.size, by go_num, rfl, by omega, by omega, fun h => absurd h (by omega), HB2.out, HC2.out, by omega⟩
      · go_wp2
        go_ret
        exact ⟨rfl, HB.out⟩
end Go.Proofs.YtkbjblhompkdkaaDoor
