/- LexBack: the walk of the law by contracts. -/
import Derived.Test.YtkbjblhompkdkaaDoorLexPrint
import Derived.Test.YtkbjblhompkdkaaDoorLexAllLemmas
namespace Go.Proofs.YtkbjblhompkdkaaDoor
open Go.RowKit Go.Proofs.YtkbjblhompkdkaaDoor.PA Go.Proofs.YtkbjblhompkdkaaDoorW.PrintWords Go.Proofs.YtkbjblhompkdkaaDoorW.PrintLast Go.Proofs.YtkbjblhompkdkaaDoorW.PrintMore
set_option linter.unusedVariables false
set_option linter.unusedSimpArgs false

theorem print_c {k n c : Nat} {A : Option Addr} {l : List S24} {r : ByteArray} {w : World} (hl : l.length = n) (h0 : Kd.C k24 w A n l) (hc : n ≤ c) (h : lex_Print.f k l = some r) :
    Calls Tryd.prog 24 #[.slice A n c] w fun e w' => e = .returned (.string r) ∧ Below w.heap.size w w' := by
  subst hl
  exact lex_Print.calls k A c l r w h0 hc h
theorem core_at {ts us : List Pure.Tok} (h : us.map Pure.core = ts.map Pure.core) {i : Nat} (hi : i < ts.length) :
    (rd_T24 (us.map tokS) (i : Int)).f0 = (rd_T24 (ts.map tokS) (i : Int)).f0 ∧ (rd_T24 (us.map tokS) (i : Int)).f3 = (rd_T24 (ts.map tokS) (i : Int)).f3 ∧ (rd_T24 (us.map tokS) (i : Int)).f4 = (rd_T24 (ts.map tokS) (i : Int)).f4 := by
  have hl : us.length = ts.length := by simpa using congrArg List.length h
  obtain ⟨t, ht⟩ : ∃ t, ts[i]? = some t := ⟨_, List.getElem?_eq_getElem hi⟩
  obtain ⟨u, hu⟩ : ∃ u, us[i]? = some u := ⟨_, List.getElem?_eq_getElem (by omega)⟩
  have hc := congrArg (·[i]?) h
  simp only [List.getElem?_map, ht, hu, Option.map_some, Option.some.injEq, Pure.core, Prod.mk.injEq] at hc
  simp [rd_T24, ht, hu, tokS, hc.1, hc.2.1, hc.2.2]
/-- What is printed of a text's tokens, and its tokens. -/
theorem back_pure (s : ByteArray) (hs : s.size ≤ 3000) (ts : List Pure.Tok) (h : allR (bytesOf s) = .inl ts) :
    ∃ (p : ByteArray) (us : List Pure.Tok), Ev (fun k => lex_Print.f k (ts.map tokS)) p ∧ p.size ≤ 20000 ∧ allR (bytesOf p) = .inl us ∧ us.map Pure.core = ts.map Pure.core ∧ us.length = ts.length := by
  obtain ⟨hf, hlen, hall⟩ := allR_ok h
  have hb : Pure.InB (bytesOf s) := Pure.bytesOf_range s
  have hg := Pure.allS_good (bytesOf s) ts 0 (Nat.zero_le _) hall
  have hok := toks_ok hb hall
  rw [bytesOf_length] at hlen hok
  obtain ⟨us, hu, hm⟩ := Pure.print_again hb ts hg
  have hpb := Pure.print_bytes hb ts hg
  have hpl := Pure.print_len hb ts hf hg
  rw [bytesOf_length] at hpl
  refine ⟨strOfNums (Pure.printS ts), us, ?_, by rw [strOfNums_size]; omega, ?_, hm, by simpa using congrArg List.length hm⟩
  · have := Pure.print_ev (ts.map tokS) (by rw [List.length_map]; omega) (by
      intro x hx
      obtain ⟨t, ht, rfl⟩ := List.mem_map.1 hx
      have := hok t ht
      exact ⟨by simp only [tokS, strOfNums_size]; omega, this.2.2⟩)
    rwa [Pure.printG_toks ts (fun t ht => (hok t ht).1)] at this
  · rw [Pure.bytesOf_strOfNums _ hpb]
    unfold allR
    rw [if_neg (by omega)]
    exact hu

set_option maxRecDepth 100000 in
set_option maxHeartbeats 8000000 in
theorem lexBack_walk (s : ByteArray) (w : World) (hs : Signs w) (hg : Laid w) (hsz : s.size ≤ 140737488351232) :
    Calls Tryd.prog 7 #[.string s] w fun e w' => e = .returned (.bool true) ∧ Below w.heap.size w w' := by
  have HS := Lib.hid hs
  have HG := Lib.hid hg
  clear hs hg
  go_enter Tryd.func7, Tryd.ntmps7
  go_wp2_with fail
  refine (live_calls w HS.out HG.out).mono ?_
  rintro e w1 ⟨rfl, hb1⟩
  have HB1 := Lib.hid hb1
  clear hb1
  by_cases hbig : (s.size : Int) > 3000
  · go_wp2_with fail
    refine (live_calls _ (HS.out.below HB1.out (Nat.le_refl _)) (HG.out.below HB1.out (Nat.le_refl _))).mono ?_
    rintro e w2 ⟨rfl, hb2⟩
    have HB2 := Lib.hid (below_then HB1.out HB1.out.size hb2)
    clear hb2
    go_wp2
    go_ret
    exact ⟨rfl, HB2.out⟩
  go_wp2_with fail
  refine (all_calls s w1 (HS.out.below HB1.out (Nat.le_refl _)) hsz).mono ?_
  rintro e w2 ⟨hpost, hb2⟩
  have HB2 := Lib.hid (below_then HB1.out HB1.out.size hb2)
  clear hb2
  cases hr : allR (bytesOf s) with
  | inr qc =>
    obtain ⟨q, c⟩ := qc
    rw [hr] at hpost
    obtain ⟨v, rfl, he2⟩ := hpost
    obtain ⟨T, x, rfl⟩ := he2.iface (.inl (by simp))
    clear he2 hr
    go_wp2
    go_ret
    exact ⟨rfl, HB2.out⟩
  | inl ts =>
    obtain ⟨p, us, hpe, hpz, hpa, hcore, hul⟩ := back_pure s (by omega) ts hr
    obtain ⟨kp, hkp⟩ := hpe
    have HPE := Lib.hid (hkp kp (Nat.le_refl _))
    have HPA := Lib.hid hpa
    have HCO := Lib.hid hcore
    have HLE := Lib.hid (allR_ok hr).2.1
    rw [hr] at hpost
    obtain ⟨A, c, rfl, hc, hC⟩ := hpost
    have HC := Lib.hid hC
    have HCC := Lib.hid hc
    have HPZ := Lib.hid hpz
    have HUL := Lib.hid hul
    clear hC hc hpz hkp hpa hcore hr hul
    go_wp2_with fail
    refine (print_c (List.length_map _) HC.out HCC.out HPE.out).mono ?_
    rintro e w3 ⟨rfl, hb3⟩
    have HB3 := Lib.hid (below_then HB2.out HB2.out.size hb3)
    have HC3 := Lib.hid (Kd.C_below HC.out hb3)
    clear hb3
    go_wp2_with fail
    refine (all_calls p w3 (HS.out.below HB3.out (Nat.le_refl _)) (by have := HPZ.out; omega)).mono ?_
    rintro e w4 ⟨hpost, hb4⟩
    rw [HPA.out] at hpost
    obtain ⟨A4, c4, rfl, hc4, hC4⟩ := hpost
    rw [HUL.out] at hc4 hC4 ⊢
    have HB4 := Lib.hid (below_then HB3.out HB3.out.size hb4)
    have HC4 := Lib.hid (Kd.C_below HC3.out hb4)
    have HD4 := Lib.hid hC4
    have HCC4 := Lib.hid hc4
    have HLN := Lib.hid (show ts.length ≤ 3000 by have := HLE.out; rw [bytesOf_length] at this; omega)
    clear hb4 hC4 hc4
    go_wp2
    go_loopg [40] (ts.length) (fun k v wr => ∃ i : Nat, v = .int .i64 (i : Int) ∧ i ≤ ts.length ∧ Below w.heap.size w wr ∧ Kd.C k24 wr A ts.length (ts.map tokS) ∧ Kd.C k24 wr A4 ts.length (us.map tokS) ∧ k + i = ts.length)
    case atStart => exact ⟨0, rfl, Nat.zero_le _, HB4.out, HC4.out, HD4.out, rfl⟩
    case round =>
      obtain ⟨i, rfl, hi, hB, hC, hD, hk⟩ := hrel
      have HB := Lib.hid hB
      have HC := Lib.hid hC
      have HD := Lib.hid hD
      clear hB hC hD HC3 HC4 HD4
      have hln := HLN.out
      by_cases hlt : (i : Int) < (ts.length : Int)
      · obtain ⟨ad, rfl, h0, -, -, h3, h4⟩ := at_T24 HC.out (i : Int) (by omega) hlt
        obtain ⟨ae, rfl, e0, -, -, e3, e4⟩ := at_T24 HD.out (i : Int) (by omega) hlt
        obtain ⟨q0, q3, q4⟩ := core_at HCO.out (show i < ts.length by omega)
        rw [q0] at e0
        rw [q3] at e3
        rw [q4] at e4
        simp only [Int.toNat_natCast] at h0 h3 h4 e0 e3 e4
        generalize rd_T24 (ts.map tokS) (i : Int) = x at *
        clear q0 q3 q4
        go_wp2_with fail
        go_quiet (fail)
        go_wp2
        go_roundg (gk - 1)
        case measure => omega
        case rel => exact ⟨i + 1, by go_num, by omega, pw_below_drewN HB.out _, Kd.C_below HC.out (pw_below_drewN (Below.refl _ _) _), Kd.C_below HD.out (pw_below_drewN (Below.refl _ _) _), by omega⟩
      · go_wp2
        go_ret
        exact ⟨rfl, HB.out⟩
end Go.Proofs.YtkbjblhompkdkaaDoor
