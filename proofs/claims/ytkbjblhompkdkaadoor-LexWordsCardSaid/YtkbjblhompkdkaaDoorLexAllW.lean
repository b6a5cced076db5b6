/- The walks of lex.All and of the lex laws' own 'live'. -/
import Derived.Test.YtkbjblhompkdkaaDoorLexNextW
namespace Go.Proofs.YtkbjblhompkdkaaDoor
open Go.RowKit Go.Proofs.YtkbjblhompkdkaaDoor.PA Go.Proofs.YtkbjblhompkdkaaDoorW.PrintWords Go.Proofs.YtkbjblhompkdkaaDoorW.PrintLast Go.Proofs.YtkbjblhompkdkaaDoorW.PrintMore
set_option linter.unusedVariables false
set_option linter.unusedSimpArgs false

/-- A token as an element of a slice. -/
def tokS (t : Pure.Tok) : S24 := ⟨t.kind, (t.at_ : Int), (t.end_ : Int), t.n, strOfNums t.text⟩
def allR (l : List Int) : List Pure.Tok ⊕ (Nat × Int) := if l.length > 1048576 then .inr (0, 14) else Pure.allS l 0
def AllPost (r : List Pure.Tok ⊕ (Nat × Int)) (e : Ending) (w' : World) : Prop :=
  match r with
  | .inl ts => ∃ A c, e = .returned (.tuple #[.slice A ts.length c, .nilIface]) ∧ ts.length ≤ c ∧ Kd.C k24 w' A ts.length (ts.map tokS)
  | .inr (p, c) => ∃ v, e = .returned (.tuple #[.slice none 0 0, v]) ∧ Err w' v [(p : Int)] (some c)
def preT (l1 : List Pure.Tok) : List Pure.Tok ⊕ (Nat × Int) → List Pure.Tok ⊕ (Nat × Int)
  | .inl ts => .inl (l1 ++ ts)
  | .inr e => .inr e
theorem info24 : (Tryd.prog.info? 24).map (fun i => (i.zero, i.size, i.bytes)) = some (some (.agg #[.int .i64 0, .int .i64 0, .int .i64 0, .int .i64 0, .string ⟨#[]⟩]), 5, 48) := by kernel_rfl

set_option maxRecDepth 100000 in
set_option maxHeartbeats 8000000 in
theorem all_calls (s : ByteArray) (w : World) (hs : Signs w) (hsz : s.size ≤ 140737488351232) :
    Calls Tryd.prog 19 #[.string s] w fun e w' => AllPost (allR (bytesOf s)) e w' ∧ Below w.heap.size w w' := by
  have HS := Lib.hid hs
  clear hs
  by_cases hbig : (s.size : Int) > 1048576
  · have HR := Lib.hid (show allR (bytesOf s) = .inr (0, 14) by unfold allR; rw [if_pos (by rw [bytesOf_length]; omega)])
    go_enter Tryd.func19, Tryd.ntmps19
    go_wp2_with fail
    refine (new_calls 14 0 w (by decide)).mono ?_
    rintro e w1 ⟨v, rfl, he, hb⟩
    have HE := Lib.hid he
    have HB := Lib.hid hb
    clear he hb
    go_wp2
    go_ret2
    rw [HR.out]
    exact ⟨⟨v, rfl, HE.out⟩, HB.out⟩
  have HR := Lib.hid (show allR (bytesOf s) = Pure.allS (bytesOf s) 0 by unfold allR; rw [if_neg (by rw [bytesOf_length]; omega)])
  have hlen : (bytesOf s).length = s.size := bytesOf_length s
  go_enter Tryd.func19, Tryd.ntmps19
  go_wp2
  go_loopg [4, 5] (s.size + 1) (fun k vo va wr => ∃ (l1 : List Pure.Tok) (a : Nat), va = .int .i64 (a : Int) ∧ a ≤ s.size ∧ k + a = s.size + 1 ∧ l1.length ≤ a ∧ Pure.allS (bytesOf s) 0 = preT l1 (Pure.allS (bytesOf s) a) ∧ Below w.heap.size w wr ∧ Kd.R k24 24 wr w.heap.size (fun _ => True) vo (l1.map tokS))
  case atStart => exact ⟨[], 0, rfl, Nat.zero_le _, rfl, Nat.le_refl _, by cases Pure.allS (bytesOf s) 0 <;> rfl, Below.refl _ _, Kd.R_nil _ _ _ _ _⟩
  case round =>
    obtain ⟨l1, a, rfl, ha, hk, hla, hall, hB, hR⟩ := hrel
    have HB := Lib.hid hB
    have HO := Lib.hid hR
    have HA := Lib.hid hall
    clear hB hR hall
    go_wp2_with fail
    refine (next_calls s (a : Int) wr (HS.out.below HB.out (Nat.le_refl _)) hsz).mono ?_
    rintro e w1 ⟨hpost, hb1⟩
    have HB1 := Lib.hid (below_then HB.out HB.out.size hb1)
    have HO1 := Lib.hid (Kd.R_below HO.out hb1)
    clear hb1
    rw [show nextI (bytesOf s) (a : Int) = Pure.nextS (bytesOf s) a by unfold nextI; rw [if_neg (by rw [hlen]; omega)]; rfl] at hpost
    have HST := Lib.hid (Pure.allS_step (bytesOf s) (a := a) (by rw [hlen]; exact ha))
    obtain ⟨res, hres⟩ : ∃ r, Pure.nextS (bytesOf s) a = r := ⟨_, rfl⟩
    rw [hres] at hpost
    have HRES := Lib.hid hres
    clear hres
    cases res with
    | inl t =>
      have hok := Pure.nextS_ok (by rw [hlen]; exact ha) HRES.out
      rw [hlen] at hok
      unfold NextPost at hpost
      dsimp only at hpost
      subst hpost
      unfold tokV
      by_cases h0 : t.kind = 0
      · have HEND := Lib.hid (show Pure.allS (bytesOf s) 0 = .inl l1 by rw [HA.out, HST.out, HRES.out]; simp [h0, preT])
        have b0 : (t.kind == 0) = true := beq_iff_eq.2 h0
        have HB2 := Lib.hid (below_alloc HB1.out (.cells #[.int .i64 t.kind, .int .i64 (t.at_ : Int), .int .i64 (t.end_ : Int), .int .i64 t.n, .string (strOfNums t.text)] 24))
        have HO2 := Lib.hid (Kd.R_alloc HO1.out (.cells #[.int .i64 t.kind, .int .i64 (t.at_ : Int), .int .i64 (t.end_ : Int), .int .i64 t.n, .string (strOfNums t.text)] 24))
        clear hok h0 HB1 HO1 HA HST HRES
        go_wp2
        go_ret2
        obtain ⟨A, c, rfl, hc, hC⟩ := Kd.R_reads HO2.out
        rw [HR.out, HEND.out]
        rw [List.length_map] at hc hC
        exact ⟨⟨A, c, by rw [List.length_map]; rfl, hc, hC⟩, HB2.out⟩
      · have b0 : (t.kind == 0) = false := beq_eq_false_iff_ne.2 h0
        have HOK := Lib.hid (show a < t.end_ ∧ t.end_ ≤ s.size from ⟨by have h1 := hok.2.2.2.2 h0; have h2 := hok.1; omega, hok.2.1⟩)
        have HNX := Lib.hid (show Pure.allS (bytesOf s) 0 = preT (l1 ++ [t]) (Pure.allS (bytesOf s) t.end_) by
          rw [HA.out, HST.out, HRES.out]
          simp only [h0, if_false]
          cases Pure.allS (bytesOf s) t.end_ <;> simp [preT])
        have hK6 := blk_new w1 (.cells #[.int .i64 t.kind, .int .i64 (t.at_ : Int), .int .i64 (t.end_ : Int), .int .i64 t.n, .string (strOfNums t.text)] 24)
        have HB2 := Lib.hid (below_alloc HB1.out (.cells #[.int .i64 t.kind, .int .i64 (t.at_ : Int), .int .i64 (t.end_ : Int), .int .i64 t.n, .string (strOfNums t.text)] 24))
        have HO2 := Lib.hid (Kd.R_alloc (Kd.R_elderB HO1.out w1.heap.size (Nat.le_refl _)) (.cells #[.int .i64 t.kind, .int .i64 (t.at_ : Int), .int .i64 (t.end_ : Int), .int .i64 t.n, .string (strOfNums t.text)] 24))
        have HK6 := Lib.hid hK6
        clear hok h0 HB1 HO1 HA HST HRES hK6
        go_upto_region 6 with (fail)
        generalize (w1.alloc (.cells #[.int .i64 t.kind, .int .i64 (t.at_ : Int), .int .i64 (t.end_ : Int), .int .i64 t.n, .string (strOfNums t.text)] 24)) = w2 at *
        generalize w1.heap.size = g6 at *
        have k0 := (blk_cell HK6.out 0).trans (show _ = some (.int .i64 t.kind) from rfl)
        have k1 := (blk_cell HK6.out 1).trans (show _ = some (.int .i64 (t.at_ : Int)) from rfl)
        have k2 := (blk_cell HK6.out 2).trans (show _ = some (.int .i64 (t.end_ : Int)) from rfl)
        have k3 := (blk_cell HK6.out 3).trans (show _ = some (.int .i64 t.n) from rfl)
        have k4 := (blk_cell HK6.out 4).trans (show _ = some (.string (strOfNums t.text)) from rfl)
        have HNE := Lib.hid (Kd.R_away HO2.out (fun k hk => hk.2))
        have hmap : (l1.map tokS).length = l1.length := List.length_map _
        have HLL := Lib.hid (show l1.length ≤ 1048576 by omega)
        go_wp2_with (first | ((with_reducible refine gate_builtin (b := .append) (xs := #[.tmp 25, .tmp 27]) rfl ?_); at_builtin; refine Kd.R_append k24 (w0 := w) w.heap.size rfl (.tmp 25) (.tmp 27) 34 24 (.agg #[.int .i64 0, .int .i64 0, .int .i64 0, .int .i64 0, .string ⟨#[]⟩]) 48 rfl Tryd.underlying34 info24 rfl (by decide) (by omega) u4 (l1.map tokS) (tokS t) [.int .i64 t.kind, .int .i64 (t.at_ : Int), .int .i64 (t.end_ : Int), .int .i64 t.n, .string (strOfNums t.text)] (fun k_ => k_ ≠ g6) (fun _ => False) rfl (by first | (go_simp; done) | (go_simp; rfl)) ?aP (fun _ hk => hk.elim) ?aF ?aO ?aB ?aS ?aL ?_; (case aP => exact k24_mkM _ _ _ (tokS t)); (case aB => exact HB2.out); (case aF => exact (fun k_ hk => Kd.freshB (g := g6) HK6.out k_ hk)); (case aO => exact Kd.R_mono HO2.out (fun k hk => hk.2)); (case aS => exact HB2.out.size); (case aL => have := HLL.out; omega); intro v9 w9 ho hb hg hat; have HO9 := Lib.hid ho; have HB9 := Lib.hid hb; have hbk9 := blk_grown HK6.out hg HNE.out; have hc9 := (blk_cell hbk9 2).trans (show _ = some (.int .i64 (t.end_ : Int)) from rfl); clear hat hg ho hb hbk9))
        go_roundg (s.size + 1 - t.end_)
        case measure => have := HOK.out; omega
        case rel =>
          have := HOK.out
          exact ⟨l1 ++ [t], t.end_, rfl, by omega, by omega, by simp; omega, HNX.out, HB9.out, by rw [List.map_append]; exact Kd.R_mono HO9.out (fun _ _ => trivial)⟩
    | inr qc =>
      obtain ⟨q, c⟩ := qc
      obtain ⟨v, rfl, he⟩ := hpost
      have HEND := Lib.hid (show Pure.allS (bytesOf s) 0 = .inr (q, c) by rw [HA.out, HST.out, HRES.out]; rfl)
      obtain ⟨T, x, rfl⟩ := he.iface (.inl (by simp))
      have HE := Lib.hid (he.below (below_alloc (Below.refl w1.heap.size w1) (.cells #[.int .i64 0, .int .i64 0, .int .i64 0, .int .i64 0, .string ⟨#[]⟩] 24)) (Nat.le_refl _))
      have HB2 := Lib.hid (below_alloc HB1.out (.cells #[.int .i64 0, .int .i64 0, .int .i64 0, .int .i64 0, .string ⟨#[]⟩] 24))
      clear he HB1 HO1 HA HST HRES
      unfold tok0V
      go_wp2
      go_ret2
      rw [HR.out, HEND.out]
      exact ⟨⟨_, rfl, HE.out⟩, HB2.out⟩
end Go.Proofs.YtkbjblhompkdkaaDoor

namespace Go.Proofs.YtkbjblhompkdkaaDoor
open Go.RowKit Go.Proofs.YtkbjblhompkdkaaDoor.PA Go.Proofs.YtkbjblhompkdkaaDoorW.PrintWords Go.Proofs.YtkbjblhompkdkaaDoorW.PrintLast Go.Proofs.YtkbjblhompkdkaaDoorW.PrintMore
set_option linter.unusedVariables false
set_option linter.unusedSimpArgs false

theorem live_all : allR (bytesOf (⟨#[97, 32, 60, 61, 32, 45, 49]⟩ : ByteArray)) = .inl [⟨2, 0, 1, 0, [97]⟩, ⟨1, 2, 4, 0, [60, 61]⟩, ⟨3, 5, 7, -1, []⟩] := by kernel_rfl
theorem live_next : nextI (bytesOf (⟨#[45]⟩ : ByteArray)) 0 = .inr (0, 2) := by kernel_rfl

set_option maxRecDepth 100000 in
set_option maxHeartbeats 4000000 in
theorem live_calls (w : World) (hs : Signs w) (hg : Laid w) :
    Calls Tryd.prog 15 #[] w fun e w' => e = .returned (.bool true) ∧ Below w.heap.size w w' := by
  have HS := Lib.hid hs
  have HG := Lib.hid hg
  clear hs hg
  go_enter Tryd.func15, Tryd.ntmps15
  go_wp2_with fail
  refine (all_calls _ w HS.out (by decide)).mono ?_
  rintro e w1 ⟨hpost, hb1⟩
  rw [live_all] at hpost
  obtain ⟨A, c, rfl, hc, hC⟩ := hpost
  have HB1 := Lib.hid hb1
  have HC1 := Lib.hid hC
  clear hb1 hC
  simp only [List.length_cons, List.length_nil] at hc ⊢
  go_wp2_with fail
  refine (next_calls _ 0 w1 (HS.out.below HB1.out (Nat.le_refl _)) (by decide)).mono ?_
  rintro e w2 ⟨hpost, hb2⟩
  rw [live_next] at hpost
  obtain ⟨v, rfl, he⟩ := hpost
  have hba := below_alloc (Below.refl w2.heap.size w2) (.cells #[.int .i64 0, .int .i64 0, .int .i64 0, .int .i64 0, .string ⟨#[]⟩] 24)
  have HB2 := Lib.hid (below_then (below_then HB1.out HB1.out.size hb2) (Nat.le_trans HB1.out.size hb2.size) hba)
  obtain ⟨T, x, rfl⟩ := he.iface (.inl (by simp))
  have HE2 := Lib.hid (he.below hba (Nat.le_refl _))
  have HC2 := Lib.hid (Kd.C_below (Kd.C_below HC1.out hb2) hba)
  clear hb2 he hba
  unfold tok0V
  go_upto_region 3 with (fail)
  generalize (w2.alloc (.cells #[.int .i64 0, .int .i64 0, .int .i64 0, .int .i64 0, .string ⟨#[]⟩] 24)) = w3 at *
  obtain ⟨ad, rfl, h00, -⟩ := at_T24 HC2.out 0 (by omega) (by decide)
  obtain ⟨ad1, e1, -, -, -, -, h14⟩ := at_T24 HC2.out 1 (by omega) (by decide)
  obtain rfl := Option.some.inj e1
  obtain ⟨ad2, e2, -, -, -, h23, -⟩ := at_T24 HC2.out 2 (by omega) (by decide)
  obtain rfl := Option.some.inj e2
  clear e1 e2
  simp [rd_T24, tokS, Addr.add] at h00 h14 h23
  rw [show strOfNums [60, 61] = (⟨#[60, 61]⟩ : ByteArray) from rfl] at h14
  clear hc HC1 HC2
  go_wp2_with fail
  refine (at_calls 0 2 _ _ (HG.out.below HB2.out (Nat.le_refl _)) HE2.out (by decide)).mono ?_
  rintro e w4 ⟨rfl, hb4⟩
  have HB4 := Lib.hid (below_then HB2.out HB2.out.size hb4)
  clear hb4 h00 h14 h23
  go_wp2_with fail
  refine (lex_Blank.calls 9 true _ rfl).mono ?_
  rintro e w5 ⟨rfl, hd⟩
  have HB5 := Lib.hid (below_then HB4.out HB4.out.size (drawn_below hd))
  clear hd
  go_wp2
  go_ret
  exact ⟨rfl, HB5.out⟩
end Go.Proofs.YtkbjblhompkdkaaDoor
