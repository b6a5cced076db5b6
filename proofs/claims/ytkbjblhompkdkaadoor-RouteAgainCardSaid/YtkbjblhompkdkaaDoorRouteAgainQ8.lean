/- YtkbjblhompkdkaaDoorRouteAgainQ8: RouteParse, RouteBal, PBx2 -/
import Derived.Test.YtkbjblhompkdkaaDoorRouteAgainQ7
import Derived.Test.YtkbjblhompkdkaaDoorRouteAgainQ4
import Derived.Test.YtkbjblhompkdkaaDoorRouteAgainQ5
namespace Go.Proofs.YtkbjblhompkdkaaDoor
open Go.RowKit Go.Proofs.YtkbjblhompkdkaaDoor.PA Go.Proofs.YtkbjblhompkdkaaDoor.PB Go.Proofs.YtkbjblhompkdkaaDoorW.PrintWords Go.Proofs.YtkbjblhompkdkaaDoorW.PrintLast
set_option linter.unusedVariables false
set_option linter.unusedSimpArgs false
def segS (x : Pure.Seg) : S83 := ⟨x.kind, x.n, x.lo, x.hi, strOfNums x.text⟩
theorem infoSeg : (Tryd.prog.info? 83).map (fun i => (i.zero, i.size, i.bytes)) = some (some (.agg #[.int .i64 0, .int .i64 0, .int .i64 0, .int .i64 0, .string ⟨#[]⟩]), 5, 48) := by kernel_rfl
theorem R_stepS {w w' : World} {b : Nat} {s : ByteArray} {st : Pure.St} {v : Value} {xs : List S83} {ok : Nat → Prop} (hr : RSt w b s st) {β : Nat} (h : Kd.R k83 83 w β ok v xs) (hst : Step w w' b) : Kd.R k83 83 w' β ok v xs := by
 obtain ⟨cs, hb⟩ := hr.blk
 exact Kd.R_mono (Kd.R_keep (Kd.R_types h hb (by decide)) hst.2 (fun k hk => hk.2)) (fun k hk => hk.1)
theorem R_far5 {W : World} {g β : Nat} {v : Value} {xs : List S83} (x0 x1 x2 x3 x4 : Value) (h : Kd.R k83 83 W β (fun k => k ≠ g) v xs) :
  Kd.R k83 83 (((((W.setCell ⟨g, 0, none⟩ x0).setCell ⟨g, 1, none⟩ x1).setCell ⟨g, 2, none⟩ x2).setCell ⟨g, 3, none⟩ x3).setCell ⟨g, 4, none⟩ x4) β (fun k => k ≠ g) v xs :=
 Kd.R_far (p := ⟨g, 4, none⟩) (Kd.R_far (p := ⟨g, 3, none⟩) (Kd.R_far (p := ⟨g, 2, none⟩) (Kd.R_far (p := ⟨g, 1, none⟩) (Kd.R_far (p := ⟨g, 0, none⟩) h (fun _ hk => hk) _) (fun _ hk => hk) _) (fun _ hk => hk) _) (fun _ hk => hk) _) (fun _ hk => hk) _
theorem RSt.grown {w w9 : World} {b β : Nat} {s : ByteArray} {st : Pure.St} {v : Value} {xs : List S83} {ok : Nat → Prop} (h : RSt w b s st) (hO : Kd.R k83 83 w β ok v xs) (hn : xs = [] → v = .slice none 0 0) (hg : w.grownBy w9 v.ownBlock) : RSt w9 b s st := by
 have hblk : ∀ cs, w.heap[b]? = some (.cells cs 89 (0, 0)) → w9.heap[b]? = some (.cells cs 89 (0, 0)) := fun cs hb => blk_grown hb hg (Kd.R_away (Kd.R_types hO hb (by decide)) (fun k hk => hk.2))
 cases st with
 | inl a => exact ⟨h.1, hblk _ h.2⟩
 | inr e =>
  obtain ⟨x, T, u, h1, g, y, h2, h3, h4, h5⟩ := h
  have hy : y = .iface 29 (.int .i64 e.2) := h5
  have hne : some g ≠ v.ownBlock := by
   cases xs with
   | nil => rw [hn rfl]; simp [Value.ownBlock]
   | cons q qs =>
    obtain ⟨g', cap, hv, -, -, -⟩ := Kd.R_form hO (by simp)
    subst hv
    rintro e2
    obtain rfl : g = g' := Option.some.inj e2
    obtain ⟨-, -, hC⟩ := Kd.R_reads' hO
    obtain ⟨ad, ha, -, hc1, -⟩ := at_T83 hC 0 (by omega) (by simp)
    obtain rfl := Option.some.inj ha
    have hc1' : w.cell? ⟨g, 1, none⟩ = some (.int .i64 (rd_T83 (q :: qs) 0).f1) := hc1
    rw [hy, hc1'] at h4
    simp at h4
  refine ⟨x, T, u, hblk _ h1, g, y, h2, hg.cell h3 hne, hg.cell h4 hne, h5⟩
theorem app_keepS {w0 W w9 : World} {b : Nat} {s : ByteArray} {st : Pure.St} {v : Value} {xs : List S83} {ok : Nat → Prop} (hb0 : b < w0.heap.size) (hsb : 0 < b) (hrs : RSt W b s st) (hsg : Signs W) (hst : Step w0 W b)
  (hO : Kd.R k83 83 W w0.heap.size ok v xs) (hn : xs = [] → v = .slice none 0 0) (hb : Below w0.heap.size W w9) (hg : W.grownBy w9 v.ownBlock) :
  RSt w9 b s st ∧ Signs w9 ∧ Step w0 w9 b := by
 refine ⟨hrs.grown hO hn hg, fun i x hx => (hb.cell (show 0 < w0.heap.size by omega)).trans (hsg i x hx), ⟨Below.trans hst.1 (hb.mono (Nat.le_of_lt hb0)), KeepBut.trans hst.2 (KeepBut.of_grown hg b) ?_⟩⟩
 cases ho : v.ownBlock with
 | none => exact .inl rfl
 | some k => exact .inr ⟨k, rfl, Kd.R_base hO k ho⟩
def PInv (s : ByteArray) (b : Nat) (w0 : World) (st1 : Pure.St) (k : Nat) (vo : Value) (wr : World) : Prop :=
 ∃ (acc : List Pure.Seg) (st : Pure.St), RSt wr b s st ∧ Signs wr ∧ Step w0 wr b ∧ Kd.R k83 83 wr w0.heap.size (fun _ => True) vo (acc.map segS) ∧ (acc = [] → vo = .slice none 0 0) ∧
  Pure.parC (bytesOf s) st1 [] = Pure.parC (bytesOf s) st acc ∧ k = Pure.room (bytesOf s) st ∧ acc.length ≤ 32
theorem Pure.isS_text {t : Pure.Tok} {x : List Int} (h : Pure.isS t x = true) : t.text = x := (of_decide_eq_true h).2
theorem Pure.room_less {s : ByteArray} {a nz : Nat} {st : Pure.St} (h1 : a < nz) (h2 : nz ≤ s.size) (h : Pure.Ok (bytesOf s) nz st) : Pure.room (bytesOf s) st < Pure.room (bytesOf s) (.inl a) := by
 cases st with
 | inr e => simp only [Pure.room, bytesOf_length]; omega
 | inl c => have := h c rfl; simp only [Pure.room, bytesOf_length] at this ⊢; omega
def ParsePost (r : List Pure.Seg ⊕ (Nat × Int)) (e : Ending) (w' : World) : Prop :=
 match r with
 | .inl ts => ∃ A c, e = .returned (.tuple #[.slice A ts.length c, .nilIface]) ∧ ts.length ≤ c ∧ Kd.C k83 w' A ts.length (ts.map segS)
 | .inr (p, c) => ∃ v, e = .returned (.tuple #[.slice none 0 0, v]) ∧ Err w' v [(p : Int)] (some c)
set_option maxRecDepth 100000 in
set_option maxHeartbeats 16000000 in
theorem parse_calls (s : ByteArray) (w : World) (hs : Signs w) (hsz : s.size ≤ 140737488351232) (hsm : s.size ≤ 1048576) :
  Calls Tryd.prog 35 #[.string s] w fun e w' => ParsePost (Pure.parseC (bytesOf s)) e w' ∧ Below w.heap.size w w' := by
 have hsb0 : (0 : Nat) < w.heap.size := hs.lt
 have hba := below_alloc (Below.refl w.heap.size w) (.cells #[.string s, .int .i64 0, .nilIface] 89)
 have HB0 := Lib.hid hba
 have HSG := Lib.hid (hs.below hba (Nat.le_refl _))
 have HRS := Lib.hid (show RSt (w.alloc (.cells #[.string s, .int .i64 0, .nilIface] 89)) w.heap.size s (.inl 0) from ⟨Nat.zero_le _, blk_new w _⟩)
 have hbl0 : w.heap.size < (w.alloc (.cells #[.string s, .int .i64 0, .nilIface] 89)).heap.size := blk_lt (blk_new w _)
 clear hba hs
 obtain ⟨st1, hm⟩ : ∃ x, Pure.mustC (bytesOf s) [36] (.inl 0) = x := ⟨_, rfl⟩
 have HM := Lib.hid hm
 clear hm
 go_enter Tryd.func35, Tryd.ntmps35
 go_wp2_with fail
 repeat (go_step3; go_wp2_with fail)
 obtain ⟨w0, hw0⟩ : ∃ x, w.alloc (.cells #[.string s, .int .i64 0, .nilIface] 89) = x := ⟨_, rfl⟩
 rw [hw0] at HB0 HSG HRS hbl0
 try rw [hw0]
 obtain ⟨b, hb⟩ : ∃ x, w.heap.size = x := ⟨_, rfl⟩
 rw [hb] at HRS hbl0 hsb0
 try rw [hb]
 have HEQ := Lib.hid hb
 clear hw0 hb
 have hb0 := hbl0
 have hsb : (0 : Nat) < b := hsb0
 clear hbl0 hsb0
 have HST := Lib.hid (show Step w0 w0 b from ⟨Below.refl _ _, KeepBut.refl _ _ _⟩)
 refine (must_calls s ⟨#[36]⟩ b (.inl 0) _ HSG.out hsz HRS.out hsb).mono ?_
 have hb36 : bytesOf (⟨#[36]⟩ : ByteArray) = [36] := rfl
 rw [hb36, HM.out]
 clear hb36
 rintro e w1 ⟨rfl, hrs, hst⟩
 replace HST := Lib.hid (HST.out.trans hst)
 replace HRS := Lib.hid hrs
 replace HSG := Lib.hid (HSG.out.step hst hsb)
 clear hrs hst
 go_wp2
 repeat (go_step3; go_wp2)
 go_loopg [5] (Pure.room (bytesOf s) st1) (fun k vo wr => PInv s b w0 st1 k vo wr)
 case atStart => exact ⟨[], st1, HRS.out, HSG.out, HST.out, Kd.R_nil _ _ _ _ _, fun _ => rfl, rfl, rfl, Nat.zero_le _⟩
 case round =>
  clear HRS HSG HST
  obtain ⟨acc, st, hrs, hsg, hst, hO, hnl, hF, hk, hacc⟩ := hrel
  have HRS := Lib.hid hrs
  have HSG := Lib.hid hsg
  have HST := Lib.hid hst
  have HO := Lib.hid hO
  have HF := Lib.hid hF
  have HNL := Lib.hid hnl
  have HAC := Lib.hid hacc
  have HKK := Lib.hid hk
  clear hrs hsg hst hO hF hnl hacc hk
  cases st with
  | inr e =>
   have HFC := Lib.hid (HF.out.trans (Pure.parC_err _ e acc))
   have HPR := Lib.hid (show Pure.parseC (bytesOf s) = .inr e by unfold Pure.parseC; rw [HM.out, HFC.out])
   obtain ⟨x_, T_, u_, hb1, he_⟩ := HRS.out
   have HE := Lib.hid he_
   have j2 := (blk_cell hb1 2).trans (show _ = some (.iface T_ u_) from rfl)
   clear hb1 he_
   go_wp2
   repeat (go_step3; go_wp2)
   go_quiet (fail)
   go_wp2
   repeat (go_step3; go_wp2)
   try rw [Exit.noGoto_ret]
   go_ret2
   have hbf : Below w.heap.size w wr := Below.trans HB0.out (by rw [HEQ.out]; exact HST.out.1)
   rw [HPR.out]
   exact ⟨⟨_, rfl, HE.out.below (pw_below_drewN (Below.refl _ _) _) (Nat.le_refl _)⟩, pw_below_drewN hbf _⟩
  | inl a =>
   have ha := HRS.out.1
   rw [← bytesOf_length] at ha
   have j2 := (blk_cell HRS.out.2 2).trans (show _ = some .nilIface from rfl)
   obtain ⟨t, s1, hn⟩ : ∃ t s1, Pure.nx (bytesOf s) (.inl a) = (t, s1) := ⟨_, _, rfl⟩
   have htok := nx_ok s (.inl a)
   have hmore := fun h0 => Pure.nx_more ha h0
   rw [hn] at hmore htok
   dsimp only at hmore htok
   have HN := Lib.hid hn
   have HTO := Lib.hid htok
   have HMO := Lib.hid hmore
   have HA0 := Lib.hid ha
   clear hn htok hmore ha
   go_wp2_with fail
   refine (rnext_calls s b (.inl a) _ HSG.out hsz HRS.out).mono ?_
   rw [HN.out]
   rintro e w2 ⟨rfl, hrs, hst⟩
   dsimp only at hrs
   replace HO := Lib.hid (R_stepS HRS.out HO.out hst)
   replace HST := Lib.hid (HST.out.trans hst)
   replace HRS := Lib.hid hrs
   replace HSG := Lib.hid (HSG.out.step hst hsb)
   clear hrs hst
   unfold tokV
   clear j2
   go_upto_region 6 with (fail)
   have hba := below_alloc (Below.refl w2.heap.size w2) (.cells #[.int .i64 t.kind, .int .i64 (t.at_ : Int), .int .i64 (t.end_ : Int), .int .i64 t.n, .string (strOfNums t.text)] 24)
   have hn_ := Lib.hid (blk_new w2 (.cells #[.int .i64 t.kind, .int .i64 (t.at_ : Int), .int .i64 (t.end_ : Int), .int .i64 t.n, .string (strOfNums t.text)] 24))
   have hggt : b < w2.heap.size := HRS.out.lt
   have HGEgt := Lib.hid (show w0.heap.size ≤ w2.heap.size from HST.out.2.1)
   obtain ⟨HST, HRS, HSG⟩ := carryB HST HRS HSG hba
   replace HO := Lib.hid (Kd.R_below HO.out hba)
   have HT := hn_
   clear hba hn_
   generalize (w2.alloc (.cells #[.int .i64 t.kind, .int .i64 (t.at_ : Int), .int .i64 (t.end_ : Int), .int .i64 t.n, .string (strOfNums t.text)] 24)) = w3 at HRS HSG HST HT HO ⊢
   generalize w2.heap.size = gt at HT HGEgt hggt  ⊢
   cases s1 with
   | inr e =>
    have HFC := Lib.hid (HF.out.trans (Pure.parC_bad HN.out HA0.out acc))
    have c0 := (blk_cell HT.out 0).trans (show _ = some (.int .i64 t.kind) from rfl)
    have HPR := Lib.hid (show Pure.parseC (bytesOf s) = .inr e by unfold Pure.parseC; rw [HM.out, HFC.out])
    obtain ⟨x_, T_, u_, hb1, he_⟩ := HRS.out
    have HE := Lib.hid he_
    have j2 := (blk_cell hb1 2).trans (show _ = some (.iface T_ u_) from rfl)
    clear hb1 he_
    go_wp2
    repeat (go_step3; go_wp2)
    go_quiet (fail)
    go_wp2
    repeat (go_step3; go_wp2)
    try rw [Exit.noGoto_ret]
    go_ret2
    have hbf : Below w.heap.size w w3 := Below.trans HB0.out (by rw [HEQ.out]; exact HST.out.1)
    rw [HPR.out]
    exact ⟨⟨_, rfl, HE.out.below (pw_below_drewN (Below.refl _ _) _) (Nat.le_refl _)⟩, pw_below_drewN hbf _⟩
   | inl nz =>
    obtain ⟨c0, c1, c2, c3, c4⟩ := cells5 HT.out
    have j2 := (blk_cell HRS.out.2 2).trans (show _ = some .nilIface from rfl)
    have HS := Lib.hid (HF.out.trans (Pure.parC_step HA0.out HN.out acc))
    by_cases h0 : t.kind = 0
    ·skip
     have b0 : (t.kind == 0) = true := beq_iff_eq.2 h0
     have HFC := Lib.hid (HS.out.trans (if_pos h0))
     clear h0 j2
     have HPR := Lib.hid (show Pure.parseC (bytesOf s) = .inl acc by unfold Pure.parseC; rw [HM.out, HFC.out])
     obtain ⟨A, c, rfl, hc, hC⟩ := Kd.R_reads HO.out
     have HC := Lib.hid hC
     have HCP := Lib.hid hc
     have j2 := (blk_cell HRS.out.2 2).trans (show _ = some .nilIface from rfl)
     clear hc hC
     go_wp2
     repeat (go_step3; go_wp2)
     try rw [Exit.noGoto_ret]
     go_ret2
     have hbf : Below w.heap.size w w3 := Below.trans HB0.out (by rw [HEQ.out]; exact HST.out.1)
     have hc := HCP.out
     have hC := HC.out
     rw [List.length_map] at hc hC
     rw [HPR.out]
     exact ⟨⟨A, c, by rw [List.length_map]; rfl, hc, hC⟩, hbf⟩
    ·skip
     have b0 : (t.kind == 0) = false := beq_eq_false_iff_ne.2 h0
     obtain ⟨nz_, hc1, hac, hcl⟩ := HMO.out h0
     obtain rfl := Sum.inl.inj hc1
     rw [bytesOf_length] at hcl
     have HS2 := Lib.hid (HS.out.trans (if_neg h0))
     have HCL := Lib.hid hcl
     have HAL := Lib.hid hac
     clear h0 hac hcl hc1
     go_wp2_with fail
     refine (is_calls t ⟨#[46]⟩ (Lib.hid HTO.out.1).out _).mono ?_
     rintro e w4 ⟨rfl, hb_⟩
     obtain ⟨HST, HRS, HSG⟩ := carryB HST HRS HSG hb_
     replace HT := Lib.hid (blk_below HT.out hb_)
     replace HO := Lib.hid (Kd.R_below HO.out hb_)
     clear hb_
     have hbl : bytesOf (⟨#[46]⟩ : ByteArray) = [46] := rfl
     rw [hbl]
     clear hbl c0 c1 c2 c3 c4
     cases h46 : Pure.isS t [46] with
     | true =>
      obtain ⟨c0, c1, c2, c3, c4⟩ := cells5 HT.out
      have HTX := Lib.hid (Pure.isS_text h46)
      have HS3 := Lib.hid (HS2.out.trans (if_neg (show ¬ Pure.begins t = false by simp [Pure.begins, h46])))
      clear h46
      clear c0 c1 c2 c3 c4
      try clear j2
      obtain ⟨A1, cc1, rfl, -, -⟩ := Kd.R_reads HO.out
      have hlm : (acc.map segS).length = acc.length := List.length_map _
      rw [HTX.out, show strOfNums [46] = (⟨#[46]⟩ : ByteArray) from rfl] at HT
      by_cases h32 : acc.length = 32
      ·skip
       have b32 : (((acc.length : Nat) : Int) == 32) = true := by simp [h32]
       have HFC := Lib.hid (HS3.out.trans (if_pos h32))
       clear h32
       have c1 := (blk_cell HT.out 1).trans (show _ = some (.int .i64 (t.at_ : Int)) from rfl)
       go_wp2_with fail
       try rw [hlm]
       refine (new_calls 14 (t.at_ : Int) _ (by decide)).mono ?_
       rintro e w5 ⟨v_, rfl, he2, hb2⟩
       obtain ⟨T_, x_, rfl⟩ := he2.iface (.inl (by simp))
       have hblk := blk_below HRS.out.2 hb2
       have j1 := (blk_cell hblk 1).trans (show _ = some (.int .i64 (nz : Int)) from rfl)
       have e2 := blk_frozen hblk 2
       have j2 := (blk_cell hblk 2).trans (show _ = some .nilIface from rfl)
       have hst2 := HST.out.trans (Step.of_below hb2 HRS.out.lt)
       have HRS := Lib.hid (show RSt (w5.setCell ⟨b, 2, none⟩ (.iface T_ x_)) b s (.inr (t.at_, 14)) from ⟨(nz : Int), T_, x_, blk_put hblk 2 _ rfl, he2.far (g := b) 2 (.iface T_ x_) j1⟩)
       have HST := Lib.hid (show Step w0 (w5.setCell ⟨b, 2, none⟩ (.iface T_ x_)) b from ⟨hst2.1.setCell (Nat.le_refl b) _, hst2.2.set_ 2 _⟩)
       clear he2 hb2 hblk hst2 c1 j1
       go_upto_region 23 with (fail)
       clear e2 j2
       generalize (w5.setCell ⟨b, 2, none⟩ (.iface T_ x_)) = w99 at HRS HST ⊢
       have HPR := Lib.hid (show Pure.parseC (bytesOf s) = .inr (t.at_, 14) by unfold Pure.parseC; rw [HM.out, HFC.out])
       obtain ⟨x_, T_, u_, hb1, he_⟩ := HRS.out
       have HE := Lib.hid he_
       have j2 := (blk_cell hb1 2).trans (show _ = some (.iface T_ u_) from rfl)
       clear hb1 he_
       go_wp2
       repeat (go_step3; go_wp2)
       go_quiet (fail)
       go_wp2
       repeat (go_step3; go_wp2)
       try rw [Exit.noGoto_ret]
       go_ret2
       have hbf : Below w.heap.size w w99 := Below.trans HB0.out (by rw [HEQ.out]; exact HST.out.1)
       rw [HPR.out]
       exact ⟨⟨_, rfl, HE.out.below (pw_below_drewN (Below.refl _ _) _) (Nat.le_refl _)⟩, pw_below_drewN hbf _⟩
      ·skip
       have b32 : (((acc.length : Nat) : Int) == 32) = false := by simpa using (fun h_ : (acc.length : Int) = 32 => h32 (by omega))
       have HNE := Lib.hid h32
       have HS4 := Lib.hid (HS3.out.trans (if_neg h32))
       clear h32
       replace HO := Lib.hid (Kd.R_mono (Kd.R_alloc (Kd.R_elderB HO.out w4.heap.size (Nat.le_refl _)) (.cells #[.int .i64 4, .int .i64 0, .int .i64 0, .int .i64 0, .string ⟨#[]⟩] 83)) (fun k hk => hk.2))
       rw [hlm] at HO HNL
       go_upto_region 12 with (fail)
       try rw [hlm]
       have hba := below_alloc (Below.refl w4.heap.size w4) (.cells #[.int .i64 4, .int .i64 0, .int .i64 0, .int .i64 0, .string ⟨#[]⟩] 83)
       have hn_ := Lib.hid (blk_new w4 (.cells #[.int .i64 4, .int .i64 0, .int .i64 0, .int .i64 0, .string ⟨#[]⟩] 83))
       have hggx : b < w4.heap.size := HRS.out.lt
       have HGEgx := Lib.hid (show w0.heap.size ≤ w4.heap.size from HST.out.2.1)
       have hdgx_gt : gt < w4.heap.size := blk_lt HT.out
       obtain ⟨HST, HRS, HSG⟩ := carryB HST HRS HSG hba
       replace HT := Lib.hid (blk_below HT.out hba)
       have HX := hn_
       clear hba hn_
       generalize (w4.alloc (.cells #[.int .i64 4, .int .i64 0, .int .i64 0, .int .i64 0, .string ⟨#[]⟩] 83)) = w5 at HO HRS HSG HST HX HT ⊢
       generalize w4.heap.size = gx at HO HX HGEgx hggx hdgx_gt ⊢
       have c4 := (blk_cell HT.out 4).trans (show _ = some (.string ⟨#[46]⟩) from rfl)
       have HOK := Lib.hid (show Pure.Ok (bytesOf s) nz (Pure.pointC (bytesOf s) (.inl nz)).2 from Pure.Ok.point (fun x hx => by obtain rfl := Sum.inl.inj hx; exact ⟨Nat.le_refl _, by rw [bytesOf_length]; exact HCL.out⟩))
       have HSG2 := Lib.hid (show Pure.segC (bytesOf s) t (.inl nz) = Pure.pointC (bytesOf s) (.inl nz) by unfold Pure.segC; rw [HTX.out]; rfl)
       rw [HSG2.out] at HS4
       obtain ⟨u, s2, hn2⟩ : ∃ u s2, Pure.nx (bytesOf s) (.inl nz) = (u, s2) := ⟨_, _, rfl⟩
       have HN2 := Lib.hid hn2
       have HI2 := Lib.hid (show Pure.InB u.text by have := nx_inb s (.inl nz); rwa [hn2] at this)
       clear hn2
       go_wp2_with fail
       refine (rnext_calls s b (.inl nz) _ HSG.out hsz HRS.out).mono ?_
       rw [HN2.out]
       rintro e w6 ⟨rfl, hrs, hst⟩
       dsimp only at hrs
       replace HO := Lib.hid (R_stepS HRS.out HO.out hst)
       replace HST := Lib.hid (HST.out.trans hst)
       replace HRS := Lib.hid hrs
       replace HSG := Lib.hid (HSG.out.step hst hsb)
       replace HT := Lib.hid (hst.blk HT.out (show gt ≠ b by omega))
       replace HX := Lib.hid (hst.blk HX.out (show gx ≠ b by omega))
       clear hrs hst
       unfold tokV
       clear c4
       go_upto_region 17 with (fail)
       have hba := below_alloc (Below.refl w6.heap.size w6) (.cells #[.int .i64 u.kind, .int .i64 (u.at_ : Int), .int .i64 (u.end_ : Int), .int .i64 u.n, .string (strOfNums u.text)] 24)
       have hn_ := Lib.hid (blk_new w6 (.cells #[.int .i64 u.kind, .int .i64 (u.at_ : Int), .int .i64 (u.end_ : Int), .int .i64 u.n, .string (strOfNums u.text)] 24))
       have hggu : b < w6.heap.size := HRS.out.lt
       have HGEgu := Lib.hid (show w0.heap.size ≤ w6.heap.size from HST.out.2.1)
       have hdgu_gt : gt < w6.heap.size := blk_lt HT.out
       have hdgu_gx : gx < w6.heap.size := blk_lt HX.out
       obtain ⟨HST, HRS, HSG⟩ := carryB HST HRS HSG hba
       replace HT := Lib.hid (blk_below HT.out hba)
       replace HX := Lib.hid (blk_below HX.out hba)
       replace HO := Lib.hid (Kd.R_below HO.out hba)
       have HU := hn_
       clear hba hn_
       generalize (w6.alloc (.cells #[.int .i64 u.kind, .int .i64 (u.at_ : Int), .int .i64 (u.end_ : Int), .int .i64 u.n, .string (strOfNums u.text)] 24)) = w7 at HRS HSG HST HU HT HX HO ⊢
       generalize w6.heap.size = gu at HU HGEgu hggu hdgu_gt hdgu_gx ⊢
       have c4 := (blk_cell HU.out 4).trans (show _ = some (.string (strOfNums u.text)) from rfl)
       obtain ⟨y0, y1, y2, y3, y4⟩ := cells5 HX.out
       obtain ⟨yf0, yf1, yf2, yf3, yf4⟩ := frozen5 HX.out
       go_upto_region 18 with (fail)
       clear y0 yf0 y1 yf1 y2 yf2 y3 yf3 y4 yf4
       have hset_ := Lib.hid (put5 (.int .i64 0) (.int .i64 0) (.int .i64 0) (.int .i64 0) (.string (strOfNums u.text)) HX.out)
       replace HRS := Lib.hid (RSt.set5 (.int .i64 0) (.int .i64 0) (.int .i64 0) (.int .i64 0) (.string (strOfNums u.text)) (show b ≠ gx by omega) HRS.out HX.out)
       replace HSG := Lib.hid (Signs.set5 (.int .i64 0) (.int .i64 0) (.int .i64 0) (.int .i64 0) (.string (strOfNums u.text)) (show (0 : Nat) ≠ gx by omega) HSG.out)
       replace HST := Lib.hid (Step.set5w (.int .i64 0) (.int .i64 0) (.int .i64 0) (.int .i64 0) (.string (strOfNums u.text)) HST.out (show b ≤ gx by omega) HGEgx.out)
       replace HT := Lib.hid (far5 (.int .i64 0) (.int .i64 0) (.int .i64 0) (.int .i64 0) (.string (strOfNums u.text)) (show gt ≠ gx by omega) HT.out)
       replace HU := Lib.hid (far5 (.int .i64 0) (.int .i64 0) (.int .i64 0) (.int .i64 0) (.string (strOfNums u.text)) (show gu ≠ gx by omega) HU.out)
       replace HO := Lib.hid (R_far5 (.int .i64 0) (.int .i64 0) (.int .i64 0) (.int .i64 0) (.string (strOfNums u.text)) HO.out)
       have HX := hset_
       clear hset_
       generalize (((((w7.setCell ⟨gx, 0, none⟩ (.int .i64 0)).setCell ⟨gx, 1, none⟩ (.int .i64 0)).setCell ⟨gx, 2, none⟩ (.int .i64 0)).setCell ⟨gx, 3, none⟩ (.int .i64 0)).setCell ⟨gx, 4, none⟩ (.string (strOfNums u.text))) = w8 at HRS HSG HST HT HX HU HO ⊢
       clear c4
       obtain ⟨c0, c1, c2, c3, c4⟩ := cells5 HU.out
       go_wp2_with fail
       refine (is_calls u ⟨#[42]⟩ HI2.out _).mono ?_
       rintro e w9 ⟨rfl, hb_⟩
       obtain ⟨HST, HRS, HSG⟩ := carryB HST HRS HSG hb_
       replace HT := Lib.hid (blk_below HT.out hb_)
       replace HX := Lib.hid (blk_below HX.out hb_)
       replace HU := Lib.hid (blk_below HU.out hb_)
       replace HO := Lib.hid (Kd.R_below HO.out hb_)
       clear hb_
       have hbl : bytesOf (⟨#[42]⟩ : ByteArray) = [42] := rfl
       rw [hbl]
       clear hbl c0 c1 c2 c3 c4
       cases h42 : Pure.isS u [42] with
       | true =>
        have HPT := Lib.hid (show Pure.pointC (bytesOf s) (.inl nz) = (⟨3, 0, 0, 0, []⟩, s2) by unfold Pure.pointC; rw [HN2.out]; simp [h42])
        clear h42
        obtain ⟨y0, y1, y2, y3, y4⟩ := cells5 HX.out
        obtain ⟨yf0, yf1, yf2, yf3, yf4⟩ := frozen5 HX.out
        go_upto_region 22 with (fail)
        clear y0 yf0 y1 yf1 y2 yf2 y3 yf3 y4 yf4
        have hset_ := Lib.hid (put5 (.int .i64 3) (.int .i64 0) (.int .i64 0) (.int .i64 0) (.string ⟨#[]⟩) HX.out)
        replace HRS := Lib.hid (RSt.set5 (.int .i64 3) (.int .i64 0) (.int .i64 0) (.int .i64 0) (.string ⟨#[]⟩) (show b ≠ gx by omega) HRS.out HX.out)
        replace HSG := Lib.hid (Signs.set5 (.int .i64 3) (.int .i64 0) (.int .i64 0) (.int .i64 0) (.string ⟨#[]⟩) (show (0 : Nat) ≠ gx by omega) HSG.out)
        replace HST := Lib.hid (Step.set5w (.int .i64 3) (.int .i64 0) (.int .i64 0) (.int .i64 0) (.string ⟨#[]⟩) HST.out (show b ≤ gx by omega) HGEgx.out)
        replace HT := Lib.hid (far5 (.int .i64 3) (.int .i64 0) (.int .i64 0) (.int .i64 0) (.string ⟨#[]⟩) (show gt ≠ gx by omega) HT.out)
        replace HU := Lib.hid (far5 (.int .i64 3) (.int .i64 0) (.int .i64 0) (.int .i64 0) (.string ⟨#[]⟩) (show gu ≠ gx by omega) HU.out)
        replace HO := Lib.hid (R_far5 (.int .i64 3) (.int .i64 0) (.int .i64 0) (.int .i64 0) (.string ⟨#[]⟩) HO.out)
        have HX := hset_
        clear hset_
        generalize (((((w9.setCell ⟨gx, 0, none⟩ (.int .i64 3)).setCell ⟨gx, 1, none⟩ (.int .i64 0)).setCell ⟨gx, 2, none⟩ (.int .i64 0)).setCell ⟨gx, 3, none⟩ (.int .i64 0)).setCell ⟨gx, 4, none⟩ (.string ⟨#[]⟩)) = w10 at HRS HSG HST HT HX HU HO ⊢
        rw [HPT.out] at HOK HS4
        have HFN := HS4
        clear HS4
        obtain ⟨c0, c1, c2, c3, c4⟩ := cells5 HX.out
        have HOX := HO
        go_wp2_with (first | ((with_reducible refine gate_builtin (b := .append) (xs := #[.tmp 82, .tmp 84]) rfl ?_); at_builtin; refine Kd.R_append k83 (w0 := w10) w0.heap.size rfl (.tmp 82) (.tmp 84) 50 83 (.agg #[.int .i64 0, .int .i64 0, .int .i64 0, .int .i64 0, .string ⟨#[]⟩]) 48 rfl Tryd.underlying50 infoSeg rfl (by decide) (by omega) _ (acc.map segS) (segS ⟨3, 0, 0, 0, []⟩) [.int .i64 3, .int .i64 0, .int .i64 0, .int .i64 0, .string ⟨#[]⟩] (fun k_ => k_ ≠ gx) (fun _ => False) rfl (by first | (go_simp; done) | (go_simp; rfl)) ?aP (fun _ hk => hk.elim) ?aF ?aO ?aB ?aS ?aL ?_; (case aP => exact k83_mkM _ _ _ (segS ⟨3, 0, 0, 0, []⟩)); (case aB => exact Below.refl _ _); (case aF => exact (fun k_ hk => Kd.freshB (g := gx) HX.out k_ hk)); (case aO => exact HO.out); (case aS => exact HST.out.2.1); (case aL => have := HAC.out; have := HNE.out; simp only [List.length_map]; omega); intro v9 w9 ho hb hg hat; have HO9 := Lib.hid ho; have HK9 := Lib.hid (app_keepS hb0 hsb HRS.out HSG.out HST.out HO.out (fun h_ => HNL.out (List.map_eq_nil_iff.1 h_)) hb hg); clear hat hg ho hb))
        go_roundg (Pure.room (bytesOf s) s2)
        case measure => rw [HKK.out]; exact Pure.room_less HAL.out HCL.out HOK.out
        case rel =>
         obtain ⟨q1, q2, q3⟩ := HK9.out
         refine ⟨acc ++ [⟨3, 0, 0, 0, []⟩], s2, q1, q2, q3, by rw [List.map_append]; exact Kd.R_mono HO9.out (fun _ _ => trivial), fun h_ => by simp at h_, HFN.out, rfl, ?_⟩
         have h1 := HAC.out
         have h2 := HNE.out
         simp only [List.length_append, List.length_cons, List.length_nil]
         omega
       | false =>
        obtain ⟨c0, c1, c2, c3, c4⟩ := cells5 HU.out
        by_cases h2 : u.kind = 2
        ·skip
         have HPT := Lib.hid (show Pure.pointC (bytesOf s) (.inl nz) = (⟨0, 0, 0, 0, u.text⟩, s2) by unfold Pure.pointC; rw [HN2.out]; simp [h42, h2])
         clear h42
         have b2 : (u.kind != 2) = false := by simp [h2]
         clear h2
         go_upto_region 22 with (fail)
         clear c0 c1 c2 c3 c4
         rw [HPT.out] at HOK HS4
         have HFN := HS4
         clear HS4
         obtain ⟨c0, c1, c2, c3, c4⟩ := cells5 HX.out
         have HOX := HO
         go_wp2_with (first | ((with_reducible refine gate_builtin (b := .append) (xs := #[.tmp 82, .tmp 84]) rfl ?_); at_builtin; refine Kd.R_append k83 (w0 := w9) w0.heap.size rfl (.tmp 82) (.tmp 84) 50 83 (.agg #[.int .i64 0, .int .i64 0, .int .i64 0, .int .i64 0, .string ⟨#[]⟩]) 48 rfl Tryd.underlying50 infoSeg rfl (by decide) (by omega) _ (acc.map segS) (segS ⟨0, 0, 0, 0, u.text⟩) [.int .i64 0, .int .i64 0, .int .i64 0, .int .i64 0, .string (strOfNums u.text)] (fun k_ => k_ ≠ gx) (fun _ => False) rfl (by first | (go_simp; done) | (go_simp; rfl)) ?aP (fun _ hk => hk.elim) ?aF ?aO ?aB ?aS ?aL ?_; (case aP => exact k83_mkM _ _ _ (segS ⟨0, 0, 0, 0, u.text⟩)); (case aB => exact Below.refl _ _); (case aF => exact (fun k_ hk => Kd.freshB (g := gx) HX.out k_ hk)); (case aO => exact HO.out); (case aS => exact HST.out.2.1); (case aL => have := HAC.out; have := HNE.out; simp only [List.length_map]; omega); intro v9 w9 ho hb hg hat; have HO9 := Lib.hid ho; have HK9 := Lib.hid (app_keepS hb0 hsb HRS.out HSG.out HST.out HO.out (fun h_ => HNL.out (List.map_eq_nil_iff.1 h_)) hb hg); clear hat hg ho hb))
         go_roundg (Pure.room (bytesOf s) s2)
         case measure => rw [HKK.out]; exact Pure.room_less HAL.out HCL.out HOK.out
         case rel =>
          obtain ⟨q1, q2, q3⟩ := HK9.out
          refine ⟨acc ++ [⟨0, 0, 0, 0, u.text⟩], s2, q1, q2, q3, by rw [List.map_append]; exact Kd.R_mono HO9.out (fun _ _ => trivial), fun h_ => by simp at h_, HFN.out, rfl, ?_⟩
          have h1 := HAC.out
          have h2 := HNE.out
          simp only [List.length_append, List.length_cons, List.length_nil]
          omega
        ·skip
         have HPT := Lib.hid (show Pure.pointC (bytesOf s) (.inl nz) = (⟨0, 0, 0, 0, u.text⟩, Pure.bd (bytesOf s) u s2) by unfold Pure.pointC; rw [HN2.out]; simp [h42, h2])
         clear h42
         have b2 : (u.kind != 2) = true := by simp [h2]
         clear h2
         go_wp2_with fail
         refine (bad_calls s b s2 u _ hsz HRS.out).mono ?_
         rintro e w10 ⟨rfl, hrs, hst⟩
         replace HO := Lib.hid (R_stepS HRS.out HO.out hst)
         replace HST := Lib.hid (HST.out.trans hst)
         replace HRS := Lib.hid hrs
         replace HSG := Lib.hid (HSG.out.step hst hsb)
         replace HT := Lib.hid (hst.blk HT.out (show gt ≠ b by omega))
         replace HX := Lib.hid (hst.blk HX.out (show gx ≠ b by omega))
         replace HU := Lib.hid (hst.blk HU.out (show gu ≠ b by omega))
         clear hrs hst
         go_upto_region 22 with (fail)
         clear c0 c1 c2 c3 c4
         rw [HPT.out] at HOK HS4
         have HFN := HS4
         clear HS4
         obtain ⟨c0, c1, c2, c3, c4⟩ := cells5 HX.out
         have HOX := HO
         go_wp2_with (first | ((with_reducible refine gate_builtin (b := .append) (xs := #[.tmp 82, .tmp 84]) rfl ?_); at_builtin; refine Kd.R_append k83 (w0 := w10) w0.heap.size rfl (.tmp 82) (.tmp 84) 50 83 (.agg #[.int .i64 0, .int .i64 0, .int .i64 0, .int .i64 0, .string ⟨#[]⟩]) 48 rfl Tryd.underlying50 infoSeg rfl (by decide) (by omega) _ (acc.map segS) (segS ⟨0, 0, 0, 0, u.text⟩) [.int .i64 0, .int .i64 0, .int .i64 0, .int .i64 0, .string (strOfNums u.text)] (fun k_ => k_ ≠ gx) (fun _ => False) rfl (by first | (go_simp; done) | (go_simp; rfl)) ?aP (fun _ hk => hk.elim) ?aF ?aO ?aB ?aS ?aL ?_; (case aP => exact k83_mkM _ _ _ (segS ⟨0, 0, 0, 0, u.text⟩)); (case aB => exact Below.refl _ _); (case aF => exact (fun k_ hk => Kd.freshB (g := gx) HX.out k_ hk)); (case aO => exact HO.out); (case aS => exact HST.out.2.1); (case aL => have := HAC.out; have := HNE.out; simp only [List.length_map]; omega); intro v9 w9 ho hb hg hat; have HO9 := Lib.hid ho; have HK9 := Lib.hid (app_keepS hb0 hsb HRS.out HSG.out HST.out HO.out (fun h_ => HNL.out (List.map_eq_nil_iff.1 h_)) hb hg); clear hat hg ho hb))
         go_roundg (Pure.room (bytesOf s) (Pure.bd (bytesOf s) u s2))
         case measure => rw [HKK.out]; exact Pure.room_less HAL.out HCL.out HOK.out
         case rel =>
          obtain ⟨q1, q2, q3⟩ := HK9.out
          refine ⟨acc ++ [⟨0, 0, 0, 0, u.text⟩], (Pure.bd (bytesOf s) u s2), q1, q2, q3, by rw [List.map_append]; exact Kd.R_mono HO9.out (fun _ _ => trivial), fun h_ => by simp at h_, HFN.out, rfl, ?_⟩
          have h1 := HAC.out
          have h2 := HNE.out
          simp only [List.length_append, List.length_cons, List.length_nil]
          omega
     | false =>
      obtain ⟨c0, c1, c2, c3, c4⟩ := cells5 HT.out
      go_wp2_with fail
      refine (is_calls t ⟨#[46, 46]⟩ (Lib.hid HTO.out.1).out _).mono ?_
      rintro e w5 ⟨rfl, hb_⟩
      obtain ⟨HST, HRS, HSG⟩ := carryB HST HRS HSG hb_
      replace HT := Lib.hid (blk_below HT.out hb_)
      replace HO := Lib.hid (Kd.R_below HO.out hb_)
      clear hb_
      have hbl : bytesOf (⟨#[46, 46]⟩ : ByteArray) = [46, 46] := rfl
      rw [hbl]
      clear hbl c0 c1 c2 c3 c4
      cases h4646 : Pure.isS t [46, 46] with
      | true =>
       obtain ⟨c0, c1, c2, c3, c4⟩ := cells5 HT.out
       have HTX := Lib.hid (Pure.isS_text h4646)
       have HS3 := Lib.hid (HS2.out.trans (if_neg (show ¬ Pure.begins t = false by simp [Pure.begins, h4646])))
       clear h46 h4646
       clear c0 c1 c2 c3 c4
       try clear j2
       obtain ⟨A1, cc1, rfl, -, -⟩ := Kd.R_reads HO.out
       have hlm : (acc.map segS).length = acc.length := List.length_map _
       rw [HTX.out, show strOfNums [46, 46] = (⟨#[46, 46]⟩ : ByteArray) from rfl] at HT
       by_cases h32 : acc.length = 32
       ·skip
        have b32 : (((acc.length : Nat) : Int) == 32) = true := by simp [h32]
        have HFC := Lib.hid (HS3.out.trans (if_pos h32))
        clear h32
        have c1 := (blk_cell HT.out 1).trans (show _ = some (.int .i64 (t.at_ : Int)) from rfl)
        go_wp2_with fail
        try rw [hlm]
        refine (new_calls 14 (t.at_ : Int) _ (by decide)).mono ?_
        rintro e w6 ⟨v_, rfl, he2, hb2⟩
        obtain ⟨T_, x_, rfl⟩ := he2.iface (.inl (by simp))
        have hblk := blk_below HRS.out.2 hb2
        have j1 := (blk_cell hblk 1).trans (show _ = some (.int .i64 (nz : Int)) from rfl)
        have e2 := blk_frozen hblk 2
        have j2 := (blk_cell hblk 2).trans (show _ = some .nilIface from rfl)
        have hst2 := HST.out.trans (Step.of_below hb2 HRS.out.lt)
        have HRS := Lib.hid (show RSt (w6.setCell ⟨b, 2, none⟩ (.iface T_ x_)) b s (.inr (t.at_, 14)) from ⟨(nz : Int), T_, x_, blk_put hblk 2 _ rfl, he2.far (g := b) 2 (.iface T_ x_) j1⟩)
        have HST := Lib.hid (show Step w0 (w6.setCell ⟨b, 2, none⟩ (.iface T_ x_)) b from ⟨hst2.1.setCell (Nat.le_refl b) _, hst2.2.set_ 2 _⟩)
        clear he2 hb2 hblk hst2 c1 j1
        go_upto_region 23 with (fail)
        clear e2 j2
        generalize (w6.setCell ⟨b, 2, none⟩ (.iface T_ x_)) = w99 at HRS HST ⊢
        have HPR := Lib.hid (show Pure.parseC (bytesOf s) = .inr (t.at_, 14) by unfold Pure.parseC; rw [HM.out, HFC.out])
        obtain ⟨x_, T_, u_, hb1, he_⟩ := HRS.out
        have HE := Lib.hid he_
        have j2 := (blk_cell hb1 2).trans (show _ = some (.iface T_ u_) from rfl)
        clear hb1 he_
        go_wp2
        repeat (go_step3; go_wp2)
        go_quiet (fail)
        go_wp2
        repeat (go_step3; go_wp2)
        try rw [Exit.noGoto_ret]
        go_ret2
        have hbf : Below w.heap.size w w99 := Below.trans HB0.out (by rw [HEQ.out]; exact HST.out.1)
        rw [HPR.out]
        exact ⟨⟨_, rfl, HE.out.below (pw_below_drewN (Below.refl _ _) _) (Nat.le_refl _)⟩, pw_below_drewN hbf _⟩
       ·skip
        have b32 : (((acc.length : Nat) : Int) == 32) = false := by simpa using (fun h_ : (acc.length : Int) = 32 => h32 (by omega))
        have HNE := Lib.hid h32
        have HS4 := Lib.hid (HS3.out.trans (if_neg h32))
        clear h32
        replace HO := Lib.hid (Kd.R_mono (Kd.R_alloc (Kd.R_elderB HO.out w5.heap.size (Nat.le_refl _)) (.cells #[.int .i64 4, .int .i64 0, .int .i64 0, .int .i64 0, .string ⟨#[]⟩] 83)) (fun k hk => hk.2))
        rw [hlm] at HO HNL
        go_upto_region 12 with (fail)
        try rw [hlm]
        have hba := below_alloc (Below.refl w5.heap.size w5) (.cells #[.int .i64 4, .int .i64 0, .int .i64 0, .int .i64 0, .string ⟨#[]⟩] 83)
        have hn_ := Lib.hid (blk_new w5 (.cells #[.int .i64 4, .int .i64 0, .int .i64 0, .int .i64 0, .string ⟨#[]⟩] 83))
        have hggx : b < w5.heap.size := HRS.out.lt
        have HGEgx := Lib.hid (show w0.heap.size ≤ w5.heap.size from HST.out.2.1)
        have hdgx_gt : gt < w5.heap.size := blk_lt HT.out
        obtain ⟨HST, HRS, HSG⟩ := carryB HST HRS HSG hba
        replace HT := Lib.hid (blk_below HT.out hba)
        have HX := hn_
        clear hba hn_
        generalize (w5.alloc (.cells #[.int .i64 4, .int .i64 0, .int .i64 0, .int .i64 0, .string ⟨#[]⟩] 83)) = w6 at HO HRS HSG HST HX HT ⊢
        generalize w5.heap.size = gx at HO HX HGEgx hggx hdgx_gt ⊢
        have c4 := (blk_cell HT.out 4).trans (show _ = some (.string ⟨#[46, 46]⟩) from rfl)
        have HOK := Lib.hid (show Pure.Ok (bytesOf s) nz (.inl nz) from fun x hx => by obtain rfl := Sum.inl.inj hx; exact ⟨Nat.le_refl _, by rw [bytesOf_length]; exact HCL.out⟩)
        have HSG2 := Lib.hid (show Pure.segC (bytesOf s) t (.inl nz) = (⟨4, 0, 0, 0, []⟩, .inl nz) by unfold Pure.segC; rw [HTX.out]; rfl)
        rw [HSG2.out] at HS4
        have HFN := HS4
        clear HS4
        go_upto_region 22 with (fail)
        clear c4
        obtain ⟨c0, c1, c2, c3, c4⟩ := cells5 HX.out
        have HOX := HO
        go_wp2_with (first | ((with_reducible refine gate_builtin (b := .append) (xs := #[.tmp 82, .tmp 84]) rfl ?_); at_builtin; refine Kd.R_append k83 (w0 := w6) w0.heap.size rfl (.tmp 82) (.tmp 84) 50 83 (.agg #[.int .i64 0, .int .i64 0, .int .i64 0, .int .i64 0, .string ⟨#[]⟩]) 48 rfl Tryd.underlying50 infoSeg rfl (by decide) (by omega) _ (acc.map segS) (segS ⟨4, 0, 0, 0, []⟩) [.int .i64 4, .int .i64 0, .int .i64 0, .int .i64 0, .string ⟨#[]⟩] (fun k_ => k_ ≠ gx) (fun _ => False) rfl (by first | (go_simp; done) | (go_simp; rfl)) ?aP (fun _ hk => hk.elim) ?aF ?aO ?aB ?aS ?aL ?_; (case aP => exact k83_mkM _ _ _ (segS ⟨4, 0, 0, 0, []⟩)); (case aB => exact Below.refl _ _); (case aF => exact (fun k_ hk => Kd.freshB (g := gx) HX.out k_ hk)); (case aO => exact HO.out); (case aS => exact HST.out.2.1); (case aL => have := HAC.out; have := HNE.out; simp only [List.length_map]; omega); intro v9 w9 ho hb hg hat; have HO9 := Lib.hid ho; have HK9 := Lib.hid (app_keepS hb0 hsb HRS.out HSG.out HST.out HO.out (fun h_ => HNL.out (List.map_eq_nil_iff.1 h_)) hb hg); clear hat hg ho hb))
        go_roundg (Pure.room (bytesOf s) (.inl nz))
        case measure => rw [HKK.out]; exact Pure.room_less HAL.out HCL.out HOK.out
        case rel =>
         obtain ⟨q1, q2, q3⟩ := HK9.out
         refine ⟨acc ++ [⟨4, 0, 0, 0, []⟩], (.inl nz), q1, q2, q3, by rw [List.map_append]; exact Kd.R_mono HO9.out (fun _ _ => trivial), fun h_ => by simp at h_, HFN.out, rfl, ?_⟩
         have h1 := HAC.out
         have h2 := HNE.out
         simp only [List.length_append, List.length_cons, List.length_nil]
         omega
      | false =>
       obtain ⟨c0, c1, c2, c3, c4⟩ := cells5 HT.out
       go_wp2_with fail
       refine (is_calls t ⟨#[91]⟩ (Lib.hid HTO.out.1).out _).mono ?_
       rintro e w6 ⟨rfl, hb_⟩
       obtain ⟨HST, HRS, HSG⟩ := carryB HST HRS HSG hb_
       replace HT := Lib.hid (blk_below HT.out hb_)
       replace HO := Lib.hid (Kd.R_below HO.out hb_)
       clear hb_
       have hbl : bytesOf (⟨#[91]⟩ : ByteArray) = [91] := rfl
       rw [hbl]
       clear hbl c0 c1 c2 c3 c4
       cases h91 : Pure.isS t [91] with
       | true =>
        obtain ⟨c0, c1, c2, c3, c4⟩ := cells5 HT.out
        have HTX := Lib.hid (Pure.isS_text h91)
        have HS3 := Lib.hid (HS2.out.trans (if_neg (show ¬ Pure.begins t = false by simp [Pure.begins, h91])))
        clear h46 h4646 h91
        clear c0 c1 c2 c3 c4
        try clear j2
        obtain ⟨A1, cc1, rfl, -, -⟩ := Kd.R_reads HO.out
        have hlm : (acc.map segS).length = acc.length := List.length_map _
        rw [HTX.out, show strOfNums [91] = (⟨#[91]⟩ : ByteArray) from rfl] at HT
        by_cases h32 : acc.length = 32
        ·skip
         have b32 : (((acc.length : Nat) : Int) == 32) = true := by simp [h32]
         have HFC := Lib.hid (HS3.out.trans (if_pos h32))
         clear h32
         have c1 := (blk_cell HT.out 1).trans (show _ = some (.int .i64 (t.at_ : Int)) from rfl)
         go_wp2_with fail
         try rw [hlm]
         refine (new_calls 14 (t.at_ : Int) _ (by decide)).mono ?_
         rintro e w7 ⟨v_, rfl, he2, hb2⟩
         obtain ⟨T_, x_, rfl⟩ := he2.iface (.inl (by simp))
         have hblk := blk_below HRS.out.2 hb2
         have j1 := (blk_cell hblk 1).trans (show _ = some (.int .i64 (nz : Int)) from rfl)
         have e2 := blk_frozen hblk 2
         have j2 := (blk_cell hblk 2).trans (show _ = some .nilIface from rfl)
         have hst2 := HST.out.trans (Step.of_below hb2 HRS.out.lt)
         have HRS := Lib.hid (show RSt (w7.setCell ⟨b, 2, none⟩ (.iface T_ x_)) b s (.inr (t.at_, 14)) from ⟨(nz : Int), T_, x_, blk_put hblk 2 _ rfl, he2.far (g := b) 2 (.iface T_ x_) j1⟩)
         have HST := Lib.hid (show Step w0 (w7.setCell ⟨b, 2, none⟩ (.iface T_ x_)) b from ⟨hst2.1.setCell (Nat.le_refl b) _, hst2.2.set_ 2 _⟩)
         clear he2 hb2 hblk hst2 c1 j1
         go_upto_region 23 with (fail)
         clear e2 j2
         generalize (w7.setCell ⟨b, 2, none⟩ (.iface T_ x_)) = w99 at HRS HST ⊢
         have HPR := Lib.hid (show Pure.parseC (bytesOf s) = .inr (t.at_, 14) by unfold Pure.parseC; rw [HM.out, HFC.out])
         obtain ⟨x_, T_, u_, hb1, he_⟩ := HRS.out
         have HE := Lib.hid he_
         have j2 := (blk_cell hb1 2).trans (show _ = some (.iface T_ u_) from rfl)
         clear hb1 he_
         go_wp2
         repeat (go_step3; go_wp2)
         go_quiet (fail)
         go_wp2
         repeat (go_step3; go_wp2)
         try rw [Exit.noGoto_ret]
         go_ret2
         have hbf : Below w.heap.size w w99 := Below.trans HB0.out (by rw [HEQ.out]; exact HST.out.1)
         rw [HPR.out]
         exact ⟨⟨_, rfl, HE.out.below (pw_below_drewN (Below.refl _ _) _) (Nat.le_refl _)⟩, pw_below_drewN hbf _⟩
        ·skip
         have b32 : (((acc.length : Nat) : Int) == 32) = false := by simpa using (fun h_ : (acc.length : Int) = 32 => h32 (by omega))
         have HNE := Lib.hid h32
         have HS4 := Lib.hid (HS3.out.trans (if_neg h32))
         clear h32
         replace HO := Lib.hid (Kd.R_mono (Kd.R_alloc (Kd.R_elderB HO.out w6.heap.size (Nat.le_refl _)) (.cells #[.int .i64 4, .int .i64 0, .int .i64 0, .int .i64 0, .string ⟨#[]⟩] 83)) (fun k hk => hk.2))
         rw [hlm] at HO HNL
         go_upto_region 12 with (fail)
         try rw [hlm]
         have hba := below_alloc (Below.refl w6.heap.size w6) (.cells #[.int .i64 4, .int .i64 0, .int .i64 0, .int .i64 0, .string ⟨#[]⟩] 83)
         have hn_ := Lib.hid (blk_new w6 (.cells #[.int .i64 4, .int .i64 0, .int .i64 0, .int .i64 0, .string ⟨#[]⟩] 83))
         have hggx : b < w6.heap.size := HRS.out.lt
         have HGEgx := Lib.hid (show w0.heap.size ≤ w6.heap.size from HST.out.2.1)
         have hdgx_gt : gt < w6.heap.size := blk_lt HT.out
         obtain ⟨HST, HRS, HSG⟩ := carryB HST HRS HSG hba
         replace HT := Lib.hid (blk_below HT.out hba)
         have HX := hn_
         clear hba hn_
         generalize (w6.alloc (.cells #[.int .i64 4, .int .i64 0, .int .i64 0, .int .i64 0, .string ⟨#[]⟩] 83)) = w7 at HO HRS HSG HST HX HT ⊢
         generalize w6.heap.size = gx at HO HX HGEgx hggx hdgx_gt ⊢
         have c4 := (blk_cell HT.out 4).trans (show _ = some (.string ⟨#[91]⟩) from rfl)
         have HOK := Lib.hid (show Pure.Ok (bytesOf s) nz (Pure.bracketC (bytesOf s) (.inl nz)).2 from Pure.Ok.bracket (fun x hx => by obtain rfl := Sum.inl.inj hx; exact ⟨Nat.le_refl _, by rw [bytesOf_length]; exact HCL.out⟩))
         have HSG2 := Lib.hid (show Pure.segC (bytesOf s) t (.inl nz) = Pure.bracketC (bytesOf s) (.inl nz) by unfold Pure.segC; rw [HTX.out]; rfl)
         rw [HSG2.out] at HS4
         obtain ⟨x, s3, hx⟩ : ∃ x s3, Pure.bracketC (bytesOf s) (.inl nz) = (x, s3) := ⟨_, _, rfl⟩
         have HX3 := Lib.hid hx
         rw [hx] at HOK HS4
         have HFN := HS4
         clear hx HS4
         go_wp2_with fail
         refine (bracket_calls s b (.inl nz) _ HSG.out hsz HRS.out hsb hsm).mono ?_
         rw [HX3.out]
         rintro e w8 ⟨rfl, hrs, hst⟩
         dsimp only at hrs
         replace HO := Lib.hid (R_stepS HRS.out HO.out hst)
         replace HST := Lib.hid (HST.out.trans hst)
         replace HRS := Lib.hid hrs
         replace HSG := Lib.hid (HSG.out.step hst hsb)
         replace HT := Lib.hid (hst.blk HT.out (show gt ≠ b by omega))
         replace HX := Lib.hid (hst.blk HX.out (show gx ≠ b by omega))
         clear hrs hst c4
         unfold segV
         obtain ⟨y0, y1, y2, y3, y4⟩ := cells5 HX.out
         obtain ⟨yf0, yf1, yf2, yf3, yf4⟩ := frozen5 HX.out
         go_upto_region 22 with (fail)
         clear y0 yf0 y1 yf1 y2 yf2 y3 yf3 y4 yf4
         have hset_ := Lib.hid (put5 (.int .i64 x.kind) (.int .i64 x.n) (.int .i64 x.lo) (.int .i64 x.hi) (.string (strOfNums x.text)) HX.out)
         replace HRS := Lib.hid (RSt.set5 (.int .i64 x.kind) (.int .i64 x.n) (.int .i64 x.lo) (.int .i64 x.hi) (.string (strOfNums x.text)) (show b ≠ gx by omega) HRS.out HX.out)
         replace HSG := Lib.hid (Signs.set5 (.int .i64 x.kind) (.int .i64 x.n) (.int .i64 x.lo) (.int .i64 x.hi) (.string (strOfNums x.text)) (show (0 : Nat) ≠ gx by omega) HSG.out)
         replace HST := Lib.hid (Step.set5w (.int .i64 x.kind) (.int .i64 x.n) (.int .i64 x.lo) (.int .i64 x.hi) (.string (strOfNums x.text)) HST.out (show b ≤ gx by omega) HGEgx.out)
         replace HT := Lib.hid (far5 (.int .i64 x.kind) (.int .i64 x.n) (.int .i64 x.lo) (.int .i64 x.hi) (.string (strOfNums x.text)) (show gt ≠ gx by omega) HT.out)
         replace HO := Lib.hid (R_far5 (.int .i64 x.kind) (.int .i64 x.n) (.int .i64 x.lo) (.int .i64 x.hi) (.string (strOfNums x.text)) HO.out)
         have HX := hset_
         clear hset_
         generalize (((((w8.setCell ⟨gx, 0, none⟩ (.int .i64 x.kind)).setCell ⟨gx, 1, none⟩ (.int .i64 x.n)).setCell ⟨gx, 2, none⟩ (.int .i64 x.lo)).setCell ⟨gx, 3, none⟩ (.int .i64 x.hi)).setCell ⟨gx, 4, none⟩ (.string (strOfNums x.text))) = w9 at HRS HSG HST HT HX HO ⊢
         obtain ⟨c0, c1, c2, c3, c4⟩ := cells5 HX.out
         have HOX := HO
         go_wp2_with (first | ((with_reducible refine gate_builtin (b := .append) (xs := #[.tmp 82, .tmp 84]) rfl ?_); at_builtin; refine Kd.R_append k83 (w0 := w9) w0.heap.size rfl (.tmp 82) (.tmp 84) 50 83 (.agg #[.int .i64 0, .int .i64 0, .int .i64 0, .int .i64 0, .string ⟨#[]⟩]) 48 rfl Tryd.underlying50 infoSeg rfl (by decide) (by omega) _ (acc.map segS) (segS x) [.int .i64 x.kind, .int .i64 x.n, .int .i64 x.lo, .int .i64 x.hi, .string (strOfNums x.text)] (fun k_ => k_ ≠ gx) (fun _ => False) rfl (by first | (go_simp; done) | (go_simp; rfl)) ?aP (fun _ hk => hk.elim) ?aF ?aO ?aB ?aS ?aL ?_; (case aP => exact k83_mkM _ _ _ (segS x)); (case aB => exact Below.refl _ _); (case aF => exact (fun k_ hk => Kd.freshB (g := gx) HX.out k_ hk)); (case aO => exact HO.out); (case aS => exact HST.out.2.1); (case aL => have := HAC.out; have := HNE.out; simp only [List.length_map]; omega); intro v9 w9 ho hb hg hat; have HO9 := Lib.hid ho; have HK9 := Lib.hid (app_keepS hb0 hsb HRS.out HSG.out HST.out HO.out (fun h_ => HNL.out (List.map_eq_nil_iff.1 h_)) hb hg); clear hat hg ho hb))
         go_roundg (Pure.room (bytesOf s) s3)
         case measure => rw [HKK.out]; exact Pure.room_less HAL.out HCL.out HOK.out
         case rel =>
          obtain ⟨q1, q2, q3⟩ := HK9.out
          refine ⟨acc ++ [x], s3, q1, q2, q3, by rw [List.map_append]; exact Kd.R_mono HO9.out (fun _ _ => trivial), fun h_ => by simp at h_, HFN.out, rfl, ?_⟩
          have h1 := HAC.out
          have h2 := HNE.out
          simp only [List.length_append, List.length_cons, List.length_nil]
          omega
       | false =>
        obtain ⟨c0, c1, c2, c3, c4⟩ := cells5 HT.out
        have HFC := Lib.hid (show Pure.parC (bytesOf s) st1 [] = (acc, Pure.bd (bytesOf s) t (.inl nz)) by rw [HS2.out, if_pos (show Pure.begins t = false by simp [Pure.begins, h46, h4646, h91])]; rfl)
        try clear j2
        clear h46 h4646 h91
        go_wp2_with fail
        refine (bad_calls s b (.inl nz) t _ hsz HRS.out).mono ?_
        rintro e w7 ⟨rfl, hrs, hst⟩
        replace HO := Lib.hid (R_stepS HRS.out HO.out hst)
        replace HST := Lib.hid (HST.out.trans hst)
        replace HRS := Lib.hid hrs
        replace HSG := Lib.hid (HSG.out.step hst hsb)
        replace HT := Lib.hid (hst.blk HT.out (show gt ≠ b by omega))
        clear hrs hst
        clear c0 c1 c2 c3 c4
        have hbd : Pure.bd (bytesOf s) t (.inl nz) = .inr (Pure.badE (bytesOf s) t) := rfl
        rw [hbd] at HRS HFC
        clear hbd
        have HPR := Lib.hid (show Pure.parseC (bytesOf s) = .inr (Pure.badE (bytesOf s) t) by unfold Pure.parseC; rw [HM.out, HFC.out])
        obtain ⟨x_, T_, u_, hb1, he_⟩ := HRS.out
        have HE := Lib.hid he_
        have j2 := (blk_cell hb1 2).trans (show _ = some (.iface T_ u_) from rfl)
        clear hb1 he_
        go_wp2
        repeat (go_step3; go_wp2)
        go_quiet (fail)
        go_wp2
        repeat (go_step3; go_wp2)
        try rw [Exit.noGoto_ret]
        go_ret2
        have hbf : Below w.heap.size w w7 := Below.trans HB0.out (by rw [HEQ.out]; exact HST.out.1)
        rw [HPR.out]
        exact ⟨⟨_, rfl, HE.out.below (pw_below_drewN (Below.refl _ _) _) (Nat.le_refl _)⟩, pw_below_drewN hbf _⟩
end Go.Proofs.YtkbjblhompkdkaaDoor
namespace Go.Proofs.YtkbjblhompkdkaaDoor
open Go.RowKit Go.Proofs.YtkbjblhompkdkaaDoor.PA Go.Proofs.YtkbjblhompkdkaaDoor.PB Go.Proofs.YtkbjblhompkdkaaDoorW.PrintWords Go.Proofs.YtkbjblhompkdkaaDoorW.PrintLast
set_option linter.unusedVariables false
set_option linter.unusedSimpArgs false
namespace Pure
def openC (t : Tok) (n : Int) : Int := if isS t [40] = true then n + 1 else if isS t [41] = true then n - 1 else n
def depthC : List Tok → Int → Bool
 | [], n => n == 0
 | t :: ts, n => if openC t n < 0 then false else depthC ts (openC t n)
end Pure
def balC (l : List Int) : Bool := match allR l with
 | .inr _ => false
 | .inl ts => if ts = [] then false else if Pure.printS ts = l then Pure.depthC ts 0 else false
theorem rd_tok {ts : List Pure.Tok} {x : Int} {t : Pure.Tok} {us : List Pure.Tok} (h : ts.drop x.toNat = t :: us) : rd_T24 (ts.map tokS) x = tokS t := by
 have h1 : (ts.drop x.toNat)[0]? = some t := by rw [h]; rfl
 have h2 : ts[x.toNat]? = some t := by rw [List.getElem?_drop] at h1; exact h1
 simp [rd_T24, h2]
set_option maxRecDepth 100000 in
set_option maxHeartbeats 8000000 in
theorem balanced_calls (s : ByteArray) (w : World) (hs : Signs w) (hsz : s.size ≤ 140737488351232) :
  Calls Tryd.prog 31 #[.string s] w fun e w' => e = .returned (.bool (balC (bytesOf s))) ∧ Below w.heap.size w w' := by
 have HS := Lib.hid hs
 clear hs
 obtain ⟨res, hres⟩ : ∃ r, allR (bytesOf s) = r := ⟨_, rfl⟩
 have HRES := Lib.hid hres
 clear hres
 go_enter Tryd.func31, Tryd.ntmps31
 go_wp2_with fail
 refine (all_calls s w HS.out hsz).mono ?_
 rintro e w1 ⟨hpost, hb⟩
 rw [HRES.out] at hpost
 have HB := Lib.hid hb
 clear hb
 cases res with
 | inr pc =>
  obtain ⟨p, c⟩ := pc
  obtain ⟨v, rfl, he⟩ := hpost
  obtain ⟨T, x, rfl⟩ := he.iface (.inl (by simp))
  have HR := Lib.hid (show balC (bytesOf s) = false by unfold balC; rw [HRES.out])
  go_wp2
  go_ret
  rw [HR.out]
  exact ⟨rfl, HB.out⟩
 | inl ts =>
  obtain ⟨A, c, rfl, hc, hC⟩ := hpost
  have HC := Lib.hid hC
  have HCP := Lib.hid hc
  clear hc hC
  by_cases hnil : ts = []
  ·subst hnil
   have HR := Lib.hid (show balC (bytesOf s) = false by unfold balC; rw [HRES.out]; rfl)
   simp only [List.length_nil]
   go_wp2
   go_ret
   rw [HR.out]
   exact ⟨rfl, HB.out⟩
  obtain ⟨hfo, hle, hall⟩ := allR_ok HRES.out
  have hsm : s.size ≤ 1048576 := by
   rcases Nat.lt_or_ge 1048576 s.size with hh | hh
   ·have h2 := HRES.out
    unfold allR at h2
    rw [if_pos (by rw [bytesOf_length]; exact hh)] at h2
    simp at h2
   ·exact hh
  have htk := toks_ok (Pure.bytesOf_range s) hall
  rw [bytesOf_length] at hle htk
  obtain ⟨kp, hkp⟩ := print_toks s hsm ts hle htk
  have HP := Lib.hid (hkp kp (Nat.le_refl _))
  have HTK := Lib.hid htk
  have HIB := Lib.hid (Pure.print_bytes (Pure.bytesOf_range s) ts (Pure.allS_good _ ts 0 (Nat.zero_le _) hall))
  have b0 : ((ts.length : Int) == 0) = false := by
   cases ts with
   | nil => exact absurd rfl hnil
   | cons t l => simp only [List.length_cons, beq_eq_false_iff_ne]; omega
  have HNIL := Lib.hid hnil
  have HLE := Lib.hid (show ts.length ≤ 1048576 by omega)
  clear hkp htk hall hfo hle hnil
  go_wp2_with fail
  refine (print_c (List.length_map _) HC.out HCP.out HP.out).mono ?_
  rintro e w2 ⟨rfl, hb2⟩
  replace HC := Lib.hid (Kd.C_below HC.out hb2)
  replace HB := Lib.hid (below_then HB.out HB.out.size hb2)
  clear hb2 HP b0
  by_cases hp : Pure.printS ts = bytesOf s
  case neg =>
   have HR := Lib.hid (show balC (bytesOf s) = false by unfold balC; rw [HRES.out]; simp only []; rw [if_neg HNIL.out, if_neg hp])
   have b1 : ((strOfNums (Pure.printS ts)).toList == s.toList) = false := by
    rw [beq_eq_false_iff_ne]
    intro h_
    have h2 := Pure.toList_inj.1 h_
    apply hp
    rw [← h2]
    exact (Pure.bytesOf_strOfNums _ HIB.out).symm
   clear hp
   go_wp2
   go_ret
   rw [HR.out]
   exact ⟨rfl, HB.out⟩
  have HR := Lib.hid (show balC (bytesOf s) = Pure.depthC ts 0 by unfold balC; rw [HRES.out]; simp only []; rw [if_neg HNIL.out, if_pos hp])
  rw [hp, Pure.strOfNums_bytesOf]
  clear hp
  go_wp2
  repeat (go_step3; go_wp2)
  go_loopg [5, 28] ts.length (fun k vn vx wr => ∃ (x n : Int), vn = .int .i64 n ∧ vx = .int .i64 x ∧ 0 ≤ x ∧ x ≤ (ts.length : Int) ∧ 0 ≤ n ∧ n ≤ x ∧ Pure.depthC ts 0 = Pure.depthC (ts.drop x.toNat) n ∧ k + x.toNat = ts.length ∧ Below w.heap.size w wr ∧ Kd.C k24 wr A ts.length (ts.map tokS))
  case atStart => exact ⟨0, 0, rfl, rfl, by omega, by omega, by omega, by omega, rfl, rfl, HB.out, HC.out⟩
  case round =>
   clear HB HC
   obtain ⟨x, n, rfl, rfl, hx0, hx1, hn0, hn1, hD, hk, hB, hC⟩ := hrel
   have HB := Lib.hid hB
   have HC := Lib.hid hC
   have HD := Lib.hid hD
   have HM := Lib.hid hk
   clear hB hC hD hk
   have hlen : (ts.length : Int) ≤ 1048576 := by have := HLE.out; omega
   by_cases hx : x < (ts.length : Int)
   case neg =>
    have hd : ts.drop x.toNat = [] := List.drop_eq_nil_of_le (by omega)
    have HR2 := Lib.hid (show balC (bytesOf s) = (n == 0) by rw [HR.out, HD.out, hd]; rfl)
    clear hd
    go_wp2
    go_ret
    rw [HR2.out]
    exact ⟨rfl, HB.out⟩
   obtain ⟨t, us, hd⟩ : ∃ t us, ts.drop x.toNat = t :: us := by
    cases hd : ts.drop x.toNat with
    | nil => have := List.drop_eq_nil_iff.1 hd; omega
    | cons t us => exact ⟨t, us, rfl⟩
   have hus : ts.drop (x + 1).toNat = us := by
    rw [show (x + 1).toNat = x.toNat + 1 by omega, ← List.drop_drop, hd]
    rfl
   have HTI := Lib.hid (HTK.out t (List.mem_of_mem_drop (show t ∈ ts.drop x.toNat by rw [hd]; exact List.mem_cons_self))).1
   replace HTI := Lib.hid HTI.out
   rw [hd] at HD
   obtain ⟨ad, rfl, k0, k1, k2, k3, k4⟩ := at_T24 HC.out x hx0 hx
   rw [rd_tok hd] at k0 k1 k2 k3 k4
   dsimp only [tokS] at k0 k1 k2 k3 k4
   have HUS := Lib.hid hus
   clear hd hus
   go_upto_region 8 with (fail)
   have hba := below_alloc (Below.refl wr.heap.size wr) (.cells #[.int .i64 t.kind, .int .i64 (t.at_ : Int), .int .i64 (t.end_ : Int), .int .i64 t.n, .string (strOfNums t.text)] 24)
   have HT := Lib.hid (blk_new wr (.cells #[.int .i64 t.kind, .int .i64 (t.at_ : Int), .int .i64 (t.end_ : Int), .int .i64 t.n, .string (strOfNums t.text)] 24))
   replace HB := Lib.hid (below_then HB.out HB.out.size hba)
   replace HC := Lib.hid (Kd.C_below HC.out hba)
   clear hba k0 k1 k2 k3 k4
   generalize (wr.alloc (.cells #[.int .i64 t.kind, .int .i64 (t.at_ : Int), .int .i64 (t.end_ : Int), .int .i64 t.n, .string (strOfNums t.text)] 24)) = w5 at *
   generalize wr.heap.size = gt at *
   obtain ⟨c0, c1, c2, c3, c4⟩ := cells5 HT.out
   go_wp2_with fail
   refine (is_calls t ⟨#[40]⟩ HTI.out _).mono ?_
   rintro e w6 ⟨rfl, hb_⟩
   replace HB := Lib.hid (below_then HB.out HB.out.size hb_)
   replace HT := Lib.hid (blk_below HT.out hb_)
   replace HC := Lib.hid (Kd.C_below HC.out hb_)
   clear hb_ c0 c1 c2 c3 c4
   have hbl : bytesOf (⟨#[40]⟩ : ByteArray) = [40] := rfl
   rw [hbl]
   clear hbl
   cases h40 : Pure.isS t [40] with
   | true =>
    have hop : Pure.openC t n = n + 1 := by unfold Pure.openC; rw [if_pos h40]
    have hneg : ¬ (n + 1 < 0) := by omega
    have HD2 := Lib.hid (show Pure.depthC ts 0 = Pure.depthC (ts.drop (x + 1).toNat) (n + 1) by rw [HD.out, HUS.out]; simp only [Pure.depthC, hop, if_neg hneg])
    clear h40 hop hneg
    have hdec : decide (n + 1 < 0) = false := by simp; omega
    go_wp2
    repeat (go_step3; go_wp2)
    go_roundg (ts.length - (x.toNat + 1))
    case measure => have := HM.out; omega
    case rel => exact ⟨x + 1, n + 1, rfl, rfl, by omega, by omega, by omega, by omega, HD2.out, by have := HM.out; omega, HB.out, HC.out⟩
   | false =>
    obtain ⟨c0, c1, c2, c3, c4⟩ := cells5 HT.out
    go_wp2_with fail
    refine (is_calls t ⟨#[41]⟩ HTI.out _).mono ?_
    rintro e w7 ⟨rfl, hb_⟩
    replace HB := Lib.hid (below_then HB.out HB.out.size hb_)
    replace HT := Lib.hid (blk_below HT.out hb_)
    replace HC := Lib.hid (Kd.C_below HC.out hb_)
    clear hb_ c0 c1 c2 c3 c4
    have hbl : bytesOf (⟨#[41]⟩ : ByteArray) = [41] := rfl
    rw [hbl]
    clear hbl
    cases h41 : Pure.isS t [41] with
    | true =>
     have hop : Pure.openC t n = n - 1 := by unfold Pure.openC; rw [if_neg (by rw [h40]; decide), if_pos h41]
     clear h40 h41
     by_cases hneg : n - 1 < 0
     ·have HR2 := Lib.hid (show balC (bytesOf s) = false by rw [HR.out, HD.out]; simp only [Pure.depthC, hop, if_pos hneg])
      clear hop
      go_wp2
      repeat (go_step3; go_wp2)
      try rw [Exit.noGoto_ret]
      go_ret
      rw [HR2.out]
      exact ⟨rfl, HB.out⟩
     ·have HD2 := Lib.hid (show Pure.depthC ts 0 = Pure.depthC (ts.drop (x + 1).toNat) (n - 1) by rw [HD.out, HUS.out]; simp only [Pure.depthC, hop, if_neg hneg])
      clear hop
      go_wp2
      repeat (go_step3; go_wp2)
      go_roundg (ts.length - (x.toNat + 1))
      case measure => have := HM.out; omega
      case rel => exact ⟨x + 1, n - 1, rfl, rfl, by omega, by omega, by omega, by omega, HD2.out, by have := HM.out; omega, HB.out, HC.out⟩
    | false =>
     have hop : Pure.openC t n = n := by unfold Pure.openC; rw [if_neg (by rw [h40]; decide), if_neg (by rw [h41]; decide)]
     have hneg : ¬ (n < 0) := by omega
     have HD2 := Lib.hid (show Pure.depthC ts 0 = Pure.depthC (ts.drop (x + 1).toNat) n by rw [HD.out, HUS.out]; simp only [Pure.depthC, hop, if_neg hneg])
     clear h40 h41 hop hneg
     go_wp2
     repeat (go_step3; go_wp2)
     go_roundg (ts.length - (x.toNat + 1))
     case measure => have := HM.out; omega
     case rel => exact ⟨x + 1, n, rfl, rfl, by omega, by omega, by omega, by omega, HD2.out, by have := HM.out; omega, HB.out, HC.out⟩
end Go.Proofs.YtkbjblhompkdkaaDoor
namespace Go.Proofs.YtkbjblhompkdkaaDoor.PB
open Go.Proofs.YtkbjblhompkdkaaDoor.PA
open Go.RowKit Go.Proofs.YtkbjblhompkdkaaDoorW.PrintWords Go.Proofs.YtkbjblhompkdkaaDoorW.PrintLast
set_option linter.unusedVariables false
set_option linter.unusedSimpArgs false
theorem eqA83 (d : Nat) (w : World) (x0 y0 : Int) (x1 y1 : Int) (x2 y2 : Int) (x3 y3 : Int) (x4 y4 : ByteArray) :
  (Op.equalIn (d + 2) 83 (.agg #[.int .i64 x0, .int .i64 x1, .int .i64 x2, .int .i64 x3, .string x4]) (.agg #[.int .i64 y0, .int .i64 y1, .int .i64 y2, .int .i64 y3, .string y4])).run Tryd.prog w = .ok (x0 == y0 && (x1 == y1 && (x2 == y2 && (x3 == y3 && (x4.toList == y4.toList))))) w := by
 refine eqA_of Tryd.underlying83 (by kernel_rfl) ?_
 refine eqf_cons (by rfl) (by go_simp; rfl) (by go_simp; rfl) (by go_simp) ?_
 refine eqf_cons (by rfl) (by go_simp; rfl) (by go_simp; rfl) (by go_simp) ?_
 refine eqf_cons (by rfl) (by go_simp; rfl) (by go_simp; rfl) (by go_simp) ?_
 refine eqf_cons (by rfl) (by go_simp; rfl) (by go_simp; rfl) (by go_simp) ?_
 exact eqf_last (by rfl) (by go_simp; rfl) (by go_simp; rfl) (by go_simp)
end Go.Proofs.YtkbjblhompkdkaaDoor.PB
