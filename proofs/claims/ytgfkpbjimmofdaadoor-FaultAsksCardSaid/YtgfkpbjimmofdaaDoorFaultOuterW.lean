/- FaultOuter: the walk of the law by contracts. -/
import Derived.Test.YtgfkpbjimmofdaaDoorFaultCalls
namespace Go.Proofs.YtgfkpbjimmofdaaDoor
open Go.RowKit Go.Proofs.YtgfkpbjimmofdaaDoor.PA Go.Proofs.YtgfkpbjimmofdaaDoorW.PrintWords Go.Proofs.YtgfkpbjimmofdaaDoorW.PrintLast Go.Proofs.YtgfkpbjimmofdaaDoorW.PrintMore
set_option linter.unusedVariables false
set_option linter.unusedSimpArgs false

theorem wpList_of_step {P : Program} {ops : Array Oper} {Q : Exit → Act → World → Prop} {a : Act} {w : World} {rest : List Oper} {o : Oper} (hw : Region.wanted o (yielded ops a.tmps) = true)
    (h : if Region.wanted o (yielded ops a.tmps) = true then Oper.wp P o a w (wpList P ops Q rest) Q else wpList P ops Q rest (a.put o.dst undef) w) : wpList P ops Q (o :: rest) a w := by
  rw [if_pos hw] at h
  unfold wpList
  rw [if_pos hw]
  exact .inl h
theorem R_new1 (w : World) (base : Nat) (hb : base ≤ w.heap.size) (a : Int) :
    Kd.R (Kd.int .i64) 3 (w.alloc (.cells #[.int .i64 a] 3)) base (fun k => k = w.heap.size) (.slice (some ⟨w.heap.size, 0, none⟩) 1 1) [a] := by
  refine ⟨fun k hk => by simpa [Value.ownBlock] using hk.symm, [.int .i64 a], ?_, rfl, ?_⟩
  · have h2 := World.ownsRow_lit (base := base) (e := 3) (size := 1) w #[.int .i64 a] 1 hb (by decide) rfl
    simp at h2
    exact h2
  · intro j p hj
    match j, hj with
    | 0, hj =>
      have : a = p := by simpa using hj
      subst this
      exact rfl
    | j + 1, hj => simp at hj
/-- A chain stays as it is where only a block of one cell is turned. -/
theorem Err.keep {w w' : World} {n : Nat} {x : Value} {t : TypeId} (hk : KeepBut w w' n none) (hblk : w.heap[n]? = some (.cells #[x] t (0, 0))) {l : List Int} {c : Option Int} : ∀ {v : Value}, Err w v l c → Err w' v l c := by
  induction l with
  | nil => intro v h; cases c <;> exact h
  | cons a l ih =>
    rintro v ⟨b, u, rfl, h1, h2, h3⟩
    have hne : b ≠ n := by
      rintro rfl
      have := blk_cell hblk 1
      rw [h2] at this
      simp at this
    exact ⟨b, u, rfl, keep_cell hk h1 hne, keep_cell hk h2 hne, ih h3⟩
theorem ctext_calls {k : Nat} {b : Bool} {q : Int} {A : Option Addr} {n cap : Nat} {l : List Int} {r : ByteArray} {w : World} (h1 : Kd.C (Kd.int .i64) w A n l) (hc1 : n ≤ cap) (h : placketref04_Chain_Text.f k b q l = some r) :
    Calls Tryd.prog 18 #[.agg #[.bool b, .int .i64 q, .slice A n cap]] w fun e w' => e = .returned (.string r) ∧ Below w.heap.size w w' := by
  obtain rfl := Kd.C_len h1
  exact placketref04_Chain_Text.calls k b q A cap l r w h1 hc1 h
theorem error_calls (q : Int) (a : Int) (l : List Int) (b : Nat) (w : World) (hg : Laid w) (he : Err w (.iface 42 (.pointer (some ⟨b, 0, none⟩))) (a :: l) (some q)) (hq : Pure.InI q) (hin : ∀ n ∈ a :: l, Pure.InI n) (hlen : (a :: l).length ≤ 1000000) :
    Calls Tryd.prog 23 #[.pointer (some ⟨b, 0, none⟩)] w fun e w' => e = .returned (.string (Pure.textS true q (a :: l))) ∧ Below w.heap.size w w' := by
  have HG := Lib.hid hg
  have HE := Lib.hid he
  have HI := Lib.hid hin
  clear hg he hin
  go_enter Tryd.func23, Tryd.ntmps23
  go_wp2_with fail
  refine (text_of q (a :: l) (some q) _ w (.inl (by simp)) (fun w1 h1 h2 => code_some q (a :: l) _ w1 h1 h2) HG.out HE.out hq HI.out hlen).mono ?_
  rintro e w1 ⟨rfl, hb⟩
  have HB := Lib.hid hb
  clear hb
  go_wp2
  go_ret
  exact ⟨rfl, HB.out⟩

set_option maxHeartbeats 1000000 in
set_option maxRecDepth 100000 in
theorem outer_walk (code at_ out : Int) (A : Option Addr) (cap : Nat) (l : List Int) (w : World) (hg : Laid w) (hc : Kd.C (Kd.int .i64) w A l.length l) (hcap : l.length ≤ cap) (hcode : Pure.InI code) (hat : Pure.InI at_) (hout : Pure.InI out) (hin : ∀ n ∈ l, Pure.InI n) (hlen : l.length ≤ 140737488351232) :
    Calls Tryd.prog 5 #[.int .i64 code, .int .i64 at_, .int .i64 out, .slice A l.length cap] w fun e w' => e = .returned (.bool true) ∧ Below w.heap.size w w' := by
  have HG := Lib.hid hg
  have HC := Lib.hid hc
  have HI := Lib.hid hin
  clear hg hc hin
  go_enter Tryd.func5, Tryd.ntmps5
  go_wp2_with fail
  refine (live_calls w HG.out).mono ?_
  rintro e w1 ⟨rfl, hb1⟩
  have HB1 := Lib.hid hb1
  have HC1 := Lib.hid (Kd.C_below HC.out hb1)
  clear hb1
  by_cases hbig : (l.length : Int) > 100
  · go_wp2_with fail
    refine (live_calls w1 (HG.out.below HB1.out (Nat.le_refl _))).mono ?_
    rintro e w2 ⟨rfl, hb2⟩
    have HB2 := Lib.hid (below_then HB1.out HB1.out.size hb2)
    clear hb2
    go_wp2
    go_ret
    exact ⟨rfl, HB2.out⟩
  by_cases h0 : code = 0
  · subst h0
    go_wp2_with fail
    refine (live_calls w1 (HG.out.below HB1.out (Nat.le_refl _))).mono ?_
    rintro e w2 ⟨rfl, hb2⟩
    have HB2 := Lib.hid (below_then HB1.out HB1.out.size hb2)
    clear hb2
    go_wp2
    go_ret
    exact ⟨rfl, HB2.out⟩
  have h1 : (code == 0) = false := beq_eq_false_iff_ne.2 h0
  have HBf := Lib.hid (below_alloc HB1.out (.cells #[.pointer none] 42))
  have HKf := Lib.hid (blk_new w1 (.cells #[.pointer none] 42))
  have HCf := Lib.hid (Kd.C_alloc HC1.out (.cells #[.pointer none] 42))
  go_wp2_with fail
  refine (made_calls code at_ A cap l _ h0 HCf.out hcap hlen).mono ?_
  rintro e w2 ⟨v, rfl, he2, hb2⟩
  have HE2 := Lib.hid he2
  have HB2 := Lib.hid (below_then HBf.out HBf.out.size hb2)
  have HK2 := Lib.hid (blk_below HKf.out hb2)
  have HC2 := Lib.hid (Kd.C_below HCf.out hb2)
  have HN := Lib.hid (blk_lt HK2.out)
  have HNw := Lib.hid HB1.out.size
  clear he2 hb2
  generalize hn : w1.heap.size = n at *
  have HNN := Lib.hid hn
  clear hn
  go_wp2_with fail
  refine (in_calls out v _ _ w2 HE2.out (.inr (by simp))).mono ?_
  rintro e w3 ⟨b, rfl, ha, hu, he3, hb3⟩
  have HA3 := Lib.hid ha
  have HU3 := Lib.hid hu
  have HE3 := Lib.hid he3
  have HB3 := Lib.hid (below_then HB2.out HB2.out.size hb3)
  have HK3 := Lib.hid (blk_below HK2.out hb3)
  have HC3 := Lib.hid (Kd.C_below HC2.out hb3)
  clear ha hu he3 hb3
  go_wp2_with fail
  refine (as_F b n (.pointer none) w3 (HG.out.below HB3.out (Nat.le_refl _)) HK3.out).mono ?_
  rintro e w4 ⟨rfl, hb4, hk4, hblk4⟩
  have hne : b ≠ n := by
    rintro rfl
    have := blk_cell HK3.out 1
    rw [HU3.out] at this
    simp at this
  have ca := keep_cell hk4 HA3.out hne
  have cu := keep_cell hk4 HU3.out hne
  have HE4 := Lib.hid (Err.keep hk4 HK3.out HE3.out)
  have HB4 := Lib.hid (Below.trans HB3.out (hb4.mono HNw.out))
  have HC4 := Lib.hid (Kd.C_below HC.out HB4.out)
  have HK4 := Lib.hid hblk4
  have cf := blk_cell hblk4 0
  simp at cf
  clear hb4 hk4 hblk4
  obtain ⟨T, x, rfl⟩ := HE4.out.iface (.inr (by simp))
  have HCA := Lib.hid ca
  go_wp2_with fail
  refine (unwrap_calls b _ w4 cu).mono ?_
  rintro e w5 ⟨rfl, rfl⟩
  have HCU := Lib.hid cu
  clear cu
  go_wp2_with fail
  refine (code_some code _ _ w5 (HG.out.below HB4.out (Nat.le_refl _)) HE4.out).mono ?_
  rintro e w6 ⟨rfl, hb6⟩
  have HB6 := Lib.hid (below_then HB4.out HB4.out.size hb6)
  have HE6 := Lib.hid (HE4.out.below hb6 (Nat.le_refl _))
  have HCA6 := Lib.hid (pw_cell_below hb6 HCA.out)
  have HCU6 := Lib.hid (pw_cell_below hb6 HCU.out)
  have HK6 := Lib.hid (blk_below HK4.out hb6)
  clear hb6
  go_wp2_with fail
  refine (where_c _ _ _ w6 (HG.out.below HB6.out (Nat.le_refl _)) HE6.out (by simp; omega)).mono ?_
  rintro e w7 ⟨B7, c7, rfl, hc7, hC7, hb7⟩
  have HB7 := Lib.hid (below_then HB6.out HB6.out.size hb7)
  have HE7 := Lib.hid (HE6.out.below hb7 (Nat.le_refl _))
  have HCA7 := Lib.hid (pw_cell_below hb7 HCA6.out)
  have HCU7 := Lib.hid (pw_cell_below hb7 HCU6.out)
  have HK7 := Lib.hid (blk_below HK6.out hb7)
  have HC7 := Lib.hid hC7
  clear hb7 hC7
  go_wp2_with fail
  refine (where_c _ _ _ w7 (HG.out.below HB7.out (Nat.le_refl _)) HE7.out (by simp; omega)).mono ?_
  rintro e w8 ⟨B8, c8, rfl, hc8, hC8, hb8⟩
  have HB8 := Lib.hid (below_then HB7.out HB7.out.size hb8)
  have HE8 := Lib.hid (HE7.out.below hb8 (Nat.le_refl _))
  have HCA8 := Lib.hid (pw_cell_below hb8 HCA7.out)
  have HCU8 := Lib.hid (pw_cell_below hb8 HCU7.out)
  have HK8 := Lib.hid (blk_below HK7.out hb8)
  have HC78 := Lib.hid (Kd.C_below HC7.out hb8)
  have HC8 := Lib.hid hC8
  clear hb8 hC8
  obtain ⟨ks, hs⟩ := Pure.same_ev (l.reverse ++ [at_]) (l.reverse ++ [at_]) (by simp; omega)
  have HS := Lib.hid (hs ks (Nat.le_refl _))
  clear hs
  have e1 : (l.reverse ++ [at_]).length = l.length + 1 := by simp
  have h78 := HC78.out
  have h88 := HC8.out
  rw [e1] at h78 h88 hc7 hc8
  have H78 := Lib.hid h78
  have H88 := Lib.hid h88
  have HE1 := Lib.hid e1
  clear h78 h88 e1
  go_wp2_with fail
  refine (same_calls H78.out H88.out hc7 hc8 HS.out).mono ?_
  rintro e w9 ⟨rfl, ⟨nd, rfl⟩⟩
  have cf8 := (blk_cell HK8.out 0)
  simp at cf8
  have HE9 := Lib.hid (show Err (w8.drewN nd) (.iface 42 (.pointer (some ⟨b, 0, none⟩))) (out :: (l.reverse ++ [at_])) (some code) from ⟨b, _, rfl, HCA8.out, HCU8.out, HE8.out.below (pw_below_drewN (Below.refl _ w8) nd) (Nat.le_refl _)⟩)
  have HB9 := Lib.hid (pw_below_drewN HB8.out nd)
  have hin' : ∀ n ∈ out :: (l.reverse ++ [at_]), Pure.InI n := by
    intro n hn
    simp only [List.mem_cons, List.mem_append, List.mem_reverse, List.not_mem_nil, or_false] at hn
    rcases hn with rfl | hn | rfl
    · exact hout
    · exact HI.out n hn
    · exact hat
  have HI9 := Lib.hid hin'
  clear hin'
  go_wp2_with fail
  refine (error_calls code out _ b (w8.drewN nd) (HG.out.below HB9.out (Nat.le_refl _)) HE9.out hcode HI9.out (by simp; omega)).mono ?_
  rintro e w10 ⟨rfl, hb10⟩
  have HB10 := Lib.hid (below_then HB9.out HB9.out.size hb10)
  have HC10 := Lib.hid (Kd.C_below HC.out HB10.out)
  clear hb10
  obtain ⟨kt, ht⟩ := Pure.turned_ev l (by omega)
  have HT := Lib.hid (ht kt (Nat.le_refl _))
  clear ht
  have HBL := Lib.hid (below_alloc HB10.out (.cells #[.int .i64 out] 3))
  have HRL := Lib.hid (R_new1 w10 w10.heap.size (Nat.le_refl _) out)
  have HCL := Lib.hid (Kd.C_alloc HC10.out (.cells #[.int .i64 out] 3))
  go_wp2_with fail
  have HS10 := Lib.hid (show w10.heap.size < (w10.alloc (.cells #[.int .i64 out] 3)).heap.size by simp)
  have HSZ := Lib.hid HB10.out.size
  have HE2' := Lib.hid (show ([out] ++ (l.reverse ++ [at_])).length = l.length + 1 + 1 by simp)
  have HX := Lib.hid (below_alloc (Below.refl w10.heap.size w10) (.cells #[.int .i64 out] 3))
  generalize hwL : w10.alloc (.cells #[.int .i64 out] 3) = wL at *
  clear hwL
  generalize hn10 : w10.heap.size = n10 at *
  clear hn10
  refine (placketref04_Turned.calls kt A cap l l.reverse _ HCL.out hcap HT.out).mono ?_
  rintro e w11 ⟨vt, rfl, hR11, hb11⟩
  have HY11 := Lib.hid hb11
  have HRL11 := Lib.hid (Kd.R_below HRL.out hb11)
  have HNE := Lib.hid (show ∀ k, k = n10 → some k ≠ vt.ownBlock from fun k hk he => by have h2 := Kd.R_base hR11 k he.symm; have h3 := HS10.out; omega)
  have HR11 := Lib.hid hR11
  have HS11 := Lib.hid hb11.size
  clear hR11 hb11
  go_wp2_with (first | ((with_reducible refine gate_builtin (b := .append) (xs := #[.tmp 70, .tmp 72]) rfl ?_); at_builtin; refine wpList_of_step (by rfl) ?_; refine Kd.R_append_step (Kd.int .i64) (w0 := wL) wL.heap.size (by rfl) (.tmp 70) (.tmp 72) 23 3 (.int .i64 0) 8 rfl Tryd.underlying23 infoInt rfl (by decide) (by omega) vt l.reverse at_ [.int .i64 at_] (fun _ => True) (fun _ => False) rfl rfl ?aP (fun _ hk => hk.elim) ?aF ?aO ?aB ?aS ?aL ?_; (case aP => exact rfl); (case aB => exact HY11.out); (case aF => exact (fun _ _ => trivial)); (case aO => exact HR11.out); (case aS => exact HS11.out); (case aL => simp; omega); intro v12 w12 ho hb hg hat'; have HRL12 := Lib.hid (Kd.R_mono (Kd.R_grown HRL11.out hg HNE.out) (fun _ _ => trivial)); have HY12 := Lib.hid (Below.trans HX.out (hb.mono (Nat.le_of_lt HS10.out))); have HX12 := Lib.hid (below_then HBL.out HBL.out.size hb); obtain ⟨A12, c12, e12, hc12, hC12⟩ := Kd.R_reads ho; rw [HE1.out] at e12 hc12 hC12; have HC12 := Lib.hid hC12; have HS12 := Lib.hid (Nat.le_trans (Nat.le_of_lt HS10.out) hb.size); subst e12; clear ho hb hg hat' hC12) | ((with_reducible refine gate_builtin (b := .append) (xs := #[.tmp 68, .tmp 73]) rfl ?_); at_builtin; refine wpList_of_step (by rfl) ?_; refine Kd.R_append_rows_step (Kd.int .i64) (Rr := (Kd.int .i64).K w12) (w0 := w10) n10 (by rfl) (.tmp 68) (.tmp 73) 23 3 (.int .i64 0) 8 rfl Tryd.underlying23 infoInt rfl (by decide) (by omega) (.slice (some ⟨n10, 0, none⟩) 1 1) [out] (l.reverse ++ [at_]) A12 (l.length + 1) c12 (fun _ => True) (fun _ => False) rfl rfl HRL12.out HC12.out (fun _ _ h => h) (fun _ hk => hk.elim) (fun _ _ => trivial) HY12.out HS12.out (by simp; omega) ?_; intro v13 w13 ho hb hg hat'; obtain ⟨A13, c13, e13, hc13, hC13⟩ := Kd.R_reads ho; rw [HE2'.out] at e13 hc13 hC13; have HC13 := Lib.hid hC13; have HB13 := Lib.hid (Below.trans HB10.out (hb.mono HSZ.out)); subst e13; clear ho hb hg hat' hC13))
  obtain ⟨kx, hx⟩ := Pure.text_ev true code ([out] ++ (l.reverse ++ [at_])) hcode HI9.out (by rw [HE2'.out]; omega) (.inl rfl)
  have HXT := Lib.hid (hx kx (Nat.le_refl _))
  clear hx
  refine (ctext_calls HC13.out hc13 HXT.out).mono ?_
  rintro e w14 ⟨rfl, hb14⟩
  have HB14 := Lib.hid (below_then HB13.out HB13.out.size hb14)
  clear hb14
  go_wp2
  go_ret
  exact ⟨by simp, HB14.out⟩
end Go.Proofs.YtgfkpbjimmofdaaDoor
