/- LexNext: the walk of the law by contracts. -/
import Derived.Test.YtkbjblhompkdkaaDoorLexAllW
import Derived.Test.YtkbjblhompkdkaaDoorLexDoc
namespace Go.Proofs.YtkbjblhompkdkaaDoor
open Go.RowKit Go.Proofs.YtkbjblhompkdkaaDoor.PA Go.Proofs.YtkbjblhompkdkaaDoorW.PrintWords Go.Proofs.YtkbjblhompkdkaaDoorW.PrintLast Go.Proofs.YtkbjblhompkdkaaDoorW.PrintMore
set_option linter.unusedVariables false
set_option linter.unusedSimpArgs false

theorem nextI_bad {l : List Int} {a : Int} {q : Nat} {c : Int} (h : nextI l a = .inr (q, c)) : q ≤ l.length ∧ c ≠ 0 := by
  unfold nextI at h
  split at h
  · simp only [Sum.inr.injEq, Prod.mk.injEq] at h
    obtain ⟨rfl, rfl⟩ := h
    exact ⟨Nat.zero_le _, by decide⟩
  · exact Pure.nextS_bad (by omega) h

set_option maxRecDepth 100000 in
set_option maxHeartbeats 4000000 in
theorem lexNext_walk (s : ByteArray) (a : Int) (w : World) (hs : Signs w) (hg : Laid w) (hsz : s.size ≤ 140737488351232) :
    Calls Tryd.prog 3 #[.string s, .int .i64 a] w fun e w' => e = .returned (.bool true) ∧ Below w.heap.size w w' := by
  have HS := Lib.hid hs
  have HG := Lib.hid hg
  clear hs hg
  obtain ⟨k, hk⟩ := refnext_ev s hsz a
  have hk' := hk k (Nat.le_refl _)
  clear hk
  go_enter Tryd.func3, Tryd.ntmps3
  go_wp2_with fail
  refine (live_calls w HS.out HG.out).mono ?_
  rintro e w1 ⟨rfl, hb1⟩
  have HB1 := Lib.hid hb1
  clear hb1
  by_cases hbig : (s.size : Int) > 3000
  · go_wp2_with fail
    refine (live_calls _ (HS.out.below HB1.out (Nat.le_refl _)) (HG.out.below HB1.out (Nat.le_refl _))).mono ?_
    rintro e w2 ⟨rfl, hb2⟩
    have HB2 := Lib.hid (below_then HB1.out HB1.out.size hb2)
    clear hb2
    go_wp2
    go_ret
    exact ⟨rfl, HB2.out⟩
  have HR := Lib.hid hk'
  clear hk'
  go_wp2_with fail
  refine (next_calls s a w1 (HS.out.below HB1.out (Nat.le_refl _)) hsz).mono ?_
  rintro e w2 ⟨hpost, hb2⟩
  have HB2 := Lib.hid (below_then HB1.out HB1.out.size hb2)
  clear hb2
  cases hr : nextI (bytesOf s) a with
  | inl t =>
    rw [hr] at hpost
    have HR2 := Lib.hid (show placketref13_Next.f k s a = some (t.kind, (t.at_ : Int), (t.end_ : Int), t.n, strOfNums t.text, 0, 0) by rw [HR.out, hr]; rfl)
    clear hr HR
    unfold NextPost at hpost
    dsimp only at hpost
    subst hpost
    unfold tokV
    have HK3 := Lib.hid (blk_new w2 (.cells #[.int .i64 t.kind, .int .i64 (t.at_ : Int), .int .i64 (t.end_ : Int), .int .i64 t.n, .string (strOfNums t.text)] 24))
    have HB3 := Lib.hid (below_alloc HB2.out (.cells #[.int .i64 t.kind, .int .i64 (t.at_ : Int), .int .i64 (t.end_ : Int), .int .i64 t.n, .string (strOfNums t.text)] 24))
    go_wp2_with fail
    generalize (w2.alloc (.cells #[.int .i64 t.kind, .int .i64 (t.at_ : Int), .int .i64 (t.end_ : Int), .int .i64 t.n, .string (strOfNums t.text)] 24)) = w3 at *
    generalize w2.heap.size = g3 at *
    refine (placketref13_Next.calls k s a _ _ _ _ _ _ _ w3 HR2.out).mono ?_
    rintro e w4 ⟨rfl, hb4⟩
    have hK4 := blk_below HK3.out hb4
    have hK5 := blk_alloc hK4 (.cells #[.int .i64 t.kind, .int .i64 (t.at_ : Int), .int .i64 (t.end_ : Int), .int .i64 t.n, .string (strOfNums t.text)] 24)
    have HB5 := Lib.hid (below_alloc (below_then HB3.out HB3.out.size hb4) (.cells #[.int .i64 t.kind, .int .i64 (t.at_ : Int), .int .i64 (t.end_ : Int), .int .i64 t.n, .string (strOfNums t.text)] 24))
    have k0 := (blk_cell hK5 0).trans (show _ = some (.int .i64 t.kind) from rfl)
    have k1 := (blk_cell hK5 1).trans (show _ = some (.int .i64 (t.at_ : Int)) from rfl)
    have k2 := (blk_cell hK5 2).trans (show _ = some (.int .i64 (t.end_ : Int)) from rfl)
    have k3 := (blk_cell hK5 3).trans (show _ = some (.int .i64 t.n) from rfl)
    have k4 := (blk_cell hK5 4).trans (show _ = some (.string (strOfNums t.text)) from rfl)
    have he := fun d W => eqA24 d W t.kind t.kind (t.at_ : Int) (t.at_ : Int) (t.end_ : Int) (t.end_ : Int) t.n t.n (strOfNums t.text) (strOfNums t.text)
    simp only [beq_self_eq_true, Bool.and_true] at he
    clear hb4 hK4 hK5 HK3 HR2
    go_wp2_with fail
    refine (at_nil 0 _).mono ?_
    rintro e w6 ⟨rfl, rfl⟩
    go_wp2
    go_ret
    exact ⟨rfl, HB5.out⟩
  | inr qc =>
    obtain ⟨q, c⟩ := qc
    rw [hr] at hpost
    have hc0 := (nextI_bad hr).2
    have HR2 := Lib.hid (show placketref13_Next.f k s a = some (0, 0, 0, 0, (⟨#[]⟩ : ByteArray), (q : Int), c) by rw [HR.out, hr]; rfl)
    clear hr HR
    obtain ⟨v, rfl, he2⟩ := hpost
    obtain ⟨T, x, rfl⟩ := he2.iface (.inl (by simp))
    unfold tok0V
    have HK3 := Lib.hid (blk_new w2 (.cells #[.int .i64 0, .int .i64 0, .int .i64 0, .int .i64 0, .string ⟨#[]⟩] 24))
    have HB3 := Lib.hid (below_alloc HB2.out (.cells #[.int .i64 0, .int .i64 0, .int .i64 0, .int .i64 0, .string ⟨#[]⟩] 24))
    have HE3 := Lib.hid (he2.below (below_alloc (Below.refl w2.heap.size w2) (.cells #[.int .i64 0, .int .i64 0, .int .i64 0, .int .i64 0, .string ⟨#[]⟩] 24)) (Nat.le_refl _))
    clear he2
    have HC0 := Lib.hid hc0
    clear hc0
    go_wp2_with fail
    generalize (w2.alloc (.cells #[.int .i64 0, .int .i64 0, .int .i64 0, .int .i64 0, .string ⟨#[]⟩] 24)) = w3 at *
    generalize w2.heap.size = g3 at *
    refine (placketref13_Next.calls k s a _ _ _ _ _ _ _ w3 HR2.out).mono ?_
    rintro e w4 ⟨rfl, hb4⟩
    have hK4 := blk_below HK3.out hb4
    have hK5 := blk_alloc hK4 (.cells #[.int .i64 0, .int .i64 0, .int .i64 0, .int .i64 0, .string ⟨#[]⟩] 24)
    have HB5 := Lib.hid (below_alloc (below_then HB3.out HB3.out.size hb4) (.cells #[.int .i64 0, .int .i64 0, .int .i64 0, .int .i64 0, .string ⟨#[]⟩] 24))
    have HE5 := Lib.hid ((HE3.out.below hb4 (Nat.le_refl _)).below (below_alloc (Below.refl w4.heap.size w4) (.cells #[.int .i64 0, .int .i64 0, .int .i64 0, .int .i64 0, .string ⟨#[]⟩] 24)) (Nat.le_refl _))
    have k0 := (blk_cell hK5 0).trans (show _ = some (.int .i64 0) from rfl)
    have k1 := (blk_cell hK5 1).trans (show _ = some (.int .i64 0) from rfl)
    have k2 := (blk_cell hK5 2).trans (show _ = some (.int .i64 0) from rfl)
    have k3 := (blk_cell hK5 3).trans (show _ = some (.int .i64 0) from rfl)
    have k4 := (blk_cell hK5 4).trans (show _ = some (.string ⟨#[]⟩) from rfl)
    have he := fun d W => eqA24 d W 0 0 0 0 0 0 0 0 ⟨#[]⟩ ⟨#[]⟩
    simp only [beq_self_eq_true, Bool.and_true] at he
    clear hb4 hK4 hK5 HK3 HR2 HE3
    go_wp2_with fail
    refine (at_calls (q : Int) c _ _ (HG.out.below HB5.out (Nat.le_refl _)) HE5.out HC0.out).mono ?_
    rintro e w6 ⟨rfl, hb6⟩
    have HB6 := Lib.hid (below_then HB5.out HB5.out.size hb6)
    clear hb6
    go_wp2
    go_ret
    exact ⟨rfl, HB6.out⟩
end Go.Proofs.YtkbjblhompkdkaaDoor
