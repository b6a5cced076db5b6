/- LexMany: the walk of the law by contracts. -/
import Derived.Test.YtkbjblhompkdkaaDoorLexAllLemmas
namespace Go.Proofs.YtkbjblhompkdkaaDoor
open Go.RowKit Go.Proofs.YtkbjblhompkdkaaDoor.PA Go.Proofs.YtkbjblhompkdkaaDoorW.PrintWords Go.Proofs.YtkbjblhompkdkaaDoorW.PrintLast Go.Proofs.YtkbjblhompkdkaaDoorW.PrintMore
set_option linter.unusedVariables false
set_option linter.unusedSimpArgs false

theorem info5 : (Tryd.prog.info? 5).map (fun i => (i.zero, i.size, i.bytes)) = some (some (.int .u8 0), 1, 1) := by kernel_rfl
theorem make_run (a : Act) (o : Oper) (x y : Operand) (ho : o.op = .makeSlice 44 x y) (n : Nat) (z : Int) (hz : z = (n : Int)) (hx : a.eval x = .int .i64 z) (hy : a.eval y = .int .i64 z) (hn : n ≤ 281474976710656) (W : World) :
    (execOp a.eval o).run Tryd.prog W = .ok (.value (.slice (some ⟨W.heap.size, 0, none⟩) n n)) (W.alloc (.cells (madeCells #[.int .u8 0] n) 5)) := by
  subst hz
  obtain ⟨i0, hi, hzz⟩ := Option.map_eq_some_iff.1 info5
  simp only [Prod.mk.injEq] at hzz
  obtain ⟨hz0, hz1, hz2⟩ := hzz
  have hr := run_make (P := Tryd.prog) W 44 5 i0 (.int .u8 0) Tryd.underlying44 hi hz0 .i64 .i64 (n : Int) (n : Int) (by omega) (by omega) (by rw [hz2]; omega) (by omega)
  simp only [Int.toNat_natCast] at hr
  rw [hz1, Nat.mul_one] at hr
  simp [execOp, ho, hx, hy, hr]
  rfl
theorem reads_blanks {w : World} {g n : Nat} {cs : Array Value} {t : TypeId} (hb : w.heap[g]? = some (.cells cs t (0, 0))) (hn : n ≤ 281474976710656) (hc : ∀ j, j < n → cs[j]? = some (.int .u8 32)) : ReadsInt w .u8 (some ⟨g, 0, none⟩) n (List.replicate n 32) := by
  refine ⟨by simp, Nat.le_trans hn (by decide), fun _ => ⟨_, rfl, fun j hj => ?_⟩⟩
  have h1 := (blk_cell hb j).trans (hc j hj)
  have e : (⟨g, 0, none⟩ : Addr).add j = ⟨g, j, none⟩ := by
    simp only [Addr.add, Nat.zero_add]
    split <;> simp_all
  rw [e, h1]
  simp [List.getD_eq_getElem?_getD, hj]
theorem lead_repl (n : Nat) : Pure.lead Pure.blank (List.replicate n 32) = n := by
  induction n with
  | zero => rfl
  | succ n ih => rw [List.replicate_succ, Pure.lead, if_pos (by decide), ih]
theorem all_blanks (n : Nat) (hn : n ≤ 1048576) : allR (bytesOf (strOfNums (List.replicate n 32))) = .inl [] := by
  rw [Pure.bytesOf_strOfNums _ (by intro x hx; rw [List.mem_replicate] at hx; omega)]
  unfold allR
  rw [if_neg (by rw [List.length_replicate]; omega), Pure.allS_step _ (Nat.zero_le _)]
  have : Pure.nextS (List.replicate n 32) 0 = .inl ⟨0, n, n, 0, []⟩ := by
    unfold Pure.nextS
    rw [List.drop_zero, lead_repl, Nat.zero_add, List.drop_eq_nil_of_le (by simp)]
    rfl
  rw [this]
  simp

set_option maxRecDepth 100000 in
set_option maxHeartbeats 8000000 in
theorem lexMany_walk (m : Nat) (w : World) (hs : Signs w) (hg : Laid w) (hm : m ≤ 255) :
    Calls Tryd.prog 6 #[.int .u8 (m : Int)] w fun e w' => e = .returned (.bool true) ∧ Below w.heap.size w w' := by
  have HS := Lib.hid hs
  have HG := Lib.hid hg
  clear hs hg
  go_enter Tryd.func6, Tryd.ntmps6
  go_wp2_with fail
  refine (live_calls w HS.out HG.out).mono ?_
  rintro e w1 ⟨rfl, hb1⟩
  have HB1 := Lib.hid hb1
  clear hb1
  obtain ⟨n, hn⟩ : ∃ n, n = 1048577 + m := ⟨_, rfl⟩
  have HN := Lib.hid hn
  clear hn
  go_wp2_with (first | ((with_reducible refine gate_dst (N := 14) rfl ?_); refine Kd.event_run rfl (make_run _ _ _ _ rfl n (1048577 + (m : Int)) (by have := HN.out; omega) rfl rfl (by have := HN.out; omega) _) ?_))
  have HBK := Lib.hid (blk_new w1 (.cells (madeCells #[.int .u8 0] n) 5))
  have HB2 := Lib.hid (below_alloc HB1.out (.cells (madeCells #[.int .u8 0] n) 5))
  have HG2 := Lib.hid HB1.out.size
  have HSZ := Lib.hid (size_madeCells #[.int .u8 0] n)
  generalize (w1.alloc (.cells (madeCells #[.int .u8 0] n) 5)) = w2 at *
  generalize w1.heap.size = g at *
  generalize madeCells #[.int .u8 0] n = cs0 at *
  go_loopg [17] n (fun k v wr => ∃ (i : Nat) (cs : Array Value), v = .int .i64 (i : Int) ∧ i ≤ n ∧ wr.heap[g]? = some (.cells cs 5 (0, 0)) ∧ cs.size = n ∧ (∀ j, j < i → cs[j]? = some (.int .u8 32)) ∧ Below w.heap.size w wr ∧ k + i = n)
  case atStart => exact ⟨0, cs0, rfl, Nat.zero_le _, HBK.out, HSZ.out, fun j h => absurd h (by omega), HB2.out, rfl⟩
  case round =>
    clear HBK HB2 HSZ
    obtain ⟨i, cs, rfl, hi, hbk, hsz, hcs, hB, hk⟩ := hrel
    have hnn := HN.out
    have HBK := Lib.hid hbk
    have HB := Lib.hid hB
    have HCS := Lib.hid hcs
    have HSZ := Lib.hid hsz
    clear hB hcs hsz
    by_cases hlt : (i : Int) < (n : Int)
    · obtain ⟨z, hz⟩ : ∃ z, cs[i]? = some z := ⟨_, Array.getElem?_eq_getElem (by have := HSZ.out; omega)⟩
      have k0 := (blk_cell hbk i).trans hz
      have f0 := blk_frozen hbk i
      have hib : (i : Int) ≤ 2000000 := by omega
      clear hbk hz hnn
      go_wp2
      go_roundg (gk - 1)
      case measure => omega
      case rel =>
        refine ⟨i + 1, cs.setIfInBounds i (.int .u8 32), by go_num, by omega, blk_set HBK.out i _, by rw [Array.size_setIfInBounds]; exact HSZ.out, fun j hj => ?_, below_set HB.out HG2.out, by omega⟩
        have h1 := HSZ.out
        by_cases hji : j = i
        · subst hji
          rw [Array.getElem?_setIfInBounds_self]
          simp [h1]; omega
        · rw [Array.getElem?_setIfInBounds_ne (by omega)]
          exact HCS.out j (by omega)
    · obtain ⟨M, hM⟩ : ∃ M : Nat, M = 1048576 := ⟨_, rfl⟩
      have hr1 := reads_blanks HBK.out (show n ≤ 281474976710656 by omega) (fun j hj => HCS.out j (by omega))
      have hcv := string_of_reads (P := Tryd.prog) (c := n) Tryd.underlying44 Tryd.underlying5 Tryd.underlying9 hr1
      have HRR := Lib.hid (fun (w' : World) (hb : Below wr.heap.size wr w') => reads_blanks (n := M) (blk_below HBK.out hb) (by omega) (fun j hj => HCS.out j (by omega)))
      have HL1 := Lib.hid (show allR (bytesOf (strOfNums (List.replicate n 32))) = .inr (0, 14) by unfold allR; rw [if_pos (by rw [bytesOf_length, strOfNums_size, List.length_replicate]; omega)])
      have HZ1 := Lib.hid (show (strOfNums (List.replicate n 32)).size ≤ 140737488351232 by rw [strOfNums_size, List.length_replicate]; omega)
      have HL2 := Lib.hid (all_blanks M (by omega))
      have HZ2 := Lib.hid (show (strOfNums (List.replicate M 32)).size ≤ 140737488351232 by rw [strOfNums_size, List.length_replicate]; omega)
      generalize strOfNums (List.replicate n 32) = s1 at *
      have HM := Lib.hid hM
      have hn2 : (1048576 : Int) ≤ (n : Int) := by omega
      clear hbk hr1 hM hnn
      go_wp2_with fail
      refine (all_calls s1 _ (HS.out.below HB.out (Nat.le_refl _)) HZ1.out).mono ?_
      rintro e w3 ⟨hpost, hb3⟩
      rw [HL1.out] at hpost
      obtain ⟨v, rfl, he3⟩ := hpost
      obtain ⟨T, x, rfl⟩ := he3.iface (.inl (by simp))
      have HE3 := Lib.hid he3
      have HB3 := Lib.hid (below_then HB.out HB.out.size hb3)
      have hcv2 := string_of_reads (P := Tryd.prog) (c := n) Tryd.underlying44 Tryd.underlying5 Tryd.underlying9 (HRR.out w3 hb3)
      generalize strOfNums (List.replicate M 32) = s2 at *
      rw [HM.out] at hcv2
      clear hb3 he3 hcv HRR
      go_wp2_with fail
      refine (all_calls s2 _ (HS.out.below HB3.out (Nat.le_refl _)) HZ2.out).mono ?_
      rintro e w4 ⟨hpost, hb4⟩
      rw [HL2.out] at hpost
      obtain ⟨A4, c4, rfl, hc4, hC4⟩ := hpost
      have HB4 := Lib.hid (below_then HB3.out HB3.out.size hb4)
      have HE4 := Lib.hid (HE3.out.below hb4 (Nat.le_refl _))
      clear hb4 hC4 hc4 hcv2
      go_wp2_with fail
      refine (at_calls 0 14 _ _ (HG.out.below HB4.out (Nat.le_refl _)) HE4.out (by decide)).mono ?_
      rintro e w5 ⟨rfl, hb5⟩
      have HB5 := Lib.hid (below_then HB4.out HB4.out.size hb5)
      clear hb5
      go_wp2
      go_ret
      exact ⟨rfl, HB5.out⟩
theorem lexMany_int (c : Int) (w : World) (hs : Signs w) (hg : Laid w) (hc : (Lit.int .u8 c).wf = true) :
    Calls Tryd.prog 6 #[.int .u8 c] w fun e w' => e = .returned (.bool true) ∧ Below w.heap.size w w' := by
  have h : 0 ≤ c ∧ c ≤ 255 := by simpa [Lit.wf, IntKind.min, IntKind.max, IntKind.signed, IntKind.bits] using hc
  obtain ⟨m, rfl⟩ := Int.eq_ofNat_of_zero_le h.1
  exact lexMany_walk m w hs hg (by omega)
end Go.Proofs.YtkbjblhompkdkaaDoor
