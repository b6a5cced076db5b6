/- YtkbjblhompkdkaaDoorRouteToldQ10: PBx5, RouteToldW -/
import Derived.Test.YtkbjblhompkdkaaDoorRouteToldQ4
import Derived.Test.YtkbjblhompkdkaaDoorRouteToldQ9
namespace Go.Proofs.YtkbjblhompkdkaaDoor.PB
open Go.Proofs.YtkbjblhompkdkaaDoor.PA
open Go.RowKit Go.Proofs.YtkbjblhompkdkaaDoorW.PrintWords Go.Proofs.YtkbjblhompkdkaaDoorW.PrintLast
set_option linter.unusedVariables false
set_option linter.unusedSimpArgs false
attribute [local go_sem high] eqA59
def placketref11_SameSteps.l0 : Nat → List (S59) → List (S59) → Int → Int → Option (Bool)
 | 0, _, _, _, _ => none
 | k + 1, x0, x1, x12, x13 => if x13 < x12 then (if 0 ≤ x13 then (if x13 < (x0.length : Int) then (if x13 < (x1.length : Int) then (if (!(((rd_T59 x0 x13).f0) == ((rd_T59 x1 x13).f0)) || (!(((rd_T59 x0 x13).f1) == ((rd_T59 x1 x13).f1)) || (!((((rd_T59 x0 x13).f2).toList) == (((rd_T59 x1 x13).f2).toList))))) = true then (some false) else (placketref11_SameSteps.l0 k x0 x1 x12 (wrap64 (x13 + 1)))) else (none)) else (none)) else (none)) else (some true)
def placketref11_SameSteps.f (k : Nat) (l0 : List (S59)) (l1 : List (S59)) : Option (Bool) := if (l0.length : Int) = (l1.length : Int) then (placketref11_SameSteps.l0 k l0 l1 (l0.length : Int) 0) else (some false)
set_option maxHeartbeats 8000000 in
set_option maxRecDepth 100000 in
theorem placketref11_SameSteps.calls (k : Nat) (A0 : Option Addr) (c0 : Nat) (l0 : List (S59)) (A1 : Option Addr) (c1 : Nat) (l1 : List (S59)) (r : Bool) (w : World) (hr0 : Kd.C k59 w A0 l0.length l0) (hc0 : l0.length ≤ c0) (hr1 : Kd.C k59 w A1 l1.length l1) (hc1 : l1.length ≤ c1) (h : placketref11_SameSteps.f k l0 l1 = some r) :
  Calls Tryd.prog 40 #[.slice A0 l0.length c0, .slice A1 l1.length c1] w fun e w' => e = .returned (.bool r) ∧ Drawn0 w w' := by
 have hu59 := Tryd.underlying59
 have HR0 := Aside0.mk hr0
 have HC0 := Aside0.mk hc0
 clear hr0 hc0
 have HR1 := Aside0.mk hr1
 have HC1 := Aside0.mk hc1
 clear hr1 hc1
 have H : (if (l0.length : Int) = (l1.length : Int) then (placketref11_SameSteps.l0 k l0 l1 (l0.length : Int) 0) else (some false)) = some r := h
 clear h
 by_cases c3 : (l0.length : Int) = (l1.length : Int)
 ·rw [if_pos c3] at H
  have c3b0 : ((l0.length : Int) == (l1.length : Int)) = true := beq_iff_eq.mpr c3
  have c3b1 : ((l0.length : Int) != (l1.length : Int)) = false := bne_eq_false_iff_eq.mpr c3
  have c3b2 : (l0.length == l1.length) = true := by first | simpa using c3 | (simp at c3 ⊢; omega)
  clear c3
  have H' := Aside0.mk H
  clear H
  go_enter Tryd.func40, Tryd.ntmps40
  go_wp2
  repeat (go_quiet (fail); try go_wp2)
  go_loopg [13] k (fun kq v13 w' => ∃ (x13_1 : Int), v13 = .int .i64 x13_1 ∧ Aside0 (placketref11_SameSteps.l0 kq l0 l1 (l0.length : Int) x13_1 = some r) ∧ Aside0 (kq ≤ k) ∧ Drawn0 w w')
  case atStart => exact ⟨(0), (by first | rfl | (simp; done) | (simp [*]; done)), H', ⟨Nat.le_refl _⟩, by repeat (first | exact Drawn0.refl _ | apply Drawn0.step)⟩
  case round =>
   clear H'
   try clear c1
   try clear p2
   try clear c3
   try clear c3b0
   try clear c3b1
   try clear c3b2
   obtain ⟨x13_1, rfl, HA, HK1, ⟨m1, rfl⟩⟩ := hrel
   cases gk with
   | zero => exact absurd HA.out (by simp [placketref11_SameSteps.l0])
   | succ k1 =>
    have H := HA.out
    clear HA
    simp only [placketref11_SameSteps.l0] at H
    by_cases c4 : x13_1 < (l0.length : Int)
    ·rw [if_pos c4] at H
     have c4b0 : decide (x13_1 < (l0.length : Int)) = true := decide_eq_true c4
     clear c4
     by_cases c5 : 0 ≤ x13_1
     ·rw [if_pos c5] at H
      have c5b0 : decide (0 ≤ x13_1) = true := decide_eq_true c5
      clear c5
      by_cases c6 : x13_1 < (l0.length : Int)
      ·rw [if_pos c6] at H
       have c6b0 : decide (x13_1 < (l0.length : Int)) = true := decide_eq_true c6
       clear c6
       by_cases c7 : x13_1 < (l1.length : Int)
       ·rw [if_pos c7] at H
        have c7b0 : decide (x13_1 < (l1.length : Int)) = true := decide_eq_true c7
        clear c7
        by_cases c8 : (!(((rd_T59 l0 x13_1).f0) == ((rd_T59 l1 x13_1).f0)) || (!(((rd_T59 l0 x13_1).f1) == ((rd_T59 l1 x13_1).f1)) || (!((((rd_T59 l0 x13_1).f2).toList) == (((rd_T59 l1 x13_1).f2).toList))))) = true
        ·rw [if_pos c8] at H
         have c8b0 : (!(((rd_T59 l0 x13_1).f0) == ((rd_T59 l1 x13_1).f0)) || (!(((rd_T59 l0 x13_1).f1) == ((rd_T59 l1 x13_1).f1)) || (!((((rd_T59 l0 x13_1).f2).toList) == (((rd_T59 l1 x13_1).f2).toList))))) = true := c8
         clear c8
         obtain rfl := Option.some.inj H
         have p132 : 0 ≤ (x13_1 : Int) := of_decide_eq_true (by assumption)
         have q132 : x13_1 < (l0.length : Int) := of_decide_eq_true (by assumption)
         obtain ⟨ad132, e132, hx132_0, hx132_1, hx132_2⟩ := at_T59 HR0.out x13_1 p132 q132
         cases e132
         replace p132 := eq_true p132
         replace q132 := eq_true q132
         have p133 : 0 ≤ (x13_1 : Int) := of_decide_eq_true (by assumption)
         have q133 : x13_1 < (l1.length : Int) := of_decide_eq_true (by assumption)
         obtain ⟨ad133, e133, hx133_0, hx133_1, hx133_2⟩ := at_T59 HR1.out x13_1 p133 q133
         cases e133
         replace p133 := eq_true p133
         replace q133 := eq_true q133
         go_wp2
         repeat (go_quiet (fail); try go_wp2)
         go_ret
         exact ⟨by first | rfl | (simp; done) | (simp [*]; done), by repeat (first | exact Drawn0.refl _ | apply Drawn0.step)⟩
        ·rw [if_neg c8] at H
         have c8b0 : (!(((rd_T59 l0 x13_1).f0) == ((rd_T59 l1 x13_1).f0)) || (!(((rd_T59 l0 x13_1).f1) == ((rd_T59 l1 x13_1).f1)) || (!((((rd_T59 l0 x13_1).f2).toList) == (((rd_T59 l1 x13_1).f2).toList))))) = false := by simpa using c8
         clear c8
         have H' := Aside0.mk H
         clear H
         have p132 : 0 ≤ (x13_1 : Int) := of_decide_eq_true (by assumption)
         have q132 : x13_1 < (l0.length : Int) := of_decide_eq_true (by assumption)
         obtain ⟨ad132, e132, hx132_0, hx132_1, hx132_2⟩ := at_T59 HR0.out x13_1 p132 q132
         cases e132
         replace p132 := eq_true p132
         replace q132 := eq_true q132
         have p133 : 0 ≤ (x13_1 : Int) := of_decide_eq_true (by assumption)
         have q133 : x13_1 < (l1.length : Int) := of_decide_eq_true (by assumption)
         obtain ⟨ad133, e133, hx133_0, hx133_1, hx133_2⟩ := at_T59 HR1.out x13_1 p133 q133
         cases e133
         replace p133 := eq_true p133
         replace q133 := eq_true q133
         go_wp2
         repeat (go_quiet (fail); try go_wp2)
         go_roundg k1
         case measure => have := HK1.out; omega
         case rel => exact ⟨(wrap64 (x13_1 + 1)), (by first | rfl | (simp; done) | (simp [*]; done)), H', ⟨by have := HK1.out; omega⟩, by repeat (first | exact Drawn0.refl _ | apply Drawn0.step)⟩
       ·rw [if_neg c7] at H
        exact absurd H (by simp)
      ·rw [if_neg c6] at H
       exact absurd H (by simp)
     ·rw [if_neg c5] at H
      exact absurd H (by simp)
    ·rw [if_neg c4] at H
     have c4b0 : decide (x13_1 < (l0.length : Int)) = false := decide_eq_false c4
     clear c4
     obtain rfl := Option.some.inj H
     go_wp2
     repeat (go_quiet (fail); try go_wp2)
     go_ret
     exact ⟨by first | rfl | (simp; done) | (simp [*]; done), by repeat (first | exact Drawn0.refl _ | apply Drawn0.step)⟩
 ·rw [if_neg c3] at H
  have c3b0 : ((l0.length : Int) == (l1.length : Int)) = false := beq_eq_false_iff_ne.mpr c3
  have c3b1 : ((l0.length : Int) != (l1.length : Int)) = true := bne_iff_ne.mpr c3
  have c3b2 : (l0.length == l1.length) = false := by first | simpa using c3 | (simp at c3 ⊢; omega)
  obtain rfl := Option.some.inj H
  go_enter Tryd.func40, Tryd.ntmps40
  go_wp2
  repeat (go_quiet (fail); try go_wp2)
  go_ret
  exact ⟨by first | rfl | (simp; done) | (simp [*]; done), by repeat (first | exact Drawn0.refl _ | apply Drawn0.step)⟩
end Go.Proofs.YtkbjblhompkdkaaDoor.PB
namespace Go.Proofs.YtkbjblhompkdkaaDoor
open Go.RowKit Go.Proofs.YtkbjblhompkdkaaDoor.PA Go.Proofs.YtkbjblhompkdkaaDoor.PB Go.Proofs.YtkbjblhompkdkaaDoorW.PrintWords Go.Proofs.YtkbjblhompkdkaaDoorW.PrintLast
set_option linter.unusedVariables false
set_option linter.unusedSimpArgs false
def StepOk (x : S59) : Prop := x.f2.size ≤ 400 ∧ (x.f0 = 0 → x.f2 = ⟨#[]⟩) ∧ (x.f0 ≠ 0 → x.f1 = 0)
def segO (s : S59) : S83 := if s.f0 = 1 then ⟨0, 0, 0, 0, s.f2⟩ else ⟨1, s.f1, 0, 0, ⟨#[]⟩⟩
def Goes (s : S59) : Prop := s.f0 = 1 ∨ (s.f0 = 0 ∧ 0 ≤ s.f1)
theorem ofF_inl : ∀ (l : List S59) (i : Int) (acc r : List S83), ofF l i acc = .inl r → r = acc ++ l.map segO ∧ ∀ s ∈ l, Goes s := by
 intro l
 induction l with
 | nil =>
  intro i acc r h
  simp only [ofF, Sum.inl.injEq] at h
  simp [h]
 | cons s l ih =>
  intro i acc r h
  simp only [ofF] at h
  by_cases h1 : s.f0 = 1
  ·rw [if_pos h1] at h
   obtain ⟨e, hg⟩ := ih _ _ _ h
   refine ⟨by rw [e]; simp [segO, h1], fun x hx => ?_⟩
   rcases List.mem_cons.1 hx with rfl | hx
   ·exact .inl h1
   ·exact hg x hx
  rw [if_neg h1] at h
  by_cases h0 : s.f0 = 0
  ·rw [if_pos h0] at h
   by_cases hn : s.f1 < 0
   ·rw [if_pos hn] at h; simp at h
   ·rw [if_neg hn] at h
    obtain ⟨e, hg⟩ := ih _ _ _ h
    refine ⟨by rw [e]; simp [segO, h1], fun x hx => ?_⟩
    rcases List.mem_cons.1 hx with rfl | hx
    ·exact .inr ⟨h0, by omega⟩
    ·exact hg x hx
  ·rw [if_neg h0] at h
   split at h <;> simp at h
theorem stepsF_map : ∀ (l : List S59) (i : Int) (acc : List S59), (∀ s ∈ l, Goes s ∧ StepOk s) → stepsF (l.map segO) i acc = .inl (acc ++ l) := by
 intro l
 induction l with
 | nil => intro i acc _; simp [stepsF]
 | cons s l ih =>
  intro i acc h
  obtain ⟨hg, hk⟩ := h s (by simp)
  have ih := ih (i + 1) (acc ++ [s]) (fun x hx => h x (by simp [hx]))
  obtain ⟨s0, s1, s2⟩ := s
  obtain ⟨k1, k2, k3⟩ := hk
  dsimp only at k1 k2 k3
  rcases hg with h1 | ⟨h0, hn⟩
  ·dsimp only at h1
   subst h1
   have e1 := k3 (by decide)
   subst e1
   simp only [List.map_cons, segO, if_true, stepsF]
   rw [ih]
   simp
  ·dsimp only at h0 hn
   subst h0
   have e2 := k2 rfl
   subst e2
   have e : segO ⟨0, s1, ⟨#[]⟩⟩ = ⟨1, s1, 0, 0, ⟨#[]⟩⟩ := rfl
   rw [List.map_cons, e]
   simp only [stepsF]
   rw [if_neg (by decide), if_pos trivial, if_neg (by omega), ih]
   simp
theorem told_check (l : List S59) (h : ∀ s ∈ l, Goes s) : checkC (l.map segO) = if l.length > 32 then some (32, 14) else none := by
 have hF : ∀ (l : List S59) (i : Int), (∀ s ∈ l, Goes s) → checkF (l.map segO) i = none := by
  intro l
  induction l with
  | nil => intro i _; rfl
  | cons s l ih =>
   intro i h
   have hw : wrongC (segO s) = 0 := by
    unfold segO
    by_cases h1 : s.f0 = 1
    ·rw [if_pos h1]; simp [wrongC]
    ·rw [if_neg h1]; simp [wrongC]
   simp only [List.map_cons, checkF]
   rw [if_pos hw]
   exact ih (i + 1) (fun x hx => h x (by simp [hx]))
 unfold checkC
 rw [List.length_map, hF l 0 h]
namespace Pure
theorem samesteps_loop (L : List S59) (hL : L.length ≤ 1000000) (d : Nat) : ∀ i : Nat, i ≤ L.length → L.length - i = d → Ev (fun k => placketref11_SameSteps.l0 k L L (L.length : Int) (i : Int)) true := by
 induction d with
 | zero =>
  intro i hi hd
  refine Ev.succ ?_
  refine Ev.congr (fun k => ?_) (Ev.now _)
  simp only [placketref11_SameSteps.l0]
  rw [if_neg (by omega)]
 | succ d ih =>
  intro i hi hd
  have hlt : i < L.length := by omega
  have hn : wrap64 ((i : Int) + 1) = ((i + 1 : Nat) : Int) := by unfold wrap64; omega
  have c1 : (i : Int) < (L.length : Int) := by omega
  have c2 : (0 : Int) ≤ (i : Int) := by omega
  refine Ev.succ ?_
  refine Ev.congr (fun k => ?_) (ih (i + 1) (by omega) (by omega))
  simp only [placketref11_SameSteps.l0, c1, c2, if_true, hn]
  rw [if_neg (by simp)]
theorem samesteps_ev (L : List S59) (hL : L.length ≤ 1000000) : Ev (fun k => placketref11_SameSteps.f k L L) true := by
 refine Ev.congr (fun k => ?_) (samesteps_loop L hL _ 0 (Nat.zero_le _) rfl)
 simp only [placketref11_SameSteps.f, if_true]
 rfl
end Pure
theorem samesteps_c {k n c d : Nat} {A B : Option Addr} {l : List S59} {w : World} (hl : l.length = n) (h0 : Kd.C k59 w A n l) (hc : n ≤ c) (h1 : Kd.C k59 w B n l) (hd : n ≤ d) (h : placketref11_SameSteps.f k l l = some true) :
  Calls Tryd.prog 40 #[.slice A n c, .slice B n d] w fun e w' => e = .returned (.bool true) ∧ Drawn0 w w' := by
 subst hl
 exact placketref11_SameSteps.calls k A c l B d l true w h0 hc h1 hd h
theorem nil_list (b : ByteArray) : (b.toList == ([] : List UInt8)) = true ↔ b = ⟨#[]⟩ := by
 rw [beq_iff_eq]
 constructor
 ·intro h
  have h2 := Pure.toList_nil.1 h
  exact ByteArray.ext (Array.eq_empty_of_size_eq_zero h2)
 ·rintro rfl
  exact Pure.toList_nil.2 rfl
set_option maxRecDepth 100000 in
set_option maxHeartbeats 8000000 in
theorem routeTold_walk (A : Option Addr) (c : Nat) (l : List S59) (w : World) (hs : Signs w) (hC : Kd.C k59 w A l.length l) (hc : l.length ≤ c) :
  Calls Tryd.prog 11 #[.slice A l.length c] w fun e w' => e = .returned (.bool true) ∧ Below w.heap.size w w' := by
 have HS := Lib.hid hs
 have HC := Lib.hid hC
 have HCP := Lib.hid hc
 clear hs hC hc
 go_enter Tryd.func11, Tryd.ntmps11
 go_wp2_with fail
 refine (live16_calls _ HS.out).mono ?_
 rintro e w1 ⟨rfl, hb1⟩
 have HB := Lib.hid hb1
 replace HC := Lib.hid (Kd.C_below HC.out hb1)
 clear hb1
 by_cases hbig : (l.length : Int) > 60
 ·go_wp2_with fail
  refine (live16_calls _ (HS.out.below HB.out (Nat.le_refl _))).mono ?_
  rintro e w3 ⟨rfl, hb3⟩
  replace HB := Lib.hid (below_then HB.out HB.out.size hb3)
  clear hb3
  go_wp2
  go_ret
  exact ⟨rfl, HB.out⟩
 have HBIG := Lib.hid hbig
 go_wp2
 repeat (go_step3; go_wp2)
 go_loopg [18] (l.length) (fun k v wr => ∃ i : Nat, v = .int .i64 (i : Int) ∧ i ≤ l.length ∧ Below w.heap.size w wr ∧ Kd.C k59 wr A l.length l ∧ (∀ x ∈ l.take i, StepOk x) ∧ k + i = l.length)
 case atStart => exact ⟨0, rfl, Nat.zero_le _, HB.out, HC.out, by simp, rfl⟩
 case round =>
  clear HB HC hbig
  obtain ⟨i, rfl, hi, hB, hC, hsm, hk⟩ := hrel
  have HB := Lib.hid hB
  have HC := Lib.hid hC
  have HSM := Lib.hid hsm
  clear hB hC hsm
  by_cases hlt : (i : Int) < (l.length : Int)
  ·obtain ⟨x, hx⟩ : ∃ x, l[i]? = some x := ⟨_, List.getElem?_eq_getElem (by omega)⟩
   obtain ⟨ad, rfl, h0, h1, h2⟩ := at_T59 HC.out (i : Int) (by omega) hlt
   rw [show rd_T59 l (i : Int) = x by simp [rd_T59, hx]] at h0 h1 h2
   have HX := Lib.hid (show l.take (i + 1) = l.take i ++ [x] by rw [List.take_add_one, hx]; rfl)
   obtain ⟨x0, x1, x2⟩ := x
   dsimp only at h0 h1 h2
   simp only [Int.toNat_natCast] at h0 h1 h2
   clear hx
   go_upto_region 6 with (fail)
   have hba := below_alloc (Below.refl wr.heap.size wr) (.cells #[.int .i64 x0, .int .i64 x1, .string x2] 59)
   have HT := Lib.hid (blk_new wr (.cells #[.int .i64 x0, .int .i64 x1, .string x2] 59))
   replace HB := Lib.hid (below_then HB.out HB.out.size hba)
   replace HC := Lib.hid (Kd.C_below HC.out hba)
   clear hba h0 h1 h2
   generalize (wr.alloc (.cells #[.int .i64 x0, .int .i64 x1, .string x2] 59)) = w5 at *
   generalize wr.heap.size = gt at *
   have c0 := (blk_cell HT.out 0).trans (show _ = some (.int .i64 x0) from rfl)
   have c1 := (blk_cell HT.out 1).trans (show _ = some (.int .i64 x1) from rfl)
   have c2 := (blk_cell HT.out 2).trans (show _ = some (.string x2) from rfl)
   have off : ∀ {P : Prop}, StepOk ⟨x0, x1, x2⟩ → (∀ y ∈ l.take (i + 1), StepOk y) := by
    intro P hok y hy
    rw [HX.out] at hy
    rcases List.mem_append.1 hy with hy | hy
    ·exact HSM.out y hy
    ·obtain rfl := List.mem_singleton.1 hy; exact hok
   by_cases hbt : (x2.size : Int) > 400
   ·have b1 : decide ((400 : Int) < (x2.size : Int)) = true := decide_eq_true hbt
    have b2 : decide (400 < x2.size) = true := decide_eq_true (by omega)
    go_wp2
    repeat (go_step3; go_wp2)
    go_ret
    exact ⟨rfl, HB.out⟩
   ·have b1 : decide ((400 : Int) < (x2.size : Int)) = false := decide_eq_false hbt
    have b2 : decide (400 < x2.size) = false := decide_eq_false (by omega)
    by_cases hz : x0 = 0
    ·subst hz
     by_cases hn : x2 = ⟨#[]⟩
     ·subst hn
      have hok := off (P := True) ⟨show (0 : Nat) ≤ 400 by omega, fun _ => rfl, fun h => absurd rfl h⟩
      go_wp2
      repeat (go_step3; go_wp2)
      go_roundg (gk - 1)
      case measure => omega
      case rel => exact ⟨i + 1, by go_num, by omega, HB.out, HC.out, hok, by omega⟩
     ·have n1 : (x2.toList == ([] : List UInt8)) = false := by
       rw [Bool.eq_false_iff]
       exact fun h => hn ((nil_list x2).1 h)
      go_wp2
      repeat (go_step3; go_wp2)
      try rw [Exit.noGoto_ret]
      go_ret
      exact ⟨rfl, HB.out⟩
    ·have z1 : (x0 == 0) = false := beq_eq_false_iff_ne.2 hz
     have z2 : (x0 != 0) = true := bne_iff_ne.2 hz
     by_cases h1 : x1 = 0
     ·subst h1
      have hok := off (P := True) ⟨by show x2.size ≤ 400; omega, fun h => absurd h hz, fun _ => rfl⟩
      clear hz
      go_wp2
      repeat (go_step3; go_wp2)
      go_roundg (gk - 1)
      case measure => omega
      case rel => exact ⟨i + 1, by go_num, by omega, HB.out, HC.out, hok, by omega⟩
     ·have n1 : (x1 == 0) = false := beq_eq_false_iff_ne.2 h1
      have n2 : (x1 != 0) = true := bne_iff_ne.2 h1
      clear hz h1
      go_wp2
      repeat (go_step3; go_wp2)
      try rw [Exit.noGoto_ret]
      go_ret
      exact ⟨rfl, HB.out⟩
  ·have hall : ∀ x ∈ l, StepOk x := by
    have := HSM.out
    rw [List.take_of_length_le (by omega)] at this
    exact this
   have HALL := Lib.hid hall
   clear hall HSM
   obtain ⟨km, hkm⟩ := Pure.samesteps_ev l (by omega)
   have HSMM := Lib.hid (hkm km (Nat.le_refl _))
   clear hkm
   go_wp2_with fail
   repeat (go_step3; go_wp2_with fail)
   refine (of_calls A c l wr HC.out HCP.out (by have := HBIG.out; omega)).mono ?_
   rintro e w3 ⟨hp, hb3⟩
   replace HB := Lib.hid (below_then HB.out HB.out.size hb3)
   replace HC := Lib.hid (Kd.C_below HC.out hb3)
   clear hb3
   cases hof : ofF l 0 [] with
   | inr pc =>
    obtain ⟨p, cd⟩ := pc
    rw [hof] at hp
    obtain ⟨v, rfl, he⟩ := hp
    obtain ⟨T, x, rfl⟩ := he.iface (.inl (by simp))
    clear he hof
    go_wp2
    repeat (go_step3; go_wp2)
    try rw [Exit.noGoto_ret]
    go_ret
    exact ⟨rfl, HB.out⟩
   | inl r =>
    rw [hof] at hp
    obtain ⟨A2, c2, rfl, hc2, hC2⟩ := hp
    obtain ⟨er, hgo⟩ := ofF_inl l 0 [] r hof
    rw [List.nil_append] at er
    have hst : stepsF r 0 [] = .inl l := by
     rw [er]
     exact stepsF_map l 0 [] (fun s hs => ⟨hgo s hs, HALL.out s hs⟩)
    have hck : checkC r = if l.length > 32 then some (32, 14) else none := by rw [er]; exact told_check l hgo
    have hlr : r.length = l.length := by rw [er, List.length_map]
    have htx : ∀ x ∈ r, x.f4.size ≤ 140737488351232 := by
     intro x hx
     rw [er] at hx
     obtain ⟨s, hs, rfl⟩ := List.mem_map.1 hx
     have := (HALL.out s hs).1
     unfold segO
     split
     ·show s.f2.size ≤ _; omega
     ·exact Nat.zero_le _
    clear er hgo hof
    have HC2 := Lib.hid hC2
    have HCP2 := Lib.hid hc2
    have HST := Lib.hid hst
    have HCK := Lib.hid hck
    have HLR := Lib.hid hlr
    have HTX := Lib.hid htx
    clear hC2 hc2 hst hck hlr htx
    go_wp2_with fail
    repeat (go_step3; go_wp2_with fail)
    refine (steps_calls A2 c2 r w3 HC2.out HCP2.out (by have := HBIG.out; have := HLR.out; omega)).mono ?_
    rintro e w4 ⟨hp, hb4⟩
    replace HB := Lib.hid (below_then HB.out HB.out.size hb4)
    replace HC := Lib.hid (Kd.C_below HC.out hb4)
    replace HC2 := Lib.hid (Kd.C_below HC2.out hb4)
    clear hb4
    rw [HST.out] at hp
    obtain ⟨A3, c3, rfl, hc3, hC3⟩ := hp
    have HC3 := Lib.hid hC3
    have HCP3 := Lib.hid hc3
    clear hC3 hc3
    go_wp2_with fail
    refine (samesteps_c rfl HC.out HCP.out HC3.out HCP3.out HSMM.out).mono ?_
    rintro e w5 ⟨rfl, hb5⟩
    replace HB := Lib.hid (below_then HB.out HB.out.size hb5.below)
    replace HC2 := Lib.hid (Kd.C_below HC2.out hb5.below)
    clear hb5
    go_wp2_with fail
    refine (check_calls A2 c2 r w5 (HS.out.below HB.out (Nat.le_refl _)) HC2.out HCP2.out HTX.out).mono ?_
    rintro e w6 ⟨hp, hb6⟩
    replace HB := Lib.hid (below_then HB.out HB.out.size hb6)
    clear hb6
    rw [HCK.out] at hp
    by_cases h32 : l.length > 32
    ·rw [if_pos h32] at hp
     obtain ⟨v, rfl, he⟩ := hp
     obtain ⟨T, x, rfl⟩ := he.iface (.inl (by simp))
     clear he
     have b1 : decide ((l.length : Int) ≤ 32) = false := decide_eq_false (by omega)
     have b2 : decide (l.length ≤ 32) = false := decide_eq_false (by omega)
     go_wp2
     repeat (go_step3; go_wp2)
     try rw [Exit.noGoto_ret]
     go_ret
     exact ⟨rfl, HB.out⟩
    ·rw [if_neg h32] at hp
     obtain rfl := hp
     have b1 : decide ((l.length : Int) ≤ 32) = true := decide_eq_true (by omega)
     have b2 : decide (l.length ≤ 32) = true := decide_eq_true (by omega)
     go_wp2
     repeat (go_step3; go_wp2)
     try rw [Exit.noGoto_ret]
     go_ret
     exact ⟨rfl, HB.out⟩
end Go.Proofs.YtkbjblhompkdkaaDoor
