/- YtkbjblhompkdkaaDoorRouteFiltersQ1: PAx3, LexPure -/
import Derived.Test.YtkbjblhompkdkaaDoorRouteFiltersQ0
import Derived.Laws.BytesArg
namespace Go.Proofs.YtkbjblhompkdkaaDoor.PA
open Go.RowKit Go.Proofs.YtkbjblhompkdkaaDoorW.PrintWords Go.Proofs.YtkbjblhompkdkaaDoorW.PrintLast
set_option linter.unusedVariables false
set_option linter.unusedSimpArgs false
mutual
def lex_letter.j0 : Nat → Int → Bool → Bool → Option (Bool)
 | 0, _, _, _ => none
 | k + 1, x0, x1, x5 => if x5 = true then (some true) else (if x0 ≥ 65 then (lex_letter.j1 k x0 x1 (decide (x0 ≤ 90))) else (lex_letter.j1 k x0 x1 false))
def lex_letter.j1 : Nat → Int → Bool → Bool → Option (Bool)
 | 0, _, _, _ => none
 | k + 1, x0, x1, x5 => if x5 = true then (some true) else (if x0 = 95 then (some true) else (if x1 = true then ((lex_digit.f x0).bind fun t130 => (some t130)) else (some false)))
end
def lex_letter.f (k : Nat) (a0 : Int) (a1 : Bool) : Option (Bool) := if a0 ≥ 97 then (lex_letter.j0 k a0 a1 (decide (a0 ≤ 122))) else (lex_letter.j0 k a0 a1 false)
set_option maxHeartbeats 8000000 in
set_option maxRecDepth 100000 in
theorem lex_letter.calls (k : Nat) (a0 : Int) (a1 : Bool) (r : Bool) (w : World) (h : lex_letter.f k a0 a1 = some r) :
  Calls Tryd.prog 46 #[.int .u8 a0, .bool a1] w fun e w' => e = .returned (.bool r) ∧ Drawn0 w w' := by
 have H : (if a0 ≥ 97 then (lex_letter.j0 k a0 a1 (decide (a0 ≤ 122))) else (lex_letter.j0 k a0 a1 false)) = some r := h
 clear h
 have HC3 := Aside0.mk H
 clear H
 go_enter Tryd.func46, Tryd.ntmps46
 go_upto_region 1 with (fail)
 go_cut [5] (fun v5 wc => ∃ (kq : Nat) (x5_2 : Bool), v5 = .bool x5_2 ∧ Aside0 (lex_letter.j0 kq a0 a1 x5_2 = some r) ∧ Aside0 (kq ≤ k) ∧ Drawn0 w wc)
 case first =>
  have H := HC3.out
  clear HC3
  by_cases c4 : a0 ≥ 97
  ·rw [if_pos c4] at H
   have c4b0 : decide (97 ≤ a0) = true := decide_eq_true c4
   clear c4
   (first | rw [c4b0] | (simp only [i64_w, i32_w]; rw [c4b0]) | skip)
   have H' := Aside0.mk H
   clear H
   go_wp2
   go_meet
   case rel => exact ⟨_, (decide (a0 ≤ 122)), (by first | rfl | (simp; done) | (simp [*]; done)), H', ⟨by first | omega | exact Nat.le_refl _⟩, by repeat (first | exact Drawn0.refl _ | apply Drawn0.step)⟩
  ·rw [if_neg c4] at H
   have c4b0 : decide (97 ≤ a0) = false := decide_eq_false c4
   clear c4
   (first | rw [c4b0] | (simp only [i64_w, i32_w]; rw [c4b0]) | skip)
   have H' := Aside0.mk H
   clear H
   go_wp2
   go_meet
   case rel => exact ⟨_, (false), (by first | rfl | (simp; done) | (simp [*]; done)), H', ⟨by first | omega | exact Nat.le_refl _⟩, by repeat (first | exact Drawn0.refl _ | apply Drawn0.step)⟩
 case rest =>
  clear HC3
  try clear p2
  try clear c4
  try clear c4b0
  obtain ⟨kq, x5_2, rfl, HA, HJ2, ⟨mc2, rfl⟩⟩ := hcut
  cases kq with
  | zero => exact absurd HA.out (by simp [lex_letter.j0])
  | succ kj2 =>
   have H := HA.out
   clear HA
   simp only [lex_letter.j0] at H
   by_cases c5 : x5_2 = true
   ·subst c5
    have H1 : (some true) = some r := by rw [if_pos rfl] at H; exact H
    clear H
    have H := H1
    clear H1
    obtain rfl := Option.some.inj H
    go_wp2
    go_ret
    exact ⟨by first | rfl | (simp; done) | (simp [*]; done), by repeat (first | exact Drawn0.refl _ | apply Drawn0.step)⟩
   ·replace c5 := Bool.eq_false_iff.mpr c5
    subst c5
    have H1 : (if a0 ≥ 65 then (lex_letter.j1 kj2 a0 a1 (decide (a0 ≤ 90))) else (lex_letter.j1 kj2 a0 a1 false)) = some r := by rw [if_neg (show ¬ (false = true) by decide)] at H; exact H
    clear H
    have H := H1
    clear H1
    have HC6 := Aside0.mk H
    clear H
    go_upto_region 2 with (fail)
    go_cut [5] (fun v5 wc => ∃ (kq : Nat) (x5_5 : Bool), v5 = .bool x5_5 ∧ Aside0 (lex_letter.j1 kq a0 a1 x5_5 = some r) ∧ Aside0 (kq ≤ kj2) ∧ Drawn0 w wc)
    case first =>
     have H := HC6.out
     clear HC6
     by_cases c7 : a0 ≥ 65
     ·rw [if_pos c7] at H
      have c7b0 : decide (65 ≤ a0) = true := decide_eq_true c7
      clear c7
      (first | rw [c7b0] | (simp only [i64_w, i32_w]; rw [c7b0]) | skip)
      have H' := Aside0.mk H
      clear H
      go_wp2
      go_meet
      case rel => exact ⟨_, (decide (a0 ≤ 90)), (by first | rfl | (simp; done) | (simp [*]; done)), H', ⟨by have := HJ2.out; first | omega | exact Nat.le_refl _⟩, by repeat (first | exact Drawn0.refl _ | apply Drawn0.step)⟩
     ·rw [if_neg c7] at H
      have c7b0 : decide (65 ≤ a0) = false := decide_eq_false c7
      clear c7
      (first | rw [c7b0] | (simp only [i64_w, i32_w]; rw [c7b0]) | skip)
      have H' := Aside0.mk H
      clear H
      go_wp2
      go_meet
      case rel => exact ⟨_, (false), (by first | rfl | (simp; done) | (simp [*]; done)), H', ⟨by have := HJ2.out; first | omega | exact Nat.le_refl _⟩, by repeat (first | exact Drawn0.refl _ | apply Drawn0.step)⟩
    case rest =>
     clear HC6
     try clear c2
     try clear p2
     try clear c4
     try clear c4b0
     try clear c5
     try clear c7
     try clear c7b0
     try clear p2
     obtain ⟨kq, x5_5, rfl, HA, HJ5, ⟨mc5, rfl⟩⟩ := hcut
     cases kq with
     | zero => exact absurd HA.out (by simp [lex_letter.j1])
     | succ kj5 =>
      have H := HA.out
      clear HA
      simp only [lex_letter.j1] at H
      by_cases c8 : x5_5 = true
      ·subst c8
       have H1 : (some true) = some r := by rw [if_pos rfl] at H; exact H
       clear H
       have H := H1
       clear H1
       obtain rfl := Option.some.inj H
       go_wp2
       go_ret
       exact ⟨by first | rfl | (simp; done) | (simp [*]; done), by repeat (first | exact Drawn0.refl _ | apply Drawn0.step)⟩
      ·replace c8 := Bool.eq_false_iff.mpr c8
       subst c8
       have H1 : (if a0 = 95 then (some true) else (if a1 = true then ((lex_digit.f a0).bind fun t130 => (some t130)) else (some false))) = some r := by rw [if_neg (show ¬ (false = true) by decide)] at H; exact H
       clear H
       have H := H1
       clear H1
       by_cases c9 : a0 = 95
       ·rw [if_pos c9] at H
        have c9b0 : (a0 == 95) = true := beq_iff_eq.mpr c9
        have c9b1 : (a0 != 95) = false := bne_eq_false_iff_eq.mpr c9
        clear c9
        obtain rfl := Option.some.inj H
        go_wp2
        go_ret
        exact ⟨by first | rfl | (simp; done) | (simp [*]; done), by repeat (first | exact Drawn0.refl _ | apply Drawn0.step)⟩
       ·rw [if_neg c9] at H
        have c9b0 : (a0 == 95) = false := beq_eq_false_iff_ne.mpr c9
        have c9b1 : (a0 != 95) = true := bne_iff_ne.mpr c9
        by_cases c10 : a1 = true
        ·subst c10
         have H1 : ((lex_digit.f a0).bind fun t130 => (some t130)) = some r := by rw [if_pos rfl] at H; exact H
         clear H
         have H := H1
         clear H1
         replace H := Option.bind_eq_some_iff.mp H
         obtain ⟨t130, A110, H⟩ := H
         replace H : (some t130) = some r := H
         have A11 := Aside0.mk A110
         clear A110
         obtain rfl := Option.some.inj H
         go_wp2_with (first | (go_at_call 47; (with_reducible refine (lex_digit.calls a0 t130 _ A11.out).mono ?_); rintro e w' ⟨rfl, ⟨nd, rfl⟩⟩))
         go_ret
         exact ⟨by first | rfl | (simp; done) | (simp [*]; done), by repeat (first | exact Drawn0.refl _ | apply Drawn0.step)⟩
        ·replace c10 := Bool.eq_false_iff.mpr c10
         subst c10
         have H1 : (some false) = some r := by rw [if_neg (show ¬ (false = true) by decide)] at H; exact H
         clear H
         have H := H1
         clear H1
         obtain rfl := Option.some.inj H
         go_wp2
         go_ret
         exact ⟨by first | rfl | (simp; done) | (simp [*]; done), by repeat (first | exact Drawn0.refl _ | apply Drawn0.step)⟩
def num_signed.f (a0 : Int) (a1 : Bool) : Option (Int × Int) := if a1 = true then (if a0 > 9223372036854775808 then (some (0, 4)) else (some (wrap64 (IntKind.u64.wrap (-a0)), 0))) else (if a0 > 9223372036854775807 then (some (0, 4)) else (some (wrap64 (a0), 0)))
set_option maxHeartbeats 8000000 in
set_option maxRecDepth 100000 in
theorem num_signed.calls (a0 : Int) (a1 : Bool) (r1 : Int) (r2 : Int) (w : World) (h : num_signed.f a0 a1 = some (r1, r2)) :
  Calls Tryd.prog 80 #[.int .u64 a0, .bool a1] w fun e w' => e = .returned (.tuple #[.int .i64 r1, .int .i64 r2]) ∧ Drawn0 w w' := by
 have H : (if a1 = true then (if a0 > 9223372036854775808 then (some (0, 4)) else (some (wrap64 (IntKind.u64.wrap (-a0)), 0))) else (if a0 > 9223372036854775807 then (some (0, 4)) else (some (wrap64 (a0), 0)))) = some (r1, r2) := h
 clear h
 by_cases c3 : a1 = true
 ·subst c3
  have H1 : (if a0 > 9223372036854775808 then (some (0, 4)) else (some (wrap64 (IntKind.u64.wrap (-a0)), 0))) = some (r1, r2) := by rw [if_pos rfl] at H; exact H
  clear H
  have H := H1
  clear H1
  by_cases c4 : a0 > 9223372036854775808
  ·rw [if_pos c4] at H
   have c4b0 : decide (9223372036854775808 < a0) = true := decide_eq_true c4
   clear c4
   simp only [Option.some.injEq, Prod.mk.injEq] at H
   obtain ⟨rfl, rfl⟩ := H
   go_enter Tryd.func80, Tryd.ntmps80
   go_wp2
   go_ret2
   exact ⟨by first | rfl | (simp; done) | (simp [*]; done), by repeat (first | exact Drawn0.refl _ | apply Drawn0.step)⟩
  ·rw [if_neg c4] at H
   have c4b0 : decide (9223372036854775808 < a0) = false := decide_eq_false c4
   clear c4
   simp only [Option.some.injEq, Prod.mk.injEq] at H
   obtain ⟨rfl, rfl⟩ := H
   go_enter Tryd.func80, Tryd.ntmps80
   go_wp2
   go_ret2
   exact ⟨by first | rfl | (simp; done) | (simp [*]; done), by repeat (first | exact Drawn0.refl _ | apply Drawn0.step)⟩
 ·replace c3 := Bool.eq_false_iff.mpr c3
  subst c3
  have H1 : (if a0 > 9223372036854775807 then (some (0, 4)) else (some (wrap64 (a0), 0))) = some (r1, r2) := by rw [if_neg (show ¬ (false = true) by decide)] at H; exact H
  clear H
  have H := H1
  clear H1
  by_cases c5 : a0 > 9223372036854775807
  ·rw [if_pos c5] at H
   have c5b0 : decide (9223372036854775807 < a0) = true := decide_eq_true c5
   clear c5
   simp only [Option.some.injEq, Prod.mk.injEq] at H
   obtain ⟨rfl, rfl⟩ := H
   go_enter Tryd.func80, Tryd.ntmps80
   go_wp2
   go_ret2
   exact ⟨by first | rfl | (simp; done) | (simp [*]; done), by repeat (first | exact Drawn0.refl _ | apply Drawn0.step)⟩
  ·rw [if_neg c5] at H
   have c5b0 : decide (9223372036854775807 < a0) = false := decide_eq_false c5
   clear c5
   simp only [Option.some.injEq, Prod.mk.injEq] at H
   obtain ⟨rfl, rfl⟩ := H
   go_enter Tryd.func80, Tryd.ntmps80
   go_wp2
   go_ret2
   exact ⟨by first | rfl | (simp; done) | (simp [*]; done), by repeat (first | exact Drawn0.refl _ | apply Drawn0.step)⟩
mutual
def num_Parse.l0 : Nat → ByteArray → Bool → Int → Bool → Int → Int → Int → Option (Int × Int)
 | 0, _, _, _, _, _, _, _ => none
 | k + 1, x0, x4, x5, x6, x7, x12, x13 => if x13 < x12 then (if 0 ≤ x13 then (if x13 < (x0.size : Int) then (if (bt x0 x13) = 45 then (num_Parse.j1 k x0 x4 x5 x6 x7 (bt x0 x13) x12 x13 (x13 == 0)) else (num_Parse.j1 k x0 x4 x5 x6 x7 (bt x0 x13) x12 x13 false)) else (none)) else (none)) else (if x5 = 0 then (some (0, 2)) else (if x6 = true then (some (0, 4)) else ((num_signed.f x7 x4).bind fun bt131 => (some (bt131.1, bt131.2)))))
def num_Parse.j1 : Nat → ByteArray → Bool → Int → Bool → Int → Int → Int → Int → Bool → Option (Int × Int)
 | 0, _, _, _, _, _, _, _, _, _ => none
 | k + 1, x0, x4, x5, x6, x7, x9, x12, x13, x19 => if x19 = true then (num_Parse.l0 k x0 true x5 x6 x7 x12 (wrap64 (x13 + 1))) else (if x9 = 48 then (if x5 = 0 then (num_Parse.j2 k x0 x4 x5 x6 x7 x9 x12 x13 (decide ((x0.size : Int) > 1))) else (num_Parse.j2 k x0 x4 x5 x6 x7 x9 x12 x13 false)) else (num_Parse.j2 k x0 x4 x5 x6 x7 x9 x12 x13 false))
def num_Parse.j2 : Nat → ByteArray → Bool → Int → Bool → Int → Int → Int → Int → Bool → Option (Int × Int)
 | 0, _, _, _, _, _, _, _, _, _ => none
 | k + 1, x0, x4, x5, x6, x7, x9, x12, x13, x26 => if x26 = true then (some (0, 2)) else (if x9 = 48 then (if x6 = true then (num_Parse.l0 k x0 x4 (wrap64 (x5 + 1)) true (IntKind.u64.wrap ((IntKind.u64.wrap (10 * x7)) + ((x9 - 48) % 256))) x12 (wrap64 (x13 + 1))) else (num_Parse.l0 k x0 x4 (wrap64 (x5 + 1)) (decide (x7 > ((18446744073709551615 - ((x9 - 48) % 256)) / 10))) (IntKind.u64.wrap ((IntKind.u64.wrap (10 * x7)) + ((x9 - 48) % 256))) x12 (wrap64 (x13 + 1)))) else (if x9 ≥ 49 then (if x9 ≤ 57 then (if x6 = true then (num_Parse.l0 k x0 x4 (wrap64 (x5 + 1)) true (IntKind.u64.wrap ((IntKind.u64.wrap (10 * x7)) + ((x9 - 48) % 256))) x12 (wrap64 (x13 + 1))) else (num_Parse.l0 k x0 x4 (wrap64 (x5 + 1)) (decide (x7 > ((18446744073709551615 - ((x9 - 48) % 256)) / 10))) (IntKind.u64.wrap ((IntKind.u64.wrap (10 * x7)) + ((x9 - 48) % 256))) x12 (wrap64 (x13 + 1)))) else (some (0, 2))) else (some (0, 2))))
end
def num_Parse.f (k : Nat) (a0 : ByteArray) : Option (Int × Int) := num_Parse.l0 k a0 false 0 false 0 (a0.size : Int) 0
set_option maxHeartbeats 8000000 in
set_option maxRecDepth 100000 in
theorem num_Parse.calls (k : Nat) (a0 : ByteArray) (r1 : Int) (r2 : Int) (w : World) (h : num_Parse.f k a0 = some (r1, r2)) :
  Calls Tryd.prog 48 #[.string a0] w fun e w' => e = .returned (.tuple #[.int .i64 r1, .int .i64 r2]) ∧ Drawn0 w w' := by
 have H : (num_Parse.l0 k a0 false 0 false 0 (a0.size : Int) 0) = some (r1, r2) := h
 clear h
 have H' := Aside0.mk H
 clear H
 go_enter Tryd.func48, Tryd.ntmps48
 go_wp2
 go_loopg [4, 5, 6, 7, 13] k (fun kq v4 v5 v6 v7 v13 w' => ∃ (x4_1 : Bool) (x5_1 : Int) (x6_1 : Bool) (x7_1 : Int) (x13_1 : Int), v4 = .bool x4_1 ∧ v5 = .int .i64 x5_1 ∧ v6 = .bool x6_1 ∧ v7 = .int .u64 x7_1 ∧ v13 = .int .i64 x13_1 ∧ Aside0 (num_Parse.l0 kq a0 x4_1 x5_1 x6_1 x7_1 (a0.size : Int) x13_1 = some (r1, r2)) ∧ Aside0 (kq ≤ k) ∧ Drawn0 w w')
 case atStart => exact ⟨(false), (0), (false), (0), (0), (by first | rfl | (simp; done) | (simp [*]; done)), (by first | rfl | (simp; done) | (simp [*]; done)), (by first | rfl | (simp; done) | (simp [*]; done)), (by first | rfl | (simp; done) | (simp [*]; done)), (by first | rfl | (simp; done) | (simp [*]; done)), H', ⟨Nat.le_refl _⟩, by repeat (first | exact Drawn0.refl _ | apply Drawn0.step)⟩
 case round =>
  clear H'
  obtain ⟨x4_1, x5_1, x6_1, x7_1, x13_1, rfl, rfl, rfl, rfl, rfl, HA, HK1, ⟨m1, rfl⟩⟩ := hrel
  cases gk with
  | zero => exact absurd HA.out (by simp [num_Parse.l0])
  | succ k1 =>
   have H := HA.out
   clear HA
   simp only [num_Parse.l0] at H
   by_cases c2 : x13_1 < (a0.size : Int)
   ·rw [if_pos c2] at H
    have c2b0 : decide (x13_1 < (a0.size : Int)) = true := decide_eq_true c2
    clear c2
    by_cases c3 : 0 ≤ x13_1
    ·rw [if_pos c3] at H
     have c3b0 : decide (0 ≤ x13_1) = true := decide_eq_true c3
     clear c3
     by_cases c4 : x13_1 < (a0.size : Int)
     ·rw [if_pos c4] at H
      have c4b0 : decide (x13_1 < (a0.size : Int)) = true := decide_eq_true c4
      clear c4
      have HC6 := Aside0.mk H
      clear H
      have p5 : 0 ≤ (x13_1 : Int) := of_decide_eq_true (by assumption)
      have q5 : x13_1 < (a0.size : Int) := of_decide_eq_true (by assumption)
      have hx5 := bt_at a0 x13_1
      replace p5 := eq_true p5
      replace q5 := eq_true q5
      go_upto_region 7 with (fail)
      go_cut [19] (fun v19 wc => ∃ (kq : Nat) (x19_5 : Bool), v19 = .bool x19_5 ∧ Aside0 (num_Parse.j1 kq a0 x4_1 x5_1 x6_1 x7_1 (bt a0 x13_1) (a0.size : Int) x13_1 x19_5 = some (r1, r2)) ∧ Aside0 (kq ≤ k1) ∧ Drawn0 w wc)
      case first =>
       have H := HC6.out
       clear HC6
       by_cases c7 : (bt a0 x13_1) = 45
       ·rw [if_pos c7] at H
        have c7b0 : ((bt a0 x13_1) == 45) = true := beq_iff_eq.mpr c7
        have c7b1 : ((bt a0 x13_1) != 45) = false := bne_eq_false_iff_eq.mpr c7
        clear c7
        (first | rw [c7b0] | (simp only [i64_w, i32_w]; rw [c7b0]) | skip)
        have H' := Aside0.mk H
        clear H
        go_wp2
        go_meet
        case rel => exact ⟨_, ((x13_1 == 0)), (by first | rfl | (simp; done) | (simp [*]; done)), H', ⟨by have := HK1.out; first | omega | exact Nat.le_refl _⟩, by repeat (first | exact Drawn0.refl _ | apply Drawn0.step)⟩
       ·rw [if_neg c7] at H
        have c7b0 : ((bt a0 x13_1) == 45) = false := beq_eq_false_iff_ne.mpr c7
        have c7b1 : ((bt a0 x13_1) != 45) = true := bne_iff_ne.mpr c7
        (first | rw [c7b0] | (simp only [i64_w, i32_w]; rw [c7b0]) | skip)
        have H' := Aside0.mk H
        clear H
        go_wp2
        go_meet
        case rel => exact ⟨_, (false), (by first | rfl | (simp; done) | (simp [*]; done)), H', ⟨by have := HK1.out; first | omega | exact Nat.le_refl _⟩, by repeat (first | exact Drawn0.refl _ | apply Drawn0.step)⟩
      case rest =>
       clear HC6
       try clear c2
       try clear c2b0
       try clear p2
       try clear c3
       try clear c3b0
       try clear c4
       try clear c4b0
       try clear p5
       try clear q5
       try clear hx5
       try clear c7
       try clear c7b0
       try clear c7b1
       try clear p5
       try clear q5
       obtain ⟨kq, x19_5, rfl, HA, HJ5, ⟨mc5, rfl⟩⟩ := hcut
       cases kq with
       | zero => exact absurd HA.out (by simp [num_Parse.j1])
       | succ kj5 =>
        have H := HA.out
        clear HA
        simp only [num_Parse.j1] at H
        by_cases c8 : x19_5 = true
        ·subst c8
         have H1 : (num_Parse.l0 kj5 a0 true x5_1 x6_1 x7_1 (a0.size : Int) (wrap64 (x13_1 + 1))) = some (r1, r2) := by rw [if_pos rfl] at H; exact H
         clear H
         have H := H1
         clear H1
         have H' := Aside0.mk H
         clear H
         go_wp2
         go_roundg kj5
         case measure => have := HK1.out; have := HJ5.out; omega
         case rel => exact ⟨(true), (x5_1), (x6_1), (x7_1), (wrap64 (x13_1 + 1)), (by first | rfl | (simp; done) | (simp [*]; done)), (by first | rfl | (simp; done) | (simp [*]; done)), (by first | rfl | (simp; done) | (simp [*]; done)), (by first | rfl | (simp; done) | (simp [*]; done)), (by first | rfl | (simp; done) | (simp [*]; done)), H', ⟨by have := HK1.out; have := HJ5.out; omega⟩, by repeat (first | exact Drawn0.refl _ | apply Drawn0.step)⟩
        ·replace c8 := Bool.eq_false_iff.mpr c8
         subst c8
         have H1 : (if (bt a0 x13_1) = 48 then (if x5_1 = 0 then (num_Parse.j2 kj5 a0 x4_1 x5_1 x6_1 x7_1 (bt a0 x13_1) (a0.size : Int) x13_1 (decide ((a0.size : Int) > 1))) else (num_Parse.j2 kj5 a0 x4_1 x5_1 x6_1 x7_1 (bt a0 x13_1) (a0.size : Int) x13_1 false)) else (num_Parse.j2 kj5 a0 x4_1 x5_1 x6_1 x7_1 (bt a0 x13_1) (a0.size : Int) x13_1 false)) = some (r1, r2) := by rw [if_neg (show ¬ (false = true) by decide)] at H; exact H
         clear H
         have H := H1
         clear H1
         have HC9 := Aside0.mk H
         clear H
         go_upto_region 8 with (fail)
         go_cut [26] (fun v26 wc => ∃ (kq : Nat) (x26_8 : Bool), v26 = .bool x26_8 ∧ Aside0 (num_Parse.j2 kq a0 x4_1 x5_1 x6_1 x7_1 (bt a0 x13_1) (a0.size : Int) x13_1 x26_8 = some (r1, r2)) ∧ Aside0 (kq ≤ kj5) ∧ Drawn0 w wc)
         case first =>
          have H := HC9.out
          clear HC9
          by_cases c10 : (bt a0 x13_1) = 48
          ·rw [if_pos c10] at H
           have c10b0 : ((bt a0 x13_1) == 48) = true := beq_iff_eq.mpr c10
           have c10b1 : ((bt a0 x13_1) != 48) = false := bne_eq_false_iff_eq.mpr c10
           clear c10
           (first | rw [c10b0] | (simp only [i64_w, i32_w]; rw [c10b0]) | skip)
           by_cases c11 : x5_1 = 0
           ·rw [if_pos c11] at H
            have c11b0 : (x5_1 == 0) = true := beq_iff_eq.mpr c11
            have c11b1 : (x5_1 != 0) = false := bne_eq_false_iff_eq.mpr c11
            clear c11
            have H' := Aside0.mk H
            clear H
            go_wp2
            go_meet
            case rel => exact ⟨_, (decide ((a0.size : Int) > 1)), (by first | rfl | (simp; done) | (simp [*]; done)), H', ⟨by have := HK1.out; have := HJ5.out; first | omega | exact Nat.le_refl _⟩, by repeat (first | exact Drawn0.refl _ | apply Drawn0.step)⟩
           ·rw [if_neg c11] at H
            have c11b0 : (x5_1 == 0) = false := beq_eq_false_iff_ne.mpr c11
            have c11b1 : (x5_1 != 0) = true := bne_iff_ne.mpr c11
            have H' := Aside0.mk H
            clear H
            go_wp2
            go_meet
            case rel => exact ⟨_, (false), (by first | rfl | (simp; done) | (simp [*]; done)), H', ⟨by have := HK1.out; have := HJ5.out; first | omega | exact Nat.le_refl _⟩, by repeat (first | exact Drawn0.refl _ | apply Drawn0.step)⟩
          ·rw [if_neg c10] at H
           have c10b0 : ((bt a0 x13_1) == 48) = false := beq_eq_false_iff_ne.mpr c10
           have c10b1 : ((bt a0 x13_1) != 48) = true := bne_iff_ne.mpr c10
           (first | rw [c10b0] | (simp only [i64_w, i32_w]; rw [c10b0]) | skip)
           have H' := Aside0.mk H
           clear H
           go_wp2
           go_meet
           case rel => exact ⟨_, (false), (by first | rfl | (simp; done) | (simp [*]; done)), H', ⟨by have := HK1.out; have := HJ5.out; first | omega | exact Nat.le_refl _⟩, by repeat (first | exact Drawn0.refl _ | apply Drawn0.step)⟩
         case rest =>
          clear HC9
          try clear c1
          try clear c2
          try clear c2b0
          try clear p2
          try clear c3
          try clear c3b0
          try clear c4
          try clear c4b0
          try clear c5
          try clear p5
          try clear q5
          try clear hx5
          try clear p6
          try clear c7
          try clear c7b0
          try clear c7b1
          try clear c8
          try clear c10
          try clear c10b0
          try clear c10b1
          try clear c11
          try clear c11b0
          try clear c11b1
          try clear p2
          try clear p5
          try clear q5
          obtain ⟨kq, x26_8, rfl, HA, HJ8, ⟨mc8, rfl⟩⟩ := hcut
          cases kq with
          | zero => exact absurd HA.out (by simp [num_Parse.j2])
          | succ kj8 =>
           have H := HA.out
           clear HA
           simp only [num_Parse.j2] at H
           by_cases c12 : x26_8 = true
           ·subst c12
            have H1 : (some (0, 2)) = some (r1, r2) := by rw [if_pos rfl] at H; exact H
            clear H
            have H := H1
            clear H1
            simp only [Option.some.injEq, Prod.mk.injEq] at H
            obtain ⟨rfl, rfl⟩ := H
            go_wp2
            go_ret2
            exact ⟨by first | rfl | (simp; done) | (simp [*]; done), by repeat (first | exact Drawn0.refl _ | apply Drawn0.step)⟩
           ·replace c12 := Bool.eq_false_iff.mpr c12
            subst c12
            have H1 : (if (bt a0 x13_1) = 48 then (if x6_1 = true then (num_Parse.l0 kj8 a0 x4_1 (wrap64 (x5_1 + 1)) true (IntKind.u64.wrap ((IntKind.u64.wrap (10 * x7_1)) + (((bt a0 x13_1) - 48) % 256))) (a0.size : Int) (wrap64 (x13_1 + 1))) else (num_Parse.l0 kj8 a0 x4_1 (wrap64 (x5_1 + 1)) (decide (x7_1 > ((18446744073709551615 - (((bt a0 x13_1) - 48) % 256)) / 10))) (IntKind.u64.wrap ((IntKind.u64.wrap (10 * x7_1)) + (((bt a0 x13_1) - 48) % 256))) (a0.size : Int) (wrap64 (x13_1 + 1)))) else (if (bt a0 x13_1) ≥ 49 then (if (bt a0 x13_1) ≤ 57 then (if x6_1 = true then (num_Parse.l0 kj8 a0 x4_1 (wrap64 (x5_1 + 1)) true (IntKind.u64.wrap ((IntKind.u64.wrap (10 * x7_1)) + (((bt a0 x13_1) - 48) % 256))) (a0.size : Int) (wrap64 (x13_1 + 1))) else (num_Parse.l0 kj8 a0 x4_1 (wrap64 (x5_1 + 1)) (decide (x7_1 > ((18446744073709551615 - (((bt a0 x13_1) - 48) % 256)) / 10))) (IntKind.u64.wrap ((IntKind.u64.wrap (10 * x7_1)) + (((bt a0 x13_1) - 48) % 256))) (a0.size : Int) (wrap64 (x13_1 + 1)))) else (some (0, 2))) else (some (0, 2)))) = some (r1, r2) := by rw [if_neg (show ¬ (false = true) by decide)] at H; exact H
            clear H
            have H := H1
            clear H1
            by_cases c13 : (bt a0 x13_1) = 48
            ·rw [if_pos c13] at H
             have c13b0 : ((bt a0 x13_1) == 48) = true := beq_iff_eq.mpr c13
             have c13b1 : ((bt a0 x13_1) != 48) = false := bne_eq_false_iff_eq.mpr c13
             clear c13
             by_cases c14 : x6_1 = true
             ·subst c14
              have H1 : (num_Parse.l0 kj8 a0 x4_1 (wrap64 (x5_1 + 1)) true (IntKind.u64.wrap ((IntKind.u64.wrap (10 * x7_1)) + (((bt a0 x13_1) - 48) % 256))) (a0.size : Int) (wrap64 (x13_1 + 1))) = some (r1, r2) := by rw [if_pos rfl] at H; exact H
              clear H
              have H := H1
              clear H1
              have H' := Aside0.mk H
              clear H
              go_wp2
              go_roundg kj8
              case measure => have := HK1.out; have := HJ5.out; have := HJ8.out; omega
              case rel => exact ⟨(x4_1), (wrap64 (x5_1 + 1)), (true), (IntKind.u64.wrap ((IntKind.u64.wrap (10 * x7_1)) + (((bt a0 x13_1) - 48) % 256))), (wrap64 (x13_1 + 1)), (by first | rfl | (simp; done) | (simp [*]; done)), (by first | rfl | (simp; done) | (simp [*]; done)), (by first | rfl | (simp; done) | (simp [*]; done)), (by first | rfl | (simp; done) | (simp [*]; done)), (by first | rfl | (simp; done) | (simp [*]; done)), H', ⟨by have := HK1.out; have := HJ5.out; have := HJ8.out; omega⟩, by repeat (first | exact Drawn0.refl _ | apply Drawn0.step)⟩
             ·replace c14 := Bool.eq_false_iff.mpr c14
              subst c14
              have H1 : (num_Parse.l0 kj8 a0 x4_1 (wrap64 (x5_1 + 1)) (decide (x7_1 > ((18446744073709551615 - (((bt a0 x13_1) - 48) % 256)) / 10))) (IntKind.u64.wrap ((IntKind.u64.wrap (10 * x7_1)) + (((bt a0 x13_1) - 48) % 256))) (a0.size : Int) (wrap64 (x13_1 + 1))) = some (r1, r2) := by rw [if_neg (show ¬ (false = true) by decide)] at H; exact H
              clear H
              have H := H1
              clear H1
              have H' := Aside0.mk H
              clear H
              go_wp2
              go_roundg kj8
              case measure => have := HK1.out; have := HJ5.out; have := HJ8.out; omega
              case rel => exact ⟨(x4_1), (wrap64 (x5_1 + 1)), (decide (x7_1 > ((18446744073709551615 - (((bt a0 x13_1) - 48) % 256)) / 10))), (IntKind.u64.wrap ((IntKind.u64.wrap (10 * x7_1)) + (((bt a0 x13_1) - 48) % 256))), (wrap64 (x13_1 + 1)), (by first | rfl | (simp; done) | (simp [*]; done)), (by first | rfl | (simp; done) | (simp [*]; done)), (by first | rfl | (simp; done) | (simp [*]; done)), (by first | rfl | (simp; done) | (simp [*]; done)), (by first | rfl | (simp; done) | (simp [*]; done)), H', ⟨by have := HK1.out; have := HJ5.out; have := HJ8.out; omega⟩, by repeat (first | exact Drawn0.refl _ | apply Drawn0.step)⟩
            ·rw [if_neg c13] at H
             have c13b0 : ((bt a0 x13_1) == 48) = false := beq_eq_false_iff_ne.mpr c13
             have c13b1 : ((bt a0 x13_1) != 48) = true := bne_iff_ne.mpr c13
             by_cases c15 : (bt a0 x13_1) ≥ 49
             ·rw [if_pos c15] at H
              have c15b0 : decide (49 ≤ (bt a0 x13_1)) = true := decide_eq_true c15
              clear c15
              by_cases c16 : (bt a0 x13_1) ≤ 57
              ·rw [if_pos c16] at H
               have c16b0 : decide ((bt a0 x13_1) ≤ 57) = true := decide_eq_true c16
               clear c16
               by_cases c17 : x6_1 = true
               ·subst c17
                have H1 : (num_Parse.l0 kj8 a0 x4_1 (wrap64 (x5_1 + 1)) true (IntKind.u64.wrap ((IntKind.u64.wrap (10 * x7_1)) + (((bt a0 x13_1) - 48) % 256))) (a0.size : Int) (wrap64 (x13_1 + 1))) = some (r1, r2) := by rw [if_pos rfl] at H; exact H
                clear H
                have H := H1
                clear H1
                have H' := Aside0.mk H
                clear H
                go_wp2
                go_roundg kj8
                case measure => have := HK1.out; have := HJ5.out; have := HJ8.out; omega
                case rel => exact ⟨(x4_1), (wrap64 (x5_1 + 1)), (true), (IntKind.u64.wrap ((IntKind.u64.wrap (10 * x7_1)) + (((bt a0 x13_1) - 48) % 256))), (wrap64 (x13_1 + 1)), (by first | rfl | (simp; done) | (simp [*]; done)), (by first | rfl | (simp; done) | (simp [*]; done)), (by first | rfl | (simp; done) | (simp [*]; done)), (by first | rfl | (simp; done) | (simp [*]; done)), (by first | rfl | (simp; done) | (simp [*]; done)), H', ⟨by have := HK1.out; have := HJ5.out; have := HJ8.out; omega⟩, by repeat (first | exact Drawn0.refl _ | apply Drawn0.step)⟩
               ·replace c17 := Bool.eq_false_iff.mpr c17
                subst c17
                have H1 : (num_Parse.l0 kj8 a0 x4_1 (wrap64 (x5_1 + 1)) (decide (x7_1 > ((18446744073709551615 - (((bt a0 x13_1) - 48) % 256)) / 10))) (IntKind.u64.wrap ((IntKind.u64.wrap (10 * x7_1)) + (((bt a0 x13_1) - 48) % 256))) (a0.size : Int) (wrap64 (x13_1 + 1))) = some (r1, r2) := by rw [if_neg (show ¬ (false = true) by decide)] at H; exact H
                clear H
                have H := H1
                clear H1
                have H' := Aside0.mk H
                clear H
                go_wp2
                go_roundg kj8
                case measure => have := HK1.out; have := HJ5.out; have := HJ8.out; omega
                case rel => exact ⟨(x4_1), (wrap64 (x5_1 + 1)), (decide (x7_1 > ((18446744073709551615 - (((bt a0 x13_1) - 48) % 256)) / 10))), (IntKind.u64.wrap ((IntKind.u64.wrap (10 * x7_1)) + (((bt a0 x13_1) - 48) % 256))), (wrap64 (x13_1 + 1)), (by first | rfl | (simp; done) | (simp [*]; done)), (by first | rfl | (simp; done) | (simp [*]; done)), (by first | rfl | (simp; done) | (simp [*]; done)), (by first | rfl | (simp; done) | (simp [*]; done)), (by first | rfl | (simp; done) | (simp [*]; done)), H', ⟨by have := HK1.out; have := HJ5.out; have := HJ8.out; omega⟩, by repeat (first | exact Drawn0.refl _ | apply Drawn0.step)⟩
              ·rw [if_neg c16] at H
               have c16b0 : decide ((bt a0 x13_1) ≤ 57) = false := decide_eq_false c16
               clear c16
               simp only [Option.some.injEq, Prod.mk.injEq] at H
               obtain ⟨rfl, rfl⟩ := H
               go_wp2
               go_ret2
               exact ⟨by first | rfl | (simp; done) | (simp [*]; done), by repeat (first | exact Drawn0.refl _ | apply Drawn0.step)⟩
             ·rw [if_neg c15] at H
              have c15b0 : decide (49 ≤ (bt a0 x13_1)) = false := decide_eq_false c15
              clear c15
              simp only [Option.some.injEq, Prod.mk.injEq] at H
              obtain ⟨rfl, rfl⟩ := H
              go_wp2
              go_ret2
              exact ⟨by first | rfl | (simp; done) | (simp [*]; done), by repeat (first | exact Drawn0.refl _ | apply Drawn0.step)⟩
     ·rw [if_neg c4] at H
      exact absurd H (by simp)
    ·rw [if_neg c3] at H
     exact absurd H (by simp)
   ·rw [if_neg c2] at H
    have c2b0 : decide (x13_1 < (a0.size : Int)) = false := decide_eq_false c2
    clear c2
    by_cases c18 : x5_1 = 0
    ·rw [if_pos c18] at H
     have c18b0 : (x5_1 == 0) = true := beq_iff_eq.mpr c18
     have c18b1 : (x5_1 != 0) = false := bne_eq_false_iff_eq.mpr c18
     clear c18
     simp only [Option.some.injEq, Prod.mk.injEq] at H
     obtain ⟨rfl, rfl⟩ := H
     go_wp2
     go_ret2
     exact ⟨by first | rfl | (simp; done) | (simp [*]; done), by repeat (first | exact Drawn0.refl _ | apply Drawn0.step)⟩
    ·rw [if_neg c18] at H
     have c18b0 : (x5_1 == 0) = false := beq_eq_false_iff_ne.mpr c18
     have c18b1 : (x5_1 != 0) = true := bne_iff_ne.mpr c18
     by_cases c19 : x6_1 = true
     ·subst c19
      have H1 : (some (0, 4)) = some (r1, r2) := by rw [if_pos rfl] at H; exact H
      clear H
      have H := H1
      clear H1
      simp only [Option.some.injEq, Prod.mk.injEq] at H
      obtain ⟨rfl, rfl⟩ := H
      go_wp2
      go_ret2
      exact ⟨by first | rfl | (simp; done) | (simp [*]; done), by repeat (first | exact Drawn0.refl _ | apply Drawn0.step)⟩
     ·replace c19 := Bool.eq_false_iff.mpr c19
      subst c19
      have H1 : ((num_signed.f x7_1 x4_1).bind fun bt131 => (some (bt131.1, bt131.2))) = some (r1, r2) := by rw [if_neg (show ¬ (false = true) by decide)] at H; exact H
      clear H
      have H := H1
      clear H1
      replace H := Option.bind_eq_some_iff.mp H
      obtain ⟨⟨t131, t132⟩, A200, H⟩ := H
      replace H : (some (t131, t132)) = some (r1, r2) := H
      have A20 := Aside0.mk A200
      clear A200
      simp only [Option.some.injEq, Prod.mk.injEq] at H
      obtain ⟨rfl, rfl⟩ := H
      go_wp2_with (first | ((with_reducible refine gate_callee (f := 80) rfl ?_); refine goesL_ (some 71) rfl rfl Tryd.func80 (by kernel_rfl) rfl #[.int .u64 x7_1, .bool x4_1] rfl (by (try simp only [List.map_toArray, List.map_cons, List.map_nil]); first | done | rfl | (simp only [List.length_drop, List.length_take]; rfl)) ?_; (with_reducible refine (num_signed.calls x7_1 x4_1 t131 t132 _ A20.out).mono ?_); rintro e w' ⟨rfl, ⟨nd, rfl⟩⟩; refine ⟨_, rfl, ?_⟩))
      go_ret2
      exact ⟨by first | rfl | (simp; done) | (simp [*]; done), by repeat (first | exact Drawn0.refl _ | apply Drawn0.step)⟩
def placketref13_Blank.f (a0 : Int) : Option (Bool) := if a0 = 32 then (some true) else (if a0 = 9 then (some true) else (if a0 = 10 then (some true) else (some (a0 == 13))))
set_option maxHeartbeats 8000000 in
set_option maxRecDepth 100000 in
theorem placketref13_Blank.calls (a0 : Int) (r : Bool) (w : World) (h : placketref13_Blank.f a0 = some r) :
  Calls Tryd.prog 25 #[.int .u8 a0] w fun e w' => e = .returned (.bool r) ∧ Drawn0 w w' := by
 have H : (if a0 = 32 then (some true) else (if a0 = 9 then (some true) else (if a0 = 10 then (some true) else (some (a0 == 13))))) = some r := h
 clear h
 by_cases c2 : a0 = 32
 ·rw [if_pos c2] at H
  have c2b0 : (a0 == 32) = true := beq_iff_eq.mpr c2
  have c2b1 : (a0 != 32) = false := bne_eq_false_iff_eq.mpr c2
  clear c2
  obtain rfl := Option.some.inj H
  go_enter Tryd.func25, Tryd.ntmps25
  go_wp2
  go_ret
  exact ⟨by first | rfl | (simp; done) | (simp [*]; done), by repeat (first | exact Drawn0.refl _ | apply Drawn0.step)⟩
 ·rw [if_neg c2] at H
  have c2b0 : (a0 == 32) = false := beq_eq_false_iff_ne.mpr c2
  have c2b1 : (a0 != 32) = true := bne_iff_ne.mpr c2
  by_cases c3 : a0 = 9
  ·rw [if_pos c3] at H
   have c3b0 : (a0 == 9) = true := beq_iff_eq.mpr c3
   have c3b1 : (a0 != 9) = false := bne_eq_false_iff_eq.mpr c3
   clear c3
   obtain rfl := Option.some.inj H
   go_enter Tryd.func25, Tryd.ntmps25
   go_wp2
   go_ret
   exact ⟨by first | rfl | (simp; done) | (simp [*]; done), by repeat (first | exact Drawn0.refl _ | apply Drawn0.step)⟩
  ·rw [if_neg c3] at H
   have c3b0 : (a0 == 9) = false := beq_eq_false_iff_ne.mpr c3
   have c3b1 : (a0 != 9) = true := bne_iff_ne.mpr c3
   by_cases c4 : a0 = 10
   ·rw [if_pos c4] at H
    have c4b0 : (a0 == 10) = true := beq_iff_eq.mpr c4
    have c4b1 : (a0 != 10) = false := bne_eq_false_iff_eq.mpr c4
    clear c4
    obtain rfl := Option.some.inj H
    go_enter Tryd.func25, Tryd.ntmps25
    go_wp2
    go_ret
    exact ⟨by first | rfl | (simp; done) | (simp [*]; done), by repeat (first | exact Drawn0.refl _ | apply Drawn0.step)⟩
   ·rw [if_neg c4] at H
    have c4b0 : (a0 == 10) = false := beq_eq_false_iff_ne.mpr c4
    have c4b1 : (a0 != 10) = true := bne_iff_ne.mpr c4
    obtain rfl := Option.some.inj H
    go_enter Tryd.func25, Tryd.ntmps25
    go_wp2
    go_ret
    exact ⟨by first | rfl | (simp; done) | (simp [*]; done), by repeat (first | exact Drawn0.refl _ | apply Drawn0.step)⟩
def placketref13_Signs.f  : Option (List ByteArray) := some (([(⟨#[46, 46]⟩ : ByteArray), (⟨#[61, 61]⟩ : ByteArray), (⟨#[33, 61]⟩ : ByteArray), (⟨#[60, 61]⟩ : ByteArray), (⟨#[62, 61]⟩ : ByteArray), (⟨#[38, 38]⟩ : ByteArray), (⟨#[124, 124]⟩ : ByteArray), (⟨#[91]⟩ : ByteArray), (⟨#[93]⟩ : ByteArray), (⟨#[123]⟩ : ByteArray), (⟨#[125]⟩ : ByteArray), (⟨#[60]⟩ : ByteArray), (⟨#[62]⟩ : ByteArray), (⟨#[40]⟩ : ByteArray), (⟨#[41]⟩ : ByteArray), (⟨#[44]⟩ : ByteArray), (⟨#[58]⟩ : ByteArray), (⟨#[46]⟩ : ByteArray), (⟨#[42]⟩ : ByteArray), (⟨#[63]⟩ : ByteArray), (⟨#[33]⟩ : ByteArray), (⟨#[36]⟩ : ByteArray), (⟨#[64]⟩ : ByteArray)] : List ByteArray))
set_option maxHeartbeats 8000000 in
set_option maxRecDepth 100000 in
theorem placketref13_Signs.calls  (r : List ByteArray) (w : World) (h : placketref13_Signs.f  = some r) :
  Calls Tryd.prog 28 #[] w fun e w' => ∃ v0_ : Value, e = .returned (v0_) ∧ Kd.R Kd.string 9 w' w.heap.size (fun _ => True) v0_ r ∧ Below w.heap.size w w' := by
 have HB := Aside0.mk (Below.refl w.heap.size w)
 have H : (some (([(⟨#[46, 46]⟩ : ByteArray), (⟨#[61, 61]⟩ : ByteArray), (⟨#[33, 61]⟩ : ByteArray), (⟨#[60, 61]⟩ : ByteArray), (⟨#[62, 61]⟩ : ByteArray), (⟨#[38, 38]⟩ : ByteArray), (⟨#[124, 124]⟩ : ByteArray), (⟨#[91]⟩ : ByteArray), (⟨#[93]⟩ : ByteArray), (⟨#[123]⟩ : ByteArray), (⟨#[125]⟩ : ByteArray), (⟨#[60]⟩ : ByteArray), (⟨#[62]⟩ : ByteArray), (⟨#[40]⟩ : ByteArray), (⟨#[41]⟩ : ByteArray), (⟨#[44]⟩ : ByteArray), (⟨#[58]⟩ : ByteArray), (⟨#[46]⟩ : ByteArray), (⟨#[42]⟩ : ByteArray), (⟨#[63]⟩ : ByteArray), (⟨#[33]⟩ : ByteArray), (⟨#[36]⟩ : ByteArray), (⟨#[64]⟩ : ByteArray)] : List ByteArray))) = some r := h
 clear h
 obtain ⟨y137, hy137⟩ : ∃ y_ : List ByteArray, y_ = (([(⟨#[46, 46]⟩ : ByteArray), (⟨#[61, 61]⟩ : ByteArray), (⟨#[33, 61]⟩ : ByteArray), (⟨#[60, 61]⟩ : ByteArray), (⟨#[62, 61]⟩ : ByteArray), (⟨#[38, 38]⟩ : ByteArray), (⟨#[124, 124]⟩ : ByteArray), (⟨#[91]⟩ : ByteArray), (⟨#[93]⟩ : ByteArray), (⟨#[123]⟩ : ByteArray), (⟨#[125]⟩ : ByteArray), (⟨#[60]⟩ : ByteArray), (⟨#[62]⟩ : ByteArray), (⟨#[40]⟩ : ByteArray), (⟨#[41]⟩ : ByteArray), (⟨#[44]⟩ : ByteArray), (⟨#[58]⟩ : ByteArray), (⟨#[46]⟩ : ByteArray), (⟨#[42]⟩ : ByteArray), (⟨#[63]⟩ : ByteArray), (⟨#[33]⟩ : ByteArray), (⟨#[36]⟩ : ByteArray), (⟨#[64]⟩ : ByteArray)] : List ByteArray)) := ⟨_, rfl⟩
 replace H : (some y137) = some r := by first | (rw [hy137]; with_reducible exact H) | (have H2_ := (Option.bind_some _ _).symm.trans H; rw [hy137]; with_reducible exact H2_) | (have H2_ := (Option.bind_some _ _).symm.trans H; with_reducible exact H2_) | with_reducible exact H | (rw [hy137]; exact H) | exact H
 have Ny137 := Aside0.mk hy137
 clear hy137
 obtain rfl := Option.some.inj H
 go_enter Tryd.func28, Tryd.ntmps28
 go_wp2_with (first | ((with_reducible refine gate_dst (N := 1) rfl ?_); refine Kd.R_lit Kd.string _ 9 ?hg (N := 1) ?hd (xs := ([(⟨#[46, 46]⟩ : ByteArray), (⟨#[61, 61]⟩ : ByteArray), (⟨#[33, 61]⟩ : ByteArray), (⟨#[60, 61]⟩ : ByteArray), (⟨#[62, 61]⟩ : ByteArray), (⟨#[38, 38]⟩ : ByteArray), (⟨#[124, 124]⟩ : ByteArray), (⟨#[91]⟩ : ByteArray), (⟨#[93]⟩ : ByteArray), (⟨#[123]⟩ : ByteArray), (⟨#[125]⟩ : ByteArray), (⟨#[60]⟩ : ByteArray), (⟨#[62]⟩ : ByteArray), (⟨#[40]⟩ : ByteArray), (⟨#[41]⟩ : ByteArray), (⟨#[44]⟩ : ByteArray), (⟨#[58]⟩ : ByteArray), (⟨#[46]⟩ : ByteArray), (⟨#[42]⟩ : ByteArray), (⟨#[63]⟩ : ByteArray), (⟨#[33]⟩ : ByteArray), (⟨#[36]⟩ : ByteArray), (⟨#[64]⟩ : ByteArray)] : List ByteArray)) (inner := [.string (⟨#[46, 46]⟩ : ByteArray), .string (⟨#[61, 61]⟩ : ByteArray), .string (⟨#[33, 61]⟩ : ByteArray), .string (⟨#[60, 61]⟩ : ByteArray), .string (⟨#[62, 61]⟩ : ByteArray), .string (⟨#[38, 38]⟩ : ByteArray), .string (⟨#[124, 124]⟩ : ByteArray), .string (⟨#[91]⟩ : ByteArray), .string (⟨#[93]⟩ : ByteArray), .string (⟨#[123]⟩ : ByteArray), .string (⟨#[125]⟩ : ByteArray), .string (⟨#[60]⟩ : ByteArray), .string (⟨#[62]⟩ : ByteArray), .string (⟨#[40]⟩ : ByteArray), .string (⟨#[41]⟩ : ByteArray), .string (⟨#[44]⟩ : ByteArray), .string (⟨#[58]⟩ : ByteArray), .string (⟨#[46]⟩ : ByteArray), .string (⟨#[42]⟩ : ByteArray), .string (⟨#[63]⟩ : ByteArray), .string (⟨#[33]⟩ : ByteArray), .string (⟨#[36]⟩ : ByteArray), .string (⟨#[64]⟩ : ByteArray)]) (ok := fun _ => True) (okp := fun _ => True) ?hr ?hp (fun _ hk => hk) trivial (Below.refl _ _) (Nat.le_refl _) (by simp) ?_; (case hd => rfl); (case hg => rfl); (case hr => first | (go_simp; done) | (go_simp; rfl)); (case hp => exact (Reps.one (show Kd.M Kd.string _ _ _ (⟨#[46, 46]⟩ : ByteArray) [.string (⟨#[46, 46]⟩ : ByteArray)] from rfl) (Reps.one (show Kd.M Kd.string _ _ _ (⟨#[61, 61]⟩ : ByteArray) [.string (⟨#[61, 61]⟩ : ByteArray)] from rfl) (Reps.one (show Kd.M Kd.string _ _ _ (⟨#[33, 61]⟩ : ByteArray) [.string (⟨#[33, 61]⟩ : ByteArray)] from rfl) (Reps.one (show Kd.M Kd.string _ _ _ (⟨#[60, 61]⟩ : ByteArray) [.string (⟨#[60, 61]⟩ : ByteArray)] from rfl) (Reps.one (show Kd.M Kd.string _ _ _ (⟨#[62, 61]⟩ : ByteArray) [.string (⟨#[62, 61]⟩ : ByteArray)] from rfl) (Reps.one (show Kd.M Kd.string _ _ _ (⟨#[38, 38]⟩ : ByteArray) [.string (⟨#[38, 38]⟩ : ByteArray)] from rfl) (Reps.one (show Kd.M Kd.string _ _ _ (⟨#[124, 124]⟩ : ByteArray) [.string (⟨#[124, 124]⟩ : ByteArray)] from rfl) (Reps.one (show Kd.M Kd.string _ _ _ (⟨#[91]⟩ : ByteArray) [.string (⟨#[91]⟩ : ByteArray)] from rfl) (Reps.one (show Kd.M Kd.string _ _ _ (⟨#[93]⟩ : ByteArray) [.string (⟨#[93]⟩ : ByteArray)] from rfl) (Reps.one (show Kd.M Kd.string _ _ _ (⟨#[123]⟩ : ByteArray) [.string (⟨#[123]⟩ : ByteArray)] from rfl) (Reps.one (show Kd.M Kd.string _ _ _ (⟨#[125]⟩ : ByteArray) [.string (⟨#[125]⟩ : ByteArray)] from rfl) (Reps.one (show Kd.M Kd.string _ _ _ (⟨#[60]⟩ : ByteArray) [.string (⟨#[60]⟩ : ByteArray)] from rfl) (Reps.one (show Kd.M Kd.string _ _ _ (⟨#[62]⟩ : ByteArray) [.string (⟨#[62]⟩ : ByteArray)] from rfl) (Reps.one (show Kd.M Kd.string _ _ _ (⟨#[40]⟩ : ByteArray) [.string (⟨#[40]⟩ : ByteArray)] from rfl) (Reps.one (show Kd.M Kd.string _ _ _ (⟨#[41]⟩ : ByteArray) [.string (⟨#[41]⟩ : ByteArray)] from rfl) (Reps.one (show Kd.M Kd.string _ _ _ (⟨#[44]⟩ : ByteArray) [.string (⟨#[44]⟩ : ByteArray)] from rfl) (Reps.one (show Kd.M Kd.string _ _ _ (⟨#[58]⟩ : ByteArray) [.string (⟨#[58]⟩ : ByteArray)] from rfl) (Reps.one (show Kd.M Kd.string _ _ _ (⟨#[46]⟩ : ByteArray) [.string (⟨#[46]⟩ : ByteArray)] from rfl) (Reps.one (show Kd.M Kd.string _ _ _ (⟨#[42]⟩ : ByteArray) [.string (⟨#[42]⟩ : ByteArray)] from rfl) (Reps.one (show Kd.M Kd.string _ _ _ (⟨#[63]⟩ : ByteArray) [.string (⟨#[63]⟩ : ByteArray)] from rfl) (Reps.one (show Kd.M Kd.string _ _ _ (⟨#[33]⟩ : ByteArray) [.string (⟨#[33]⟩ : ByteArray)] from rfl) (Reps.one (show Kd.M Kd.string _ _ _ (⟨#[36]⟩ : ByteArray) [.string (⟨#[36]⟩ : ByteArray)] from rfl) (Reps.one (show Kd.M Kd.string _ _ _ (⟨#[64]⟩ : ByteArray) [.string (⟨#[64]⟩ : ByteArray)] from rfl) (Reps.none _ _))))))))))))))))))))))))); intro v138 w1 ho2 hb hg_ hnew_; clear hg_ hnew_; (first | rw [← Ny137.out] at ho2 | (simp only [Int.reduceToNat] at ho2; rw [← Ny137.out] at ho2)); have n0_ := Aside0.mk (Kd.R_lower ho2 (below_size (bw HB.out))); have n1_ := Aside0.mk (below_step (bw HB.out) hb); clear HB; have HO139 := n0_; have HB := n1_; clear n0_ n1_; clear hb ho2))
 go_ret
 exact ⟨_, by first | rfl | (simp [errW_none, errW_some] <;> rfl) | (simp [*, errW_none, errW_some] <;> rfl), by (with_reducible repeat (first | apply Kd.R_alloc | apply Kd.R_drewN | apply Kd.R_drew)); exact HO139.out, bw HB.out⟩
end Go.Proofs.YtkbjblhompkdkaaDoor.PA
namespace Go.Proofs.YtkbjblhompkdkaaDoor.Pure
open Go.Proofs.YtkbjblhompkdkaaDoor
def foldV (v : Nat) (l : List Int) : Nat := l.foldl (fun v c => 10 * v + (c - 48).toNat) v
def allDig (l : List Int) : Prop := ∀ c ∈ l, 48 ≤ c ∧ c ≤ 57
instance (l : List Int) : Decidable (allDig l) := inferInstanceAs (Decidable (∀ c ∈ l, 48 ≤ c ∧ c ≤ 57))
def finS (below : Bool) (v : Nat) : Int × Int :=
 if below = true then (if v > 9223372036854775808 then (0, 4) else (-(v : Int), 0)) else (if v > 9223372036854775807 then (0, 4) else ((v : Int), 0))
def Digs (long : Prop) (l : List Int) : Prop := allDig l ∧ l ≠ [] ∧ ¬ (l.head? = some 48 ∧ long)
instance (long : Prop) [Decidable long] (l : List Int) : Decidable (Digs long l) := inferInstanceAs (Decidable (_ ∧ _ ∧ ¬ (_ ∧ _)))
theorem allDig_cons {c : Int} {l : List Int} : allDig (c :: l) ↔ (48 ≤ c ∧ c ≤ 57) ∧ allDig l := by simp [allDig]
def parseS (l : List Int) : Int × Int :=
 if l.head? = some 45 then (if Digs (1 < l.length) l.tail then finS true (foldV 0 l.tail) else (0, 2))
 else (if Digs (1 < l.length) l then finS false (foldV 0 l) else (0, 2))
theorem foldV_ge (l : List Int) : ∀ v, v ≤ foldV v l := by
 induction l with
 | nil => intro v; exact Nat.le_refl _
 | cons c l ih =>
  intro v
  have := ih (10 * v + (c - 48).toNat)
  show v ≤ foldV (10 * v + (c - 48).toNat) l
  omega
theorem finS_over (below : Bool) {v : Nat} (h : v > 9223372036854775808) : finS below v = (0, 4) := by
 unfold finS
 cases below
 ·rw [if_neg (by simp), if_pos (by omega)]
 ·rw [if_pos rfl, if_pos h]
theorem head_app {l m : List Int} (h : l ≠ []) : (l ++ m).head? = l.head? := by
 cases l with
 | nil => exact absurd rfl h
 | cons c l => rfl
theorem foldV_snoc (v : Nat) (l : List Int) (d : Int) : foldV v (l ++ [d]) = 10 * foldV v l + (d - 48).toNat := by simp [foldV]
theorem foldV_decL (u : Nat) : foldV 0 (decL u) = u := by
 induction u using Nat.strongRecOn with
 | _ u ih =>
 by_cases h : u < 10
 ·rw [decL_small h]
  simp [foldV]
  omega
 ·rw [decL_big h, foldV_snoc, ih (u / 10) (by omega)]
  omega
theorem decL_ne (u : Nat) : decL u ≠ [] := by
 by_cases h : u < 10
 ·rw [decL_small h]; simp
 ·rw [decL_big h]; simp
theorem decL_head (u : Nat) : (decL u).head? = some 48 → u = 0 := by
 induction u using Nat.strongRecOn with
 | _ u ih =>
 by_cases h : u < 10
 ·rw [decL_small h]
  simp
  omega
 ·rw [decL_big h, head_app (decL_ne _)]
  intro hh
  have := ih (u / 10) (by omega) hh
  omega
theorem decL_dig (u : Nat) : allDig (decL u) := decL_range u
theorem decL_of_small (l : List Int) (ha : allDig l) (hl : l.length = 1) : decL (foldV 0 l) = l := by
 match l, hl with
 | [c], _ =>
  have := ha c (by simp)
  have e : foldV 0 [c] = (c - 48).toNat := by simp [foldV]
  rw [e, decL_small (by omega)]
  congr 1
  omega
theorem foldV_pos (l : List Int) (ha : allDig l) (hn : l ≠ []) (hh : l.head? ≠ some 48) : 0 < foldV 0 l := by
 match l with
 | [] => exact absurd rfl hn
 | c :: l =>
  have hc := ha c (by simp)
  have h48 : c ≠ 48 := by simpa using hh
  have := foldV_ge l (10 * 0 + (c - 48).toNat)
  show 0 < foldV (10 * 0 + (c - 48).toNat) l
  omega
theorem decL_foldV (n : Nat) : ∀ l : List Int, l.length = n → allDig l → l ≠ [] → ¬ (l.head? = some 48 ∧ 1 < l.length) → decL (foldV 0 l) = l := by
 induction n with
 | zero => intro l hl _ hn; exact absurd (List.eq_nil_of_length_eq_zero hl) hn
 | succ n ih =>
  intro l hl ha hn hz
  by_cases h1 : l.length = 1
  ·exact decL_of_small l ha h1
  ·obtain ⟨m, d, rfl⟩ : ∃ m d, l = m ++ [d] := ⟨l.dropLast, l.getLast hn, (List.dropLast_concat_getLast hn).symm⟩
   have hm : m.length = n := by simpa using hl
   have hmn : m ≠ [] := by
    intro e
    subst e
    simp at h1
   have ham : allDig m := fun c hc => ha c (by simp [hc])
   have hd := ha d (by simp)
   have hh : (m ++ [d]).head? = m.head? := head_app hmn
   have hz' : m.head? ≠ some 48 := by
    intro e
    refine hz ⟨by rw [hh]; exact e, ?_⟩
    simp
    exact List.length_pos_iff.2 hmn
   have hp := foldV_pos m ham hmn hz'
   have e := ih m hm ham hmn (fun h => hz' h.1)
   rw [foldV_snoc, decL_big (by omega), show (10 * foldV 0 m + (d - 48).toNat) / 10 = foldV 0 m by omega, e]
   congr 2
   omega
theorem parseS_digL (n : Int) (h0 : -9223372036854775808 ≤ n) (h1 : n ≤ 9223372036854775807) : parseS (digL n) = (n, 0) := by
 unfold digL parseS
 by_cases hn : n < 0
 ·rw [if_pos hn, if_pos (by simp), if_pos, List.tail_cons, foldV_decL]
  ·unfold finS
   rw [if_pos rfl, if_neg (by omega)]
   congr 1
   omega
  ·refine ⟨decL_dig _, decL_ne _, fun h => ?_⟩
   have := decL_head _ h.1
   omega
 ·rw [if_neg hn, if_neg, if_pos, foldV_decL]
  ·unfold finS
   rw [if_neg (by simp), if_neg (by omega)]
   congr 1
   omega
  ·refine ⟨decL_dig _, decL_ne _, fun h => ?_⟩
   have := decL_head _ h.1
   rw [this] at h
   have h2 := h.2
   rw [decL_small (by omega)] at h2
   simp at h2
  ·intro h
   have hm := List.mem_of_mem_head? (Option.mem_def.2 h)
   have := decL_range _ _ hm
   omega
theorem digL_parseS (l : List Int) (h : (parseS l).2 = 0) : digL (parseS l).1 = l := by
 unfold parseS at h ⊢
 by_cases hm : l.head? = some 45
 ·obtain ⟨t, rfl⟩ : ∃ t, l = 45 :: t := by
   match l, hm with
   | c :: t, hm => exact ⟨t, by simp at hm; rw [hm]⟩
  rw [if_pos hm] at h ⊢
  rw [List.tail_cons] at h ⊢
  by_cases hD : Digs (1 < (45 :: t).length) t
  ·rw [if_pos hD] at h ⊢
   obtain ⟨ha, hne, hz⟩ := hD
   have hlong : 1 < (45 :: t).length := by simp; exact List.length_pos_iff.2 hne
   have hz' : t.head? ≠ some 48 := fun e => hz ⟨e, hlong⟩
   have hp := foldV_pos t ha hne hz'
   unfold finS at h ⊢
   rw [if_pos rfl] at h ⊢
   by_cases hb : foldV 0 t > 9223372036854775808
   ·rw [if_pos hb] at h; simp at h
   ·rw [if_neg hb]
    unfold digL
    rw [if_pos (by omega)]
    congr 1
    rw [show (-((foldV 0 t : Nat) : Int)).natAbs = foldV 0 t by omega]
    exact decL_foldV _ t rfl ha hne (fun e => hz' e.1)
  ·rw [if_neg hD] at h; simp at h
 ·rw [if_neg hm] at h ⊢
  by_cases hD : Digs (1 < l.length) l
  ·rw [if_pos hD] at h ⊢
   obtain ⟨ha, hne, hz⟩ := hD
   unfold finS at h ⊢
   rw [if_neg (show ¬ (false = true) by simp)] at h ⊢
   by_cases hb : foldV 0 l > 9223372036854775807
   ·rw [if_pos hb] at h; simp at h
   ·rw [if_neg hb]
    unfold digL
    rw [if_neg (by omega)]
    rw [show ((foldV 0 l : Nat) : Int).natAbs = foldV 0 l by omega]
    exact decL_foldV _ l rfl ha hne hz
  ·rw [if_neg hD] at h; simp at h
theorem parseS_range (l : List Int) : -9223372036854775808 ≤ (parseS l).1 ∧ (parseS l).1 ≤ 9223372036854775807 := by
 unfold parseS finS
 repeat' split
 all_goals (simp only []; omega)
end Go.Proofs.YtkbjblhompkdkaaDoor.Pure
namespace Go.Proofs.YtkbjblhompkdkaaDoor.Pure
def isLet (c : Int) : Prop := (97 ≤ c ∧ c ≤ 122) ∨ (65 ≤ c ∧ c ≤ 90) ∨ c = 95
def isDig (c : Int) : Prop := 48 ≤ c ∧ c ≤ 57
instance (c : Int) : Decidable (isLet c) := inferInstanceAs (Decidable (_ ∨ _ ∨ _))
instance (c : Int) : Decidable (isDig c) := inferInstanceAs (Decidable (_ ∧ _))
def nameR (first : Bool) : List Int → Bool
 | [] => true
 | c :: r => (decide (isLet c) || (!first && decide (isDig c))) && nameR false r
def nameS (l : List Int) : Bool := !l.isEmpty && nameR true l
end Go.Proofs.YtkbjblhompkdkaaDoor.Pure
namespace Go.Proofs.YtkbjblhompkdkaaDoor.Pure
open Go.Proofs.YtkbjblhompkdkaaDoor
def hexD (n : Int) : Int := if n < 10 then 48 + n else 87 + n
def hexV (great : Bool) (c : Int) : Option Int :=
 if 48 ≤ c ∧ c ≤ 57 then some (c - 48) else if 97 ≤ c ∧ c ≤ 102 then some (c - 87) else if great = true ∧ 65 ≤ c ∧ c ≤ 70 then some (c - 55) else none
def qone (c : Int) : List Int :=
 if letterS c > 0 then [92, letterS c] else if c < 32 ∨ c > 126 then [92, 120, hexD (c / 16), hexD (c % 16)] else [c]
def qbody (l : List Int) : List Int := l.flatMap qone
def quoteL (l : List Int) : List Int := 34 :: (qbody l ++ [34])
def pairL (n : Nat) : List Int → Nat → Int ⊕ (Nat × Int)
 | [], _ => .inr (n, 10)
 | [a], at_ => match hexV true a with | none => .inr (at_, 2) | some _ => .inr (n, 10)
 | a :: b :: _, at_ => match hexV true a with
  | none => .inr (at_, 2)
  | some x => match hexV true b with
   | none => .inr (at_ + 1, 2)
   | some y => .inl (16 * x + y)
def unqL (n : Nat) (l : List Int) (at_ : Nat) (acc : List Int) : List Int × Nat × Int :=
 match l with
 | [] => ([], n, 10)
 | c :: r =>
  if c = 34 then (acc, at_ + 1, 0)
  else if c < 32 then ([], at_, 2)
  else if c = 92 then
   match r with
   | [] => ([], n, 10)
   | d :: r2 =>
    if d = 120 then
     match pairL n r2 (at_ + 2) with
     | .inl x => unqL n (r2.drop 2) (at_ + 4) (acc ++ [x])
     | .inr (p, e) => ([], p, e)
    else if (byLetterS d).2 = true then unqL n r2 (at_ + 2) (acc ++ [(byLetterS d).1])
    else ([], at_ + 1, 2)
  else unqL n r (at_ + 1) (acc ++ [c])
termination_by l.length
decreasing_by all_goals (simp; try omega)
section
variable (n p : Nat) (acc r : List Int) {c d : Int}
theorem unqL_nil : unqL n [] p acc = ([], n, 10) := by rw [unqL.eq_def]
theorem unqL_mark : unqL n (34 :: r) p acc = (acc, p + 1, 0) := by rw [unqL.eq_def]; rfl
theorem unqL_low (h : c < 32) : unqL n (c :: r) p acc = ([], p, 2) := by
 rw [unqL.eq_def]
 simp only []
 rw [if_neg (by omega), if_pos h]
theorem unqL_end : unqL n [92] p acc = ([], n, 10) := by rw [unqL.eq_def]; rfl
theorem unqL_hex : unqL n (92 :: 120 :: r) p acc = (match pairL n r (p + 2) with
  | .inl x => unqL n (r.drop 2) (p + 4) (acc ++ [x])
  | .inr (q, e) => ([], q, e)) := by
 rw [unqL.eq_def]
 rfl
theorem unqL_let (h : d ≠ 120) : unqL n (92 :: d :: r) p acc = (if (byLetterS d).2 = true then unqL n r (p + 2) (acc ++ [(byLetterS d).1]) else ([], p + 1, 2)) := by
 rw [unqL.eq_def]
 simp only []
 rw [if_neg (by omega), if_neg (by omega), if_pos trivial, if_neg h]
theorem unqL_plain (h34 : c ≠ 34) (h32 : ¬ c < 32) (h92 : c ≠ 92) : unqL n (c :: r) p acc = unqL n r (p + 1) (acc ++ [c]) := by
 rw [unqL.eq_def]
 simp only []
 rw [if_neg h34, if_neg h32, if_neg h92]
end
def unquoteL (l : List Int) : List Int × Nat × Int :=
 match l with
 | [] => ([], 0, 10)
 | c :: r => if c = 34 then unqL (r.length + 1) r 1 [] else ([], 0, 2)
theorem hexV_hexD (g : Bool) {x : Int} (h0 : 0 ≤ x) (h1 : x < 16) : hexV g (hexD x) = some x := by
 unfold hexV hexD
 by_cases h : x < 10
 ·rw [if_pos h, if_pos (by omega)]
  congr 1
  omega
 ·rw [if_neg h, if_neg (by omega), if_pos (by omega)]
  congr 1
  omega
theorem letter_cases (c : Int) : (letterS c > 0 ∧ letterS c ≠ 120 ∧ byLetterS (letterS c) = (c, true)) ∨ (letterS c = 0 ∧ c ≠ 34 ∧ c ≠ 92) := by
 unfold letterS
 by_cases h1 : c = 34
 ·subst h1; left; simp [byLetterS]
 by_cases h2 : c = 92
 ·subst h2; left; simp [byLetterS]
 by_cases h3 : c = 10
 ·subst h3; left; simp [byLetterS]
 by_cases h4 : c = 9
 ·subst h4; left; simp [byLetterS]
 by_cases h5 : c = 13
 ·subst h5; left; simp [byLetterS]
 right
 simp [h1, h2, h3, h4, h5]
theorem unq_one (n : Nat) (c : Int) (h0 : 0 ≤ c) (h1 : c ≤ 255) (r : List Int) (p : Nat) (acc : List Int) :
  unqL n (qone c ++ r) p acc = unqL n r (p + (qone c).length) (acc ++ [c]) := by
 rcases letter_cases c with ⟨hl, hx, hb⟩ | ⟨hl, h34, h92⟩
 ·have e : qone c = [92, letterS c] := by unfold qone; rw [if_pos hl]
  rw [e]
  simp only [List.cons_append, List.nil_append, List.length_cons, List.length_nil]
  rw [unqL_let _ _ _ _ hx, hb]
  simp
 ·by_cases hr : c < 32 ∨ c > 126
  ·have e : qone c = [92, 120, hexD (c / 16), hexD (c % 16)] := by unfold qone; rw [if_neg (by omega), if_pos hr]
   rw [e]
   simp only [List.cons_append, List.nil_append, List.length_cons, List.length_nil]
   rw [unqL_hex]
   simp only [pairL, hexV_hexD true (show 0 ≤ c / 16 by omega) (show c / 16 < 16 by omega), hexV_hexD true (show 0 ≤ c % 16 by omega) (show c % 16 < 16 by omega), List.drop_succ_cons, List.drop_zero]
   rw [show 16 * (c / 16) + c % 16 = c by omega]
  ·have e : qone c = [c] := by unfold qone; rw [if_neg (by omega), if_neg hr]
   rw [e]
   simp only [List.cons_append, List.nil_append, List.length_cons, List.length_nil]
   rw [unqL_plain _ _ _ _ h34 (by omega) h92]
theorem unq_body (n : Nat) (l : List Int) : ∀ (r : List Int) (p : Nat) (acc : List Int), (∀ x ∈ l, 0 ≤ x ∧ x ≤ 255) →
  unqL n (qbody l ++ r) p acc = unqL n r (p + (qbody l).length) (acc ++ l) := by
 induction l with
 | nil => intro r p acc _; simp [qbody]
 | cons c l ih =>
  intro r p acc hb
  have hc := hb c (by simp)
  have e : qbody (c :: l) = qone c ++ qbody l := by simp [qbody]
  rw [e, List.append_assoc, unq_one n c hc.1 hc.2, ih _ _ _ (fun x hx => hb x (by simp [hx]))]
  simp [Nat.add_assoc]
theorem unquote_quote (l r : List Int) (hb : ∀ x ∈ l, 0 ≤ x ∧ x ≤ 255) : unquoteL (quoteL l ++ r) = (l, (quoteL l).length, 0) := by
 unfold unquoteL quoteL
 simp only [List.cons_append, List.append_assoc]
 rw [if_pos trivial, unq_body _ l _ 1 [] hb]
 simp only [List.nil_append]
 rw [unqL_mark]
 simp
 omega
end Go.Proofs.YtkbjblhompkdkaaDoor.Pure
namespace Go.Proofs.YtkbjblhompkdkaaDoor.Pure
open Go.Proofs.YtkbjblhompkdkaaDoor
theorem qone_length (c : Int) : (qone c).length ≤ 4 := by
 unfold qone
 repeat' split
 all_goals simp
theorem qbody_length (l : List Int) : (qbody l).length ≤ 4 * l.length := by
 induction l with
 | nil => simp [qbody]
 | cons c l ih =>
  have e : qbody (c :: l) = qone c ++ qbody l := by simp [qbody]
  have := qone_length c
  rw [e, List.length_append, List.length_cons]
  omega
theorem qone_bytes (c : Int) (h0 : 0 ≤ c) (h1 : c ≤ 255) : ∀ x ∈ qone c, 0 ≤ x ∧ x ≤ 255 := by
 have hl : 0 ≤ letterS c ∧ letterS c ≤ 255 := by unfold letterS; repeat' split
                                                 all_goals omega
 have hd : ∀ x : Int, 0 ≤ x → x < 16 → 0 ≤ hexD x ∧ hexD x ≤ 255 := by intro x a b; unfold hexD; split <;> omega
 have d1 := hd (c / 16) (by omega) (by omega)
 have d2 := hd (c % 16) (by omega) (by omega)
 unfold qone
 repeat' split
 all_goals
  intro x hx
  simp at hx
  omega
theorem quoteL_bytes (l : List Int) (h : ∀ x ∈ l, 0 ≤ x ∧ x ≤ 255) : ∀ x ∈ quoteL l, 0 ≤ x ∧ x ≤ 255 := by
 intro x hx
 simp only [quoteL, List.mem_cons, List.mem_append, List.not_mem_nil, or_false, qbody, List.mem_flatMap] at hx
 rcases hx with rfl | ⟨c, hc, hx⟩ | rfl
 ·omega
 ·exact qone_bytes c (h c hc).1 (h c hc).2 x hx
 ·omega
end Go.Proofs.YtkbjblhompkdkaaDoor.Pure
namespace Go.Proofs.YtkbjblhompkdkaaDoor.Pure
open Go.Proofs.YtkbjblhompkdkaaDoor
structure Tok where
 kind : Int
 at_ : Nat
 end_ : Nat
 n : Int
 text : List Int
def blank (c : Int) : Bool := decide (c = 32 ∨ c = 9 ∨ c = 10 ∨ c = 13)
def inName (c : Int) : Bool := decide (isLet c ∨ isDig c)
def digB (c : Int) : Bool := decide (isDig c)
def lead (p : Int → Bool) : List Int → Nat
 | [] => 0
 | c :: r => if p c = true then lead p r + 1 else 0
def signsL : List (List Int) := [[46, 46], [61, 61], [33, 61], [60, 61], [62, 61], [38, 38], [124, 124], [91], [93], [123], [125], [60], [62], [40], [41], [44], [58], [46], [42], [63], [33], [36], [64]]
def signAt (l : List Int) : Option (List Int) := signsL.find? fun x => x.isPrefixOf l
def tokAt (p : Nat) : List Int → Tok ⊕ (Nat × Int)
 | [] => .inl ⟨0, p, p, 0, []⟩
 | c :: r =>
  if c = 34 then
   if (unquoteL (c :: r)).2.2 = 0 then .inl ⟨4, p, p + (unquoteL (c :: r)).2.1, 0, (unquoteL (c :: r)).1⟩
   else .inr (p + (unquoteL (c :: r)).2.1, (unquoteL (c :: r)).2.2)
  else if isLet c then .inl ⟨2, p, p + 1 + lead inName r, 0, c :: r.take (lead inName r)⟩
  else if c = 45 ∨ isDig c then
   if (parseS (c :: r.take (lead digB r))).2 = 0 then .inl ⟨3, p, p + 1 + lead digB r, (parseS (c :: r.take (lead digB r))).1, []⟩
   else .inr (p, (parseS (c :: r.take (lead digB r))).2)
  else match signAt (c :: r) with
   | some x => .inl ⟨1, p, p + x.length, 0, x⟩
   | none => .inr (p, 2)
def nextS (l : List Int) (a : Nat) : Tok ⊕ (Nat × Int) := tokAt (a + lead blank (l.drop a)) (l.drop (a + lead blank (l.drop a)))
def allF : Nat → List Int → Nat → List Tok ⊕ (Nat × Int)
 | 0, _, _ => .inl []
 | f + 1, l, a => match nextS l a with
  | .inr e => .inr e
  | .inl t => if t.kind = 0 then .inl [] else match allF f l t.end_ with
   | .inl ts => .inl (t :: ts)
   | .inr e => .inr e
def allS (l : List Int) (a : Nat) : List Tok ⊕ (Nat × Int) := allF (l.length + 1 - a) l a
theorem lead_le (p : Int → Bool) (l : List Int) : lead p l ≤ l.length := by
 induction l with
 | nil => simp [lead]
 | cons c r ih => simp only [lead]; split <;> (simp; try omega)
theorem lead_all (p : Int → Bool) (l : List Int) : ∀ x ∈ l.take (lead p l), p x = true := by
 induction l with
 | nil => simp [lead]
 | cons c r ih =>
  simp only [lead]
  split
  ·rename_i h
   simp only [List.take_succ_cons, List.mem_cons, forall_eq_or_imp]
   exact ⟨h, ih⟩
  ·simp
theorem lead_app (p : Int → Bool) (l r : List Int) (hl : ∀ x ∈ l, p x = true) (hr : ∀ c s, r = c :: s → p c = false) : lead p (l ++ r) = l.length := by
 induction l with
 | nil =>
  cases r with
  | nil => simp [lead]
  | cons c s => simp [lead, hr c s rfl]
 | cons c l ih =>
  simp only [List.cons_append, lead]
  rw [if_pos (hl c (by simp)), ih (fun x hx => hl x (by simp [hx]))]
  simp
theorem signAt_len {l x : List Int} (h : signAt l = some x) : x.isPrefixOf l = true ∧ x ∈ signsL := ⟨List.find?_some (p := fun x : List Int => x.isPrefixOf l) h, List.mem_of_find?_eq_some (p := fun x : List Int => x.isPrefixOf l) h⟩
theorem signs_pos : ∀ x ∈ signsL, 0 < x.length ∧ x.length ≤ 2 := by decide
theorem unqL_len (n : Nat) : ∀ (m : Nat) (l : List Int), l.length ≤ m → ∀ (p : Nat) (acc : List Int), p + l.length = n → (unqL n l p acc).2.1 ≤ n ∧ ((unqL n l p acc).2.2 = 0 → (unqL n l p acc).1.length + p + 1 ≤ (unqL n l p acc).2.1 + acc.length) := by
 intro m
 induction m with
 | zero =>
  intro l hl p acc hp
  have : l = [] := List.eq_nil_of_length_eq_zero (by omega)
  subst this
  rw [unqL_nil]
  simp
 | succ m ih =>
  intro l hl p acc hp
  match l with
  | [] => rw [unqL_nil]; simp
  | c :: r =>
   simp only [List.length_cons] at hl hp
   by_cases h34 : c = 34
   ·subst h34
    rw [unqL_mark]
    simp only [true_implies]
    omega
   by_cases h32 : c < 32
   ·rw [unqL_low _ _ _ _ h32]
    simp only [show ¬ ((2 : Int) = 0) by omega, false_implies, and_true]
    omega
   by_cases h92 : c = 92
   ·subst h92
    match r with
    | [] => rw [unqL_end]; simp
    | d :: r2 =>
     simp only [List.length_cons] at hl hp
     by_cases hx : d = 120
     ·subst hx
      rw [unqL_hex]
      match r2 with
      | [] => simp [pairL]
      | [a] =>
       simp only [pairL, List.length_singleton] at hp ⊢
       cases hexV true a with
       | none => simp; omega
       | some x => simp
      | a :: b :: r3 =>
       simp only [pairL, List.length_cons] at hl hp ⊢
       cases hexV true a with
       | none => simp; omega
       | some x =>
        cases hexV true b with
        | none => simp; omega
        | some y =>
         simp only [List.drop_succ_cons, List.drop_zero]
         have := ih r3 (by omega) (p + 4) (acc ++ [16 * x + y]) (by omega)
         refine ⟨this.1, fun h0 => ?_⟩
         have h2 := this.2 h0
         simp at h2 ⊢
         omega
     ·rw [unqL_let _ _ _ _ hx]
      split
      ·have := ih r2 (by omega) (p + 2) (acc ++ [(byLetterS d).1]) (by omega)
       refine ⟨this.1, fun h0 => ?_⟩
       have h2 := this.2 h0
       simp at h2 ⊢
       omega
      ·simp only [show ¬ ((2 : Int) = 0) by omega, false_implies, and_true]
       omega
   ·rw [unqL_plain _ _ _ _ h34 h32 h92]
    have := ih r (by omega) (p + 1) (acc ++ [c]) (by omega)
    refine ⟨this.1, fun h0 => ?_⟩
    have h2 := this.2 h0
    simp at h2 ⊢
    omega
theorem unquoteL_len (l : List Int) : (unquoteL l).2.1 ≤ l.length ∧ ((unquoteL l).2.2 = 0 → (unquoteL l).1.length + 2 ≤ (unquoteL l).2.1) := by
 unfold unquoteL
 match l with
 | [] => simp
 | c :: r =>
  simp only []
  split
  ·have := unqL_len (r.length + 1) r.length r (Nat.le_refl _) 1 [] (by omega)
   refine ⟨by simpa using this.1, fun h => ?_⟩
   have := this.2 h
   simp at this
   omega
  ·simp
theorem tokAt_ok {p : Nat} {l : List Int} {t : Tok} (h : tokAt p l = .inl t) :
  t.at_ = p ∧ (l = [] → t = ⟨0, p, p, 0, []⟩) ∧ (l ≠ [] → t.kind ≠ 0 ∧ p < t.end_ ∧ t.end_ ≤ p + l.length) := by
 match l with
 | [] =>
  simp only [tokAt, Sum.inl.injEq] at h
  subst h
  simp
 | c :: r =>
  have hr1 := lead_le inName r
  have hr2 := lead_le digB r
  simp only [tokAt] at h
  refine (fun (hh : t.at_ = p ∧ (t.kind ≠ 0 ∧ p < t.end_ ∧ t.end_ ≤ p + (c :: r).length)) => ⟨hh.1, fun e => absurd e (by simp), fun _ => hh.2⟩) ?_
  simp only [List.length_cons]
  split at h
  ·split at h
   ·rename_i h0
    have hu := unquoteL_len (c :: r)
    have h2 := hu.2 h0
    simp only [List.length_cons] at hu
    simp only [Sum.inl.injEq] at h
    subst h
    simp
    omega
   ·simp at h
  ·split at h
   ·simp only [Sum.inl.injEq] at h
    subst h
    simp
    omega
   ·split at h
    ·split at h
     ·simp only [Sum.inl.injEq] at h
      subst h
      simp
      omega
     ·simp at h
    ·split at h
     ·rename_i x hx
      obtain ⟨hp, hm⟩ := signAt_len hx
      have := signs_pos x hm
      have h3 := (List.isPrefixOf_iff_prefix.1 hp).length_le
      simp only [List.length_cons] at h3
      simp only [Sum.inl.injEq] at h
      subst h
      simp
      omega
     ·simp at h
theorem tokAt_bad {p : Nat} {l : List Int} {e : Nat × Int} (h : tokAt p l = .inr e) : e.1 ≤ p + l.length ∧ e.2 ≠ 0 := by
 match l with
 | [] => simp [tokAt] at h
 | c :: r =>
  simp only [tokAt] at h
  split at h
  ·split at h
   ·simp at h
   ·rename_i h0
    have hu := unquoteL_len (c :: r)
    simp only [Sum.inr.injEq] at h
    subst h
    exact ⟨by simp only []; omega, h0⟩
  ·split at h
   ·simp at h
   ·split at h
    ·split at h
     ·simp at h
     ·rename_i h0
      simp only [Sum.inr.injEq] at h
      subst h
      exact ⟨by simp only []; omega, h0⟩
    ·split at h
     ·simp at h
     ·simp only [Sum.inr.injEq] at h
      subst h
      exact ⟨by simp only []; omega, by simp⟩
theorem skip_le (l : List Int) {a : Nat} (ha : a ≤ l.length) : a + lead blank (l.drop a) ≤ l.length := by
 have := lead_le blank (l.drop a)
 simp at this
 omega
theorem nextS_ok {l : List Int} {a : Nat} (ha : a ≤ l.length) {t : Tok} (h : nextS l a = .inl t) :
  t.at_ = a + lead blank (l.drop a) ∧ t.end_ ≤ l.length ∧ t.at_ ≤ l.length ∧ (t.kind = 0 → t.at_ = l.length ∧ t.end_ = l.length) ∧ (t.kind ≠ 0 → t.at_ < t.end_) := by
 have hs := skip_le l ha
 unfold nextS at h
 obtain ⟨h1, h2, h3⟩ := tokAt_ok h
 by_cases he : l.drop (a + lead blank (l.drop a)) = []
 ·have e := h2 he
  have hl : l.length ≤ a + lead blank (l.drop a) := List.drop_eq_nil_iff.1 he
  rw [e]
  simp
  omega
 ·obtain ⟨h4, h5, h6⟩ := h3 he
  simp at h6
  refine ⟨h1, by omega, by omega, fun h => absurd h h4, fun _ => by omega⟩
theorem nextS_bad {l : List Int} {a : Nat} (ha : a ≤ l.length) {e : Nat × Int} (h : nextS l a = .inr e) : e.1 ≤ l.length ∧ e.2 ≠ 0 := by
 have hs := skip_le l ha
 have := tokAt_bad h
 simp at this
 exact ⟨by omega, this.2⟩
theorem allF_more (l : List Int) : ∀ (d a f : Nat), a ≤ l.length → l.length - a ≤ d → d < f → allF f l a = allF (d + 1) l a := by
 intro d
 induction d with
 | zero =>
  intro a f ha hd hf
  obtain ⟨f, rfl⟩ : ∃ g, f = g + 1 := ⟨f - 1, by omega⟩
  simp only [allF]
  cases hn : nextS l a with
  | inr e => rfl
  | inl t =>
   have hk := nextS_ok ha hn
   have h0 : t.kind = 0 := by
    by_cases h0 : t.kind = 0
    ·exact h0
    ·have := hk.2.2.2.2 h0; omega
   simp only [h0, if_true]
 | succ d ih =>
  intro a f ha hd hf
  obtain ⟨f, rfl⟩ : ∃ g, f = g + 1 := ⟨f - 1, by omega⟩
  rw [allF, allF.eq_2 l a (d + 1)]
  cases hn : nextS l a with
  | inr e => rfl
  | inl t =>
   have hk := nextS_ok ha hn
   simp only []
   split
   ·rfl
   ·rename_i h0
    have := hk.2.2.2.2 h0
    rw [ih t.end_ f hk.2.1 (by omega) (by omega)]
theorem allS_step (l : List Int) {a : Nat} (ha : a ≤ l.length) : allS l a = match nextS l a with
  | .inr e => .inr e
  | .inl t => if t.kind = 0 then .inl [] else match allS l t.end_ with
   | .inl ts => .inl (t :: ts)
   | .inr e => .inr e := by
 unfold allS
 rw [show l.length + 1 - a = (l.length - a) + 1 by omega, allF]
 cases hn : nextS l a with
 | inr e => rfl
 | inl t =>
  have hk := nextS_ok ha hn
  simp only []
  split
  ·rfl
  ·rename_i h0
   have := hk.2.2.2.2 h0
   rw [allF_more l (l.length - t.end_) t.end_ (l.length - a) hk.2.1 (Nat.le_refl _) (by omega), show l.length + 1 - t.end_ = l.length - t.end_ + 1 by omega]
theorem allS_bad (l : List Int) (d : Nat) : ∀ a, a ≤ l.length → l.length - a ≤ d → ∀ e, allS l a = .inr e → e.1 ≤ l.length ∧ e.2 ≠ 0 := by
 induction d with
 | zero =>
  intro a ha hd e h
  rw [allS_step l ha] at h
  cases hn : nextS l a with
  | inr e' =>
   rw [hn] at h
   simp only [Sum.inr.injEq] at h
   subst h
   exact nextS_bad ha hn
  | inl t =>
   have hk := nextS_ok ha hn
   rw [hn] at h
   have h0 : t.kind = 0 := by
    by_cases h0 : t.kind = 0
    ·exact h0
    ·have := hk.2.2.2.2 h0; omega
   simp [h0] at h
 | succ d ih =>
  intro a ha hd e h
  rw [allS_step l ha] at h
  cases hn : nextS l a with
  | inr e' =>
   rw [hn] at h
   simp only [Sum.inr.injEq] at h
   subst h
   exact nextS_bad ha hn
  | inl t =>
   have hk := nextS_ok ha hn
   rw [hn] at h
   simp only [] at h
   split at h
   ·simp at h
   ·rename_i h0
    have := hk.2.2.2.2 h0
    cases hm : allS l t.end_ with
    | inl ts => rw [hm] at h; simp at h
    | inr e' =>
     rw [hm] at h
     simp only [Sum.inr.injEq] at h
     subst h
     exact ih t.end_ hk.2.1 (by omega) e' hm
def Follow (l : List Int) : Nat → List Tok → Prop
 | a, [] => a ≤ l.length ∧ ∀ k, a ≤ k → k < l.length → blank (l.getD k 0) = true
 | a, t :: ts => a ≤ t.at_ ∧ t.at_ < t.end_ ∧ t.end_ ≤ l.length ∧ (∀ k, a ≤ k → k < t.at_ → blank (l.getD k 0) = true) ∧ Follow l t.end_ ts
theorem blanks_at (l : List Int) (a : Nat) (k : Nat) (h1 : a ≤ k) (h2 : k < a + lead blank (l.drop a)) : blank (l.getD k 0) = true := by
 have h := lead_all blank (l.drop a)
 have hl := lead_le blank (l.drop a)
 simp at hl
 refine h _ ?_
 rw [List.mem_take_iff_getElem]
 refine ⟨k - a, by simp; omega, ?_⟩
 simp only [List.getElem_drop]
 have hk : k < l.length := by omega
 simp [List.getD_eq_getElem?_getD, hk, show a + (k - a) = k by omega]
theorem allS_follow (l : List Int) (ts : List Tok) : ∀ a, a ≤ l.length → allS l a = .inl ts → Follow l a ts := by
 induction ts with
 | nil =>
  intro a ha h
  rw [allS_step l ha] at h
  cases hn : nextS l a with
  | inr e => rw [hn] at h; simp at h
  | inl t =>
   have hk := nextS_ok ha hn
   rw [hn] at h
   simp only [] at h
   split at h
   ·rename_i h0
    have h2 := hk.2.2.2.1 h0
    exact ⟨ha, fun k h3 h4 => blanks_at l a k h3 (by omega)⟩
   ·split at h <;> simp at h
 | cons u ts ih =>
  intro a ha h
  rw [allS_step l ha] at h
  cases hn : nextS l a with
  | inr e => rw [hn] at h; simp at h
  | inl t =>
   have hk := nextS_ok ha hn
   rw [hn] at h
   simp only [] at h
   split at h
   ·simp at h
   ·rename_i h0
    have h2 := hk.2.2.2.2 h0
    cases hm : allS l t.end_ with
    | inr e => rw [hm] at h; simp at h
    | inl vs =>
     rw [hm] at h
     simp only [Sum.inl.injEq, List.cons.injEq] at h
     obtain ⟨rfl, rfl⟩ := h
     exact ⟨by omega, h2, hk.2.1, fun k h3 h4 => blanks_at l a k h3 (by omega), ih _ hk.2.1 hm⟩
end Go.Proofs.YtkbjblhompkdkaaDoor.Pure
