/- QuoteTotal is true of all texts: of two unlike texts one is ahead, and what is ahead of what is ahead is ahead. The walk of the law by the contracts of what it calls, and its row. -/
import Derived.Test.YtdalplbgbgciiaaRows
import Derived.Test.YtdalplbgbgciiaaPAx5
import Derived.Test.YtdalplbgbgciiaaOrderPure
import Derived.Test.YtdalplbgbgciiaaQuoteLive
import Derived.Test.YtdalplbgbgciiaaWMore
import Derived.Lib.Hide
import Derived.WalkKit
import Derived.ProofKit
import Derived.OpenShut
import Derived.ShutString
import Derived.ChangeOld
import Derived.Below
import Derived.SizedLaws
namespace Go.Proofs.Ytdalplbgbgciiaa
open Go.RowKit Go.Proofs.Ytdalplbgbgciiaa.PA Go.Proofs.YtdalplbgbgciiaaW.PrintWords Go.Proofs.YtdalplbgbgciiaaW.PrintLast Go.Proofs.YtdalplbgbgciiaaW.PrintMore
set_option linter.unusedVariables false
set_option linter.unusedSimpArgs false

namespace Pure
theorem order_flip (l m : List Int) : orderL m l = 0 - orderL l m := by
  have i1 := lessL_irrefl l
  have a1 := lessL_asymm l m
  have a2 := lessL_asymm m l
  have t1 := lessL_total l m
  unfold orderL
  by_cases e : l = m
  · subst e
    rw [i1]
    simp
  · by_cases h1 : lessL l m = true
    · simp [h1, a1 h1, e, Ne.symm e]
    · by_cases h2 : lessL m l = true
      · simp [h2, a2 h2, e, Ne.symm e]
      · exact absurd (t1 (by simpa using h1) (by simpa using h2)) e
theorem order_cases (l m : List Int) : (orderL l m = -1 ∧ l ≠ m ∧ lessL l m = true) ∨ (orderL l m = 0 ∧ l = m) ∨ (orderL l m = 1 ∧ l ≠ m ∧ lessL m l = true) := by
  have i1 := lessL_irrefl l
  have t1 := lessL_total l m
  unfold orderL
  by_cases e : l = m
  · subst e
    rw [i1]
    simp
  · by_cases h1 : lessL l m = true
    · simp [h1, e]
    · have h1' : lessL l m = false := by simpa using h1
      have h2 : lessL m l = true := by
        by_cases h2 : lessL m l = true
        · exact h2
        · exact absurd (t1 h1' (by simpa using h2)) e
      simp [h1', e, h2]
/-- The three answers, and what they say together. -/
theorem order_three (a b c : ByteArray) : ∃ x y z : Int, quote_Order.f a b = some x ∧ quote_Order.f b c = some y ∧ quote_Order.f a c = some z ∧ quote_Order.f b a = some (0 - x) ∧
    (x = 1 ∧ a ≠ b ∨ x = 0 ∧ a = b ∧ (y = 1 ∨ y = 0 ∧ z = 0 ∨ y = -1 ∧ z = -1) ∨ x = -1 ∧ a ≠ b ∧ (y = 1 ∨ y = 0 ∧ z = -1 ∨ y = -1 ∧ z = -1)) := by
  refine ⟨_, _, _, order_some a b, order_some b c, order_some a c, ?_, ?_⟩
  · rw [order_some, order_flip]
  · have tr := lessL_trans (bytesOf a) (bytesOf b) (bytesOf c)
    rcases order_cases (bytesOf a) (bytesOf b) with ⟨h1, n1, l1⟩ | ⟨h1, e1⟩ | ⟨h1, n1, l1⟩
    · refine .inr (.inr ⟨h1, fun h => n1 (by rw [h]), ?_⟩)
      rcases order_cases (bytesOf b) (bytesOf c) with ⟨h2, n2, l2⟩ | ⟨h2, e2⟩ | ⟨h2, n2, l2⟩
      · exact .inr (.inr ⟨h2, by unfold orderL; rw [if_pos (tr l1 l2)]⟩)
      · exact .inr (.inl ⟨h2, by rw [← e2]; exact h1⟩)
      · exact .inl h2
    · refine .inr (.inl ⟨h1, bytesOf_inj e1, ?_⟩)
      rcases order_cases (bytesOf b) (bytesOf c) with ⟨h2, n2, l2⟩ | ⟨h2, e2⟩ | ⟨h2, n2, l2⟩
      · exact .inr (.inr ⟨h2, by rw [e1]; exact h2⟩)
      · exact .inr (.inl ⟨h2, by rw [e1]; exact h2⟩)
      · exact .inl h2
    · exact .inl ⟨h1, fun h => n1 (by rw [h])⟩
end Pure

/-- Two unlike texts, as a fact that simp finds by itself. -/
class Unlike (a b : ByteArray) : Prop where
  out : a ≠ b
theorem unlike_eq {a b : ByteArray} [h : Unlike a b] : (a.toList == b.toList) = false := beq_eq_false_iff_ne.2 (fun e => h.out (Pure.toList_inj.1 e))
attribute [local go_sem] unlike_eq
set_option maxHeartbeats 4000000 in
theorem total_walk (a b c : ByteArray) (w : World) (ha : a.size ≤ 140737488351232) (hb : b.size ≤ 140737488351232) (hc : c.size ≤ 140737488351232) :
    Calls Try.prog 4 #[.string a, .string b, .string c] w fun e w' => e = .returned (.bool true) ∧ Below w.heap.size w w' := by
  have hB := Lib.hid (Below.refl w.heap.size w)
  obtain ⟨x, y, z, hx, hy, hz, hv, hall⟩ := Pure.order_three a b c
  obtain ⟨k, hn0⟩ := Pure.common_ev a b ha hb
  have hn := hn0 k (Nat.le_refl _)
  clear hn0
  have hle := Pure.commonL_le (bytesOf a) (bytesOf b)
  have htk := Pure.commonL_take (bytesOf a) (bytesOf b)
  rw [bytesOf_length, bytesOf_length] at hle
  generalize Pure.commonL (bytesOf a) (bytesOf b) = n at hn hle htk
  have Hx := Lib.hid hx
  have Hy := Lib.hid hy
  have Hz := Lib.hid hz
  have Hv := Lib.hid hv
  have Hn := Lib.hid hn
  have Ht := Lib.hid htk
  clear hx hy hz hv hn htk
  go_enter Try.func4, Try.ntmps4
  go_wp2_with fail
  refine (placketlaw02_live.calls 60 true _ Pure.live_yes).mono ?_
  rintro e w1 ⟨rfl, hb1⟩
  have hb1' := Lib.hid hb1
  clear hb1
  go_wp2_with fail
  rotate_left
  all_goals (try (go_at_call 10; refine (placketlaw02_live.calls 60 true _ Pure.live_yes).mono ?_; rintro e w2 ⟨rfl, hb2⟩; have hb2' := Lib.hid (below_then hb1'.out (by exact hb1'.out.size) hb2); clear hb2; go_wp2; go_ret; exact ⟨by simp, hb2'.out⟩))
  go_at_call 11
  refine (quote_Order.calls _ _ _ _ Hx.out).mono ?_
  rintro e w' ⟨rfl, ⟨nd, rfl⟩⟩
  go_wp2_with fail
  refine (quote_Order.calls _ _ _ _ Hy.out).mono ?_
  rintro e w' ⟨rfl, ⟨nd2, rfl⟩⟩
  go_wp2_with fail
  refine (quote_Order.calls _ _ _ _ Hz.out).mono ?_
  rintro e w' ⟨rfl, ⟨nd3, rfl⟩⟩
  go_wp2_with fail
  refine (quote_Common.calls _ _ _ _ _ Hn.out).mono ?_
  rintro e w2 ⟨rfl, hb2⟩
  have hb2' := Lib.hid (below_then (pw_below_drewN hb1'.out (nd + nd2 + nd3)) (by exact hb1'.out.size) hb2)
  clear hb2
  go_wp2_with fail
  have hle1 : (0 : Int) ≤ (n : Int) := by omega
  have hle2 : (n : Int) ≤ (a.size : Int) := by omega
  have hle3 : (n : Int) ≤ (b.size : Int) := by omega
  have htk' : ((a.extract 0 n).toList == (b.extract 0 n).toList) = true := beq_iff_eq.2 (Pure.toList_inj.2 (Pure.bytesOf_inj (by rw [Pure.bytesOf_take, Pure.bytesOf_take]; exact Ht.out)))
  dsimp only [List.append]
  rcases hall with ⟨rfl, h1⟩ | ⟨rfl, rfl, (rfl | ⟨rfl, rfl⟩ | ⟨rfl, rfl⟩)⟩ | ⟨rfl, h1, (rfl | ⟨rfl, rfl⟩ | ⟨rfl, rfl⟩)⟩
  · have h1' : Unlike a b := ⟨h1⟩
    have Hv2 := Lib.hid (show quote_Order.f b a = some (-1) from Hv.out)
    go_big_quiet (first | (go_at_call 11; refine (quote_Order.calls _ _ _ _ Hv2.out).mono ?_; rintro e w' ⟨rfl, ⟨nd, rfl⟩⟩; first | exact ⟨rfl, _, World.drewN_drewN _ _ _⟩ | exact ⟨rfl, _, Eq.trans (World.drewN_drewN _ _ _) (congrArg (World.drewN _) (Nat.add_assoc _ _ _))⟩))
    go_wp2
    go_ret
    exact ⟨by simp [htk'], pw_below_drewN hb2'.out _⟩
  · have Hv2 := Lib.hid (show quote_Order.f a a = some (0) from Hv.out)
    go_big_quiet (first | (go_at_call 11; refine (quote_Order.calls _ _ _ _ Hv2.out).mono ?_; rintro e w' ⟨rfl, ⟨nd, rfl⟩⟩; first | exact ⟨rfl, _, World.drewN_drewN _ _ _⟩ | exact ⟨rfl, _, Eq.trans (World.drewN_drewN _ _ _) (congrArg (World.drewN _) (Nat.add_assoc _ _ _))⟩))
    go_wp2
    go_ret
    exact ⟨by simp [htk'], pw_below_drewN hb2'.out _⟩
  · have Hv2 := Lib.hid (show quote_Order.f a a = some (0) from Hv.out)
    go_big_quiet (first | (go_at_call 11; refine (quote_Order.calls _ _ _ _ Hv2.out).mono ?_; rintro e w' ⟨rfl, ⟨nd, rfl⟩⟩; first | exact ⟨rfl, _, World.drewN_drewN _ _ _⟩ | exact ⟨rfl, _, Eq.trans (World.drewN_drewN _ _ _) (congrArg (World.drewN _) (Nat.add_assoc _ _ _))⟩))
    go_wp2
    go_ret
    exact ⟨by simp [htk'], pw_below_drewN hb2'.out _⟩
  · have Hv2 := Lib.hid (show quote_Order.f a a = some (0) from Hv.out)
    go_big_quiet (first | (go_at_call 11; refine (quote_Order.calls _ _ _ _ Hv2.out).mono ?_; rintro e w' ⟨rfl, ⟨nd, rfl⟩⟩; first | exact ⟨rfl, _, World.drewN_drewN _ _ _⟩ | exact ⟨rfl, _, Eq.trans (World.drewN_drewN _ _ _) (congrArg (World.drewN _) (Nat.add_assoc _ _ _))⟩))
    go_wp2
    go_ret
    exact ⟨by simp [htk'], pw_below_drewN hb2'.out _⟩
  · have h1' : Unlike a b := ⟨h1⟩
    have Hv2 := Lib.hid (show quote_Order.f b a = some (1) from Hv.out)
    go_big_quiet (first | (go_at_call 11; refine (quote_Order.calls _ _ _ _ Hv2.out).mono ?_; rintro e w' ⟨rfl, ⟨nd, rfl⟩⟩; first | exact ⟨rfl, _, World.drewN_drewN _ _ _⟩ | exact ⟨rfl, _, Eq.trans (World.drewN_drewN _ _ _) (congrArg (World.drewN _) (Nat.add_assoc _ _ _))⟩))
    go_wp2
    go_ret
    exact ⟨by simp [htk'], pw_below_drewN hb2'.out _⟩
  · have h1' : Unlike a b := ⟨h1⟩
    have Hv2 := Lib.hid (show quote_Order.f b a = some (1) from Hv.out)
    go_big_quiet (first | (go_at_call 11; refine (quote_Order.calls _ _ _ _ Hv2.out).mono ?_; rintro e w' ⟨rfl, ⟨nd, rfl⟩⟩; first | exact ⟨rfl, _, World.drewN_drewN _ _ _⟩ | exact ⟨rfl, _, Eq.trans (World.drewN_drewN _ _ _) (congrArg (World.drewN _) (Nat.add_assoc _ _ _))⟩))
    go_wp2
    go_ret
    exact ⟨by simp [htk'], pw_below_drewN hb2'.out _⟩
  · have h1' : Unlike a b := ⟨h1⟩
    have Hv2 := Lib.hid (show quote_Order.f b a = some (1) from Hv.out)
    go_big_quiet (first | (go_at_call 11; refine (quote_Order.calls _ _ _ _ Hv2.out).mono ?_; rintro e w' ⟨rfl, ⟨nd, rfl⟩⟩; first | exact ⟨rfl, _, World.drewN_drewN _ _ _⟩ | exact ⟨rfl, _, Eq.trans (World.drewN_drewN _ _ _) (congrArg (World.drewN _) (Nat.add_assoc _ _ _))⟩))
    go_wp2
    go_ret
    exact ⟨by simp [htk'], pw_below_drewN hb2'.out _⟩

namespace quoteTotal
open Go.ChangeShapes Go.WideShapes Go.ChangeAt
open Go.ChangeMaps (open_string shut_string)
theorem own : ownKnob Try.prog.godebug = none := by kernel_rfl
set_option maxRecDepth 100000 in
theorem lifted (os : Os) (started : os.Started) (H : Type) (enc : TypeId × Value → H) :
    ReturnsInHanded {} Try.checked os 4 .any (Rows.quoteTotalSpec.pre6 enc Try.prog Try.f4 Rows.quoteTotalRow.domain false) (Rows.quoteTotalSpec.post enc Try.prog Try.f4 false true false false) := by
  refine returnsInHanded_of_change_sized (C := Try.checked) own started (by kernel_rfl) Try.func4
    (ChangeSpec.witness6 (enc := enc) (C := Try.checked) false ⟨#[], #[.string ByteArray.empty, .string ByteArray.empty, .string ByteArray.empty], []⟩ 8 (by kernel_rfl) (by kernel_rfl) (by kernel_rfl) (by kernel_rfl)) ?_
  intro W base args ds gs before hval0 hW hcnd hsz0 _
  have hsz : (DataW.weightsEach Try.prog (Try.f4.params.toList ++ Rows.quoteTotalSpec.plain.varTypes Try.prog) (ds ++ gs)).all (· ≤ reachBytes) = true := hsz0
  have hval : ∀ (j : Nat) t v, Try.f4.params[j]? = some t → args[j]? = some v → Value.okWide Try.prog W .any base t v := hval0
  have hW' := hW
  obtain ⟨p, q, hA0, hV, rfl, hfz, hnd⟩ := hW
  have hA : DataW.TrodAll enc Try.prog W 0 (fun _ => true) true Try.f4.params.toList args.toList ds p := hA0
  rw [Try.params4] at hA hval hsz
  obtain ⟨v0, vs0, d0, ds0, p0, q0, hargs, rfl, rfl, h0, r0⟩ := trodAll_cons hA
  obtain ⟨v1, vs1, d1, ds1, p1, q1, rfl, rfl, rfl, h1, r1⟩ := trodAll_cons r0
  obtain ⟨v2, vs2, d2, ds2, p2, q2, rfl, rfl, rfl, h2, r2⟩ := trodAll_cons r1
  obtain ⟨rfl, rfl, rfl⟩ := trodAll_nil r2
  obtain rfl : args = #[v0, v1, v2] := by cases args; simp_all
  obtain ⟨rfl, rfl⟩ := trodVars_none hV
  obtain ⟨a0, rfl, rfl, rfl, y0⟩ := open_string Try.underlying9 (hval 0 9 v0 rfl rfl) h0
  have w0 : a0.size ≤ 140737488351232 := by
    have z := sized_string hsz (j := 0) (t := 9) rfl rfl
    rw [Array.length_toList] at z
    exact z
  obtain ⟨a1, rfl, rfl, rfl, y1⟩ := open_string Try.underlying9 (hval 1 9 v1 rfl rfl) h1
  have w1 : a1.size ≤ 140737488351232 := by
    have z := sized_string hsz (j := 1) (t := 9) rfl rfl
    rw [Array.length_toList] at z
    exact z
  obtain ⟨a2, rfl, rfl, rfl, y2⟩ := open_string Try.underlying9 (hval 2 9 v2 rfl rfl) h2
  have w2 : a2.size ≤ 140737488351232 := by
    have z := sized_string hsz (j := 2) (t := 9) rfl rfl
    rw [Array.length_toList] at z
    exact z
  clear hA0 hval0 hsz0 hsz
  refine (total_walk a0 a1 a2 W w0 w1 w2).mono fun e W' ⟨he, bel⟩ => ?_
  subst he
  exact ⟨_, rfl, _, _, _, [], _, [], hW', trodAll_mk1 (shut_bool Try.underlying4 _), (trodAll_cons_mk (shut_string Try.underlying9 y0) (trodAll_cons_mk (shut_string Try.underlying9 y1) (trodAll_cons_mk (shut_string Try.underlying9 y2) trodAll_mk0))), rfl, bel.frame _, fun h => by cases h⟩
theorem over : Rows.quoteTotalRow.holds Try.pinned (OpenSpec.ofChange Rows.quoteTotalSpec) :=
  OpenClaim.holds_of_wide 4 Try.f4 rfl rfl rfl rfl rfl rfl rfl ⟨rfl, rfl, rfl, rfl, rfl⟩ rfl rfl rfl rfl rfl (by kernel_rfl) Try.func4 (by kernel_rfl)
    (of_decide_eq_true (by kernel_rfl)) (by unfold Func.isWrapper; first | (rw [if_pos (by decide +kernel)]; kernel_rfl) | (rw [if_neg (by decide +kernel)]; exact ⟨rfl, rfl⟩))
    (fun os started H enc _ => lifted os started H enc)
end quoteTotal
theorem quoteTotal_holds : Rows.QuoteTotalSaid := quoteTotal.over
#print axioms quoteTotal_holds
end Go.Proofs.Ytdalplbgbgciiaa
