/- FaultKept: the walk of the law by contracts. -/
import Derived.Test.YtgfkpbjimmofdaaDoorFaultCalls
namespace Go.Proofs.YtgfkpbjimmofdaaDoor
open Go.RowKit Go.Proofs.YtgfkpbjimmofdaaDoor.PA Go.Proofs.YtgfkpbjimmofdaaDoorW.PrintWords Go.Proofs.YtgfkpbjimmofdaaDoorW.PrintLast Go.Proofs.YtgfkpbjimmofdaaDoorW.PrintMore
set_option linter.unusedVariables false
set_option linter.unusedSimpArgs false

theorem where_n {l : List Int} {n : Nat} (hn : l.length = n) (c : Option Int) (v : Value) (w : World) (hg : Laid w) (he : Err w v l c) (hlen : n < 17592186044416) :
    Calls Tryd.prog 16 #[v] w fun e w' => ∃ B cb, e = .returned (.slice B n cb) ∧ n ≤ cb ∧ Kd.C (Kd.int .i64) w' B n l ∧ Below w.heap.size w w' := by
  subst hn
  exact where_c l c v w hg he hlen
theorem C_tail {w : World} {ad : Addr} {n : Nat} {a : Int} {l : List Int} (h : Kd.C (Kd.int .i64) w (some ad) (n + 1) (a :: l)) : Kd.C (Kd.int .i64) w (some (ad.add 1)) n l := by
  have hl := Kd.C_len h
  have hm := Kd.C_max h
  have hl' : l.length = n := by simpa using hl
  refine Kd.C_of_reads (d := (0 : Int)) ⟨hl', by omega, fun _ => ⟨_, rfl, fun j hj => ?_⟩⟩
  have h2 : (j : Int) < (n : Int) := Int.ofNat_lt.2 hj
  obtain ⟨ad', e, hx⟩ := Kd.at_int h ((j + 1 : Nat) : Int) (Int.natCast_nonneg _) (by push_cast; omega)
  obtain rfl := Option.some.inj e
  rw [Int.toNat_natCast] at hx
  have e1 : (ad.add 1).add j = ad.add (j + 1) := by simp [Addr.add, Nat.add_comm, Nat.add_left_comm]
  rw [e1, hx]
  rfl

set_option maxHeartbeats 1000000 in
set_option maxRecDepth 100000 in
theorem kept_walk (code at_ : Int) (A : Option Addr) (cap : Nat) (l : List Int) (w : World) (hg : Laid w) (hc : Kd.C (Kd.int .i64) w A l.length l) (hcap : l.length ≤ cap) (hlen : l.length ≤ 140737488351232) :
    Calls Tryd.prog 4 #[.int .i64 code, .int .i64 at_, .slice A l.length cap] w fun e w' => e = .returned (.bool true) ∧ Below w.heap.size w w' := by
  have HG := Lib.hid hg
  have HC := Lib.hid hc
  clear hg hc
  go_enter Tryd.func4, Tryd.ntmps4
  go_wp2_with fail
  refine (live_calls w HG.out).mono ?_
  rintro e w1 ⟨rfl, hb1⟩
  have HB1 := Lib.hid hb1
  clear hb1
  by_cases hbig : (l.length : Int) > 100
  · go_wp2_with fail
    refine (live_calls w1 (HG.out.below HB1.out (Nat.le_refl _))).mono ?_
    rintro e w2 ⟨rfl, hb2⟩
    have HB2 := Lib.hid (below_then HB1.out HB1.out.size hb2)
    clear hb2
    go_wp2
    go_ret
    exact ⟨rfl, HB2.out⟩
  by_cases h0 : code = 0
  · subst h0
    go_wp2_with fail
    refine (live_calls w1 (HG.out.below HB1.out (Nat.le_refl _))).mono ?_
    rintro e w2 ⟨rfl, hb2⟩
    have HB2 := Lib.hid (below_then HB1.out HB1.out.size hb2)
    clear hb2
    go_wp2
    go_ret
    exact ⟨rfl, HB2.out⟩
  have h1 : (code == 0) = false := beq_eq_false_iff_ne.2 h0
  go_wp2_with fail
  refine (new_calls code at_ w1 h0).mono ?_
  rintro e w2 ⟨v, rfl, he2, hb2⟩
  have HE2 := Lib.hid he2
  have HB2 := Lib.hid (below_then HB1.out HB1.out.size hb2)
  clear he2 hb2
  go_wp2
  go_loopg [31, 7] (l.length) (fun k vi ve wr => ∃ i : Nat, vi = .int .i64 (i : Int) ∧ Err wr ve ((l.take i).reverse ++ [at_]) (some code) ∧ Below w.heap.size w wr ∧ k + i = l.length)
  case atStart => exact ⟨0, rfl, HE2.out, HB2.out, by omega⟩
  case round =>
    obtain ⟨i, rfl, he, hb, hk⟩ := hrel
    have HE := Lib.hid he
    have HB := Lib.hid hb
    clear he hb
    by_cases hi : (i : Int) < (l.length : Int)
    · obtain ⟨ad, rfl, hx⟩ := Kd.at_int HC.out (i : Int) (by omega) hi
      have hx := (HB.out.cell (World.block_lt_of_cell? w _ hx)).trans hx
      rw [Int.toNat_natCast] at hx
      have e : (l.take (i + 1)).reverse = rd l (i : Int) :: (l.take i).reverse := by
        have : l.take (i + 1) = l.take i ++ [rd l (i : Int)] := by
          rw [List.take_add_one]
          have hi' : i < l.length := by omega
          simp [rd, hi']
        rw [this]
        simp
      have er : (l.take i).reverse.length = i := by simp; omega
      have HEE := Lib.hid e
      clear e
      generalize hr : (l.take i).reverse = r at *
      clear hr
      generalize hxx : rd l (i : Int) = x at *
      clear hxx
      have HER := Lib.hid er
      have e1 : (r ++ [at_]).length = i + 1 := by simp [er]
      have e2 : (x :: (r ++ [at_])).length = i + 2 := by simp [er]
      have HE1' := Lib.hid e1
      have HE2' := Lib.hid e2
      clear er e1 e2
      go_wp2_with fail
      refine (where_n HE1'.out (some code) _ _ (HG.out.below HB.out (Nat.le_refl _)) HE.out (by omega)).mono ?_
      rintro e w3 ⟨B3, c3, rfl, hc3, hC3, hb3⟩
      have HE3 := Lib.hid (HE.out.below hb3 (Nat.le_refl _))
      have HB3 := Lib.hid (below_then HB.out HB.out.size hb3)
      have HC3 := Lib.hid hC3
      clear hb3 hC3
      go_wp2_with fail
      refine (in_calls x _ _ _ _ HE3.out (.inr (by simp))).mono ?_
      rintro e w4 ⟨b, rfl, ha, hu, he4, hb4⟩
      have HE4 := Lib.hid (show Err w4 (.iface 42 (.pointer (some ⟨b, 0, none⟩))) (x :: (r ++ [at_])) (some code) from ⟨b, _, rfl, ha, hu, he4⟩)
      have HB4 := Lib.hid (below_then HB3.out HB3.out.size hb4)
      have HC4 := Lib.hid (Kd.C_below HC3.out hb4)
      clear ha hu he4 hb4
      go_wp2_with fail
      refine (where_n HE2'.out (some code) _ _ (HG.out.below HB4.out (Nat.le_refl _)) HE4.out (by omega)).mono ?_
      rintro e w5 ⟨B5, c5, rfl, hc5, hC5, hb5⟩
      have HE5 := Lib.hid (HE4.out.below hb5 (Nat.le_refl _))
      have HB5 := Lib.hid (below_then HB4.out HB4.out.size hb5)
      have HC5 := Lib.hid (Kd.C_below HC4.out hb5)
      have HD5 := Lib.hid hC5
      clear hb5 hC5
      go_wp2_with fail
      refine (last_calls at_ (x :: r) (some code) _ _ (HG.out.below HB5.out (Nat.le_refl _)) HE5.out (by have := HER.out; simp; omega)).mono ?_
      rintro e w6 ⟨rfl, hb6⟩
      have HE6 := Lib.hid (HE5.out.below hb6 (Nat.le_refl _))
      have HB6 := Lib.hid (below_then HB5.out HB5.out.size hb6)
      have HC6 := Lib.hid (Kd.C_below HC5.out hb6)
      have HD6 := Lib.hid (Kd.C_below HD5.out hb6)
      clear hb6
      go_wp2_with fail
      refine (code_some code _ _ _ (HG.out.below HB6.out (Nat.le_refl _)) HE6.out).mono ?_
      rintro e w7 ⟨rfl, hb7⟩
      have HE7 := Lib.hid (HE6.out.below hb7 (Nat.le_refl _))
      have HB7 := Lib.hid (below_then HB6.out HB6.out.size hb7)
      have HC7 := Lib.hid (Kd.C_below HC6.out hb7)
      have HD7 := Lib.hid (Kd.C_below HD6.out hb7)
      clear hb7
      obtain ⟨ad5, rfl, hx5⟩ := Kd.at_int HD7.out 0 (by omega) (by omega)
      have hx5' : w7.cell? ad5 = some (.int .i64 x) := by simpa [Addr.add, rd] using hx5
      have HT7 := Lib.hid (C_tail HD7.out)
      clear hx5
      obtain ⟨ks, hs⟩ := Pure.same_ev (r ++ [at_]) (r ++ [at_]) (by rw [HE1'.out]; omega)
      have HS := Lib.hid (hs ks (Nat.le_refl _))
      clear hs
      go_wp2_with fail
      refine (same_calls HT7.out HC7.out (by omega) hc3 HS.out).mono ?_
      rintro e w8 ⟨rfl, ⟨nd, rfl⟩⟩
      have HE8 := Lib.hid (HE7.out.below (pw_below_drewN (Below.refl _ w7) nd) (Nat.le_refl _))
      have HB8 := Lib.hid (pw_below_drewN HB7.out nd)
      go_wp2
      go_roundg (gk - 1)
      case measure => omega
      case rel => exact ⟨i + 1, by go_num, by rw [HEE.out]; exact HE8.out, HB8.out, by omega⟩
    · go_wp2_with fail
      refine (in_nil _ _).mono ?_
      rintro e w3 ⟨rfl, rfl⟩
      go_wp2
      go_ret
      exact ⟨rfl, HB.out⟩
end Go.Proofs.YtgfkpbjimmofdaaDoor
