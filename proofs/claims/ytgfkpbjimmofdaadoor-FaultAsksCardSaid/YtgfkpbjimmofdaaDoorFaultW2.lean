/- fault.Last, fault.Text, and the law's own 'made', by contracts on chains. -/
import Derived.Test.YtgfkpbjimmofdaaDoorFaultW
import Derived.Test.YtgfkpbjimmofdaaDoorFaultPure
import Derived.Test.YtgfkpbjimmofdaaDoorGDigits
namespace Go.Proofs.YtgfkpbjimmofdaaDoor
open Go.RowKit Go.Proofs.YtgfkpbjimmofdaaDoor.PA Go.Proofs.YtgfkpbjimmofdaaDoorW.PrintWords Go.Proofs.YtgfkpbjimmofdaaDoorW.PrintLast Go.Proofs.YtgfkpbjimmofdaaDoorW.PrintMore
set_option linter.unusedVariables false
set_option linter.unusedSimpArgs false

theorem last_nil (w : World) (hg : Laid w) : Calls Tryd.prog 12 #[.nilIface] w fun e w' => e = .returned (.tuple #[.int .i64 0, .bool false]) ∧ Below w.heap.size w w' := by
  have HG := Lib.hid hg
  clear hg
  go_enter Tryd.func12, Tryd.ntmps12
  go_wp2_with fail
  refine (where_calls [] none .nilIface w HG.out rfl (by decide)).mono ?_
  rintro e w' ⟨v', rfl, hR, hB⟩
  obtain ⟨A, c, rfl, hc, hC⟩ := Kd.R_reads hR
  have HB := Lib.hid hB
  clear hR hC hB
  go_wp2
  go_ret2
  exact ⟨rfl, HB.out⟩
theorem last_calls (a : Int) (l : List Int) (c : Option Int) (v : Value) (w : World) (hg : Laid w) (he : Err w v (l ++ [a]) c) (hlen : l.length < 17592186044415) : Calls Tryd.prog 12 #[v] w fun e w' => e = .returned (.tuple #[.int .i64 a, .bool true]) ∧ Below w.heap.size w w' := by
  have HG := Lib.hid hg
  have HE := Lib.hid he
  have HL := Lib.hid hlen
  clear hg he hlen
  go_enter Tryd.func12, Tryd.ntmps12
  go_wp2_with fail
  refine (where_calls (l ++ [a]) c v w HG.out HE.out (by have := HL.out; simp; omega)).mono ?_
  rintro e w' ⟨v', rfl, hR, hB⟩
  obtain ⟨A, cc, rfl, hc, hC⟩ := Kd.R_reads hR
  have hlen := HL.out
  have e1 : (((l ++ [a]).length : Nat) : Int) = (l.length : Int) + 1 := by simp
  obtain ⟨ad, rfl, hx⟩ := Kd.at_int hC (l.length : Int) (by omega) (by omega)
  have e2 : rd (l ++ [a]) (l.length : Int) = a := by simp [rd]
  rw [e2, Int.toNat_natCast] at hx
  have e3 : (l ++ [a]).length = l.length + 1 := by simp
  rw [e3] at hc
  rw [e3]
  have HB := Lib.hid hB
  clear hR hC hB e1 e2 e3
  go_wp2
  go_ret2
  exact ⟨rfl, HB.out⟩

theorem made_nil (at_ : Int) (A : Option Addr) (cap : Nat) (l : List Int) (w : World) (hc : Kd.C (Kd.int .i64) w A l.length l) (hcap : l.length ≤ cap) (hlen : l.length ≤ 140737488351232) :
    Calls Tryd.prog 10 #[.int .i64 0, .int .i64 at_, .slice A l.length cap] w fun e w' => e = .returned .nilIface ∧ w' = w := by
  have HC := Lib.hid hc
  clear hc
  go_enter Tryd.func10, Tryd.ntmps10
  go_wp2_with fail
  refine (new_nil at_ w).mono ?_
  rintro e w' ⟨rfl, rfl⟩
  go_wp2
  go_loopg [15, 7] (l.length) (fun k vi ve wr => ∃ i : Nat, vi = .int .i64 (i : Int) ∧ ve = .nilIface ∧ wr = w' ∧ k + i = l.length)
  case atStart => exact ⟨0, rfl, rfl, rfl, by omega⟩
  case round =>
    obtain ⟨i, rfl, rfl, rfl, hk⟩ := hrel
    by_cases hi : (i : Int) < (l.length : Int)
    · obtain ⟨ad, rfl, hx⟩ := Kd.at_int HC.out (i : Int) (by omega) hi
      rw [Int.toNat_natCast] at hx
      go_wp2_with fail
      refine (in_nil _ _).mono ?_
      rintro e w' ⟨rfl, rfl⟩
      go_wp2
      go_roundg (gk - 1)
      case measure => omega
      case rel => exact ⟨i + 1, by go_num, rfl, rfl, by omega⟩
    · go_wp2
      go_ret
      exact ⟨rfl, rfl⟩

theorem made_calls (code at_ : Int) (A : Option Addr) (cap : Nat) (l : List Int) (w : World) (h0 : code ≠ 0) (hc : Kd.C (Kd.int .i64) w A l.length l) (hcap : l.length ≤ cap) (hlen : l.length ≤ 140737488351232) :
    Calls Tryd.prog 10 #[.int .i64 code, .int .i64 at_, .slice A l.length cap] w fun e w' => ∃ v, e = .returned v ∧ Err w' v (l.reverse ++ [at_]) (some code) ∧ Below w.heap.size w w' := by
  have HC := Lib.hid hc
  clear hc
  go_enter Tryd.func10, Tryd.ntmps10
  go_wp2_with fail
  refine (new_calls code at_ w h0).mono ?_
  rintro e w1 ⟨v1, rfl, he1, hb1⟩
  have HE1 := Lib.hid he1
  have HB1 := Lib.hid hb1
  clear he1 hb1
  go_wp2
  go_loopg [15, 7] (l.length) (fun k vi ve wr => ∃ i : Nat, vi = .int .i64 (i : Int) ∧ Err wr ve ((l.take i).reverse ++ [at_]) (some code) ∧ Below w.heap.size w wr ∧ k + i = l.length)
  case atStart => exact ⟨0, rfl, HE1.out, HB1.out, by omega⟩
  case round =>
    obtain ⟨i, rfl, he, hb, hk⟩ := hrel
    have HE := Lib.hid he
    have HB := Lib.hid hb
    clear he hb
    by_cases hi : (i : Int) < (l.length : Int)
    · obtain ⟨ad, rfl, hx⟩ := Kd.at_int HC.out (i : Int) (by omega) hi
      have hx := (HB.out.cell (World.block_lt_of_cell? w _ hx)).trans hx
      rw [Int.toNat_natCast] at hx
      go_wp2_with fail
      refine (in_calls (rd l (i : Int)) _ _ _ _ HE.out (.inr (by simp))).mono ?_
      rintro e w2 ⟨b, rfl, ha, hu, he2, hb2⟩
      have HE2 := Lib.hid (show Err w2 (.iface 42 (.pointer (some ⟨b, 0, none⟩))) (rd l (i : Int) :: ((l.take i).reverse ++ [at_])) (some code) from ⟨b, _, rfl, ha, hu, he2⟩)
      have HB2 := Lib.hid (below_then HB.out HB.out.size hb2)
      clear ha hu he2 hb2
      go_wp2
      go_roundg (gk - 1)
      case measure => omega
      case rel =>
        refine ⟨i + 1, by go_num, ?_, HB2.out, by omega⟩
        have e : (l.take (i + 1)).reverse = rd l (i : Int) :: (l.take i).reverse := by
          have : l.take (i + 1) = l.take i ++ [rd l (i : Int)] := by
            rw [List.take_add_one]
            have hi' : i < l.length := by omega
            simp [rd, hi']
          rw [this]
          simp
        rw [e]
        exact HE2.out
    · have hil : i = l.length := by omega
      subst hil
      rw [List.take_length] at HE
      go_wp2
      go_ret
      exact ⟨_, rfl, HE.out, HB.out⟩

theorem text_nil (w : World) : Calls Tryd.prog 17 #[.nilIface] w fun e w' => e = .returned (.string ⟨#[111, 107]⟩) ∧ w' = w := by
  go_enter Tryd.func17, Tryd.ntmps17
  go_wp2
  go_ret
  exact ⟨rfl, rfl⟩
/-- The text of an error under which a number is told (q: its code, or 19). -/
theorem text_of (q : Int) (l : List Int) (c : Option Int) (v : Value) (w : World) (hn : l ≠ [] ∨ c ≠ none)
    (hcode : ∀ w1 : World, Laid w1 → Err w1 v l c → Calls Tryd.prog 13 #[v] w1 fun e w' => e = .returned (.int .i64 q) ∧ Below w1.heap.size w1 w')
    (hg : Laid w) (he : Err w v l c) (hq : Pure.InI q) (hin : ∀ n ∈ l, Pure.InI n) (hlen : l.length ≤ 1000000) :
    Calls Tryd.prog 17 #[v] w fun e w' => e = .returned (.string (Pure.atS ((⟨#[101, 114, 114, 111, 114, 32]⟩ : ByteArray) ++ strOfNums (digL q)) l)) ∧ Below w.heap.size w w' := by
  obtain ⟨T, x, rfl⟩ := he.iface hn
  have HG := Lib.hid hg
  have HE := Lib.hid he
  have HC := Lib.hid hcode
  have HI := Lib.hid hin
  have hz := Pure.dig_size hq
  have hz2 : ((⟨#[101, 114, 114, 111, 114, 32]⟩ : ByteArray) ++ strOfNums (digL q)).size ≤ 26 := by
    rw [ByteArray.size_append]
    show 6 + _ ≤ 26
    omega
  clear hg he hcode hin
  go_enter Tryd.func17, Tryd.ntmps17
  go_wp2_with fail
  refine (HC.out w HG.out HE.out).mono ?_
  rintro e w1 ⟨rfl, hb1⟩
  have HB1 := Lib.hid hb1
  clear hb1
  go_wp2_with fail
  refine (digits_any q w1 hq.1 hq.2).mono ?_
  rintro e w2 ⟨rfl, hb2⟩
  have HB2 := Lib.hid (below_then HB1.out HB1.out.size hb2)
  clear hb2
  generalize hs0 : strOfNums (digL q) = s0 at *
  go_wp2_with fail
  refine (where_calls l c _ w2 (HG.out.below HB2.out (Nat.le_refl _)) (HE.out.below HB2.out (Nat.le_refl _)) (by omega)).mono ?_
  rintro e w3 ⟨v', rfl, hR, hb3⟩
  obtain ⟨A, cap, rfl, hcap, hC⟩ := Kd.R_reads hR
  have HR := Lib.hid hC
  have HB3 := Lib.hid (below_then HB2.out HB2.out.size hb3)
  clear hR hb3 hC
  generalize hs1 : (⟨#[101, 114, 114, 111, 114, 32]⟩ : ByteArray) ++ s0 = s1 at *
  have HS0 := Lib.hid hs0
  have HS1 := Lib.hid hs1
  clear hs0 hs1
  go_wp2
  go_loopg [15, 3] (l.length) (fun k vi vs wr => ∃ (i : Nat) (s : ByteArray), vi = .int .i64 (i : Int) ∧ vs = .string s ∧ s.size ≤ 26 + 24 * i ∧ Hid (Pure.atS s (l.drop i) = Pure.atS s1 l) ∧ Below w3.heap.size w3 wr ∧ k + i = l.length)
  case atStart => exact ⟨0, _, rfl, rfl, by omega, rfl, Below.refl _ _, by omega⟩
  case round =>
    obtain ⟨i, s, rfl, rfl, hs, hat, hb, hk⟩ := hrel
    have HAT := Lib.hid hat.out
    have HB := Lib.hid hb
    clear hat hb
    by_cases hi : (i : Int) < (l.length : Int)
    · obtain ⟨ad, rfl, hx⟩ := Kd.at_int HR.out (i : Int) (by omega) hi
      have hx := (HB.out.cell (World.block_lt_of_cell? w3 _ hx)).trans hx
      rw [Int.toNat_natCast] at hx
      have hi' : i < l.length := by omega
      have hmem : Pure.InI (rd l (i : Int)) := by
        have : rd l (i : Int) = l[i] := by simp [rd, hi']
        rw [this]
        exact HI.out _ (List.getElem_mem hi')
      have hzd := Pure.dig_size hmem
      go_wp2_with fail
      refine (digits_any (rd l (i : Int)) _ hmem.1 hmem.2).mono ?_
      rintro e w4 ⟨rfl, hb4⟩
      have HB4 := Lib.hid (below_then HB.out HB.out.size hb4)
      have HD := Lib.hid (Pure.drop_rd hi')
      clear hb4
      generalize hsd : strOfNums (digL (rd l (i : Int))) = sd at *
      have h4 : ((⟨#[32, 97, 116, 32]⟩ : ByteArray) ++ sd).size ≤ 24 := by
        rw [ByteArray.size_append]
        show 4 + _ ≤ 24
        omega
      have hss : (s ++ ((⟨#[32, 97, 116, 32]⟩ : ByteArray) ++ sd)).size ≤ 26 + 24 * (i + 1) := by
        rw [ByteArray.size_append]
        omega
      have HSD := Lib.hid hsd
      clear hsd
      go_wp2
      go_roundg (gk - 1)
      case measure => omega
      case rel =>
        refine ⟨i + 1, _, by go_num, rfl, hss, ?_, HB4.out, by omega⟩
        have h := HAT.out
        rw [HD.out, Pure.atS, HSD.out] at h
        exact h
    · have hil : i = l.length := by omega
      have h := HAT.out
      rw [hil, List.drop_length] at h
      have HF := Lib.hid (show s = Pure.atS s1 l from h)
      clear h
      go_wp2
      go_ret
      exact ⟨by rw [HF.out, ← HS1.out, ← HS0.out]; rfl, below_then HB3.out HB3.out.size HB.out⟩
end Go.Proofs.YtgfkpbjimmofdaaDoor
