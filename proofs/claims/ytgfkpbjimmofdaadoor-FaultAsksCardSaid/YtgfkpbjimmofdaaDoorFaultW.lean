/- The functions of package fault, by contracts on chains (Err). -/
import Derived.Test.YtgfkpbjimmofdaaDoorFaultAsC
import Derived.Test.YtgfkpbjimmofdaaDoorWMore
import Derived.WalkKit
import Derived.KernelRfl
import Derived.RowKit3
namespace Go.Proofs.YtgfkpbjimmofdaaDoor
open Go.RowKit Go.Proofs.YtgfkpbjimmofdaaDoorW.PrintWords Go.Proofs.YtgfkpbjimmofdaaDoorW.PrintLast Go.Proofs.YtgfkpbjimmofdaaDoorW.PrintMore
set_option linter.unusedVariables false
set_option linter.unusedSimpArgs false

theorem three_size (w : World) (T : TypeId) (t : Addr) : (three w T t).heap.size = w.heap.size + 3 := by simp [three]
theorem three_below (w : World) (T : TypeId) (t : Addr) : Below w.heap.size w (three w T t) := below_alloc (below_alloc (below_alloc (Below.refl _ _) _) _) _

/-- A block that is still as it was, and one of its cells set: what errors.As does to its target. -/
theorem set_after {w w1 : World} {n : Nat} {t : TypeId} {x u : Value} (hblk : w.heap[n]? = some (.cells #[x] t (0, 0))) (hb : Below w.heap.size w w1) :
    Below n w (w1.setCell ⟨n, 0, none⟩ u) ∧ KeepBut w (w1.setCell ⟨n, 0, none⟩ u) n none ∧ (w1.setCell ⟨n, 0, none⟩ u).heap[n]? = some (.cells #[u] t (0, 0)) :=
  ⟨(hb.mono (Nat.le_of_lt (blk_lt hblk))).setCell (Nat.le_refl n) u, (KeepBut.of_below hb n none).set_ 0 u, blk_put (blk_below hblk hb) 0 u rfl⟩

theorem as_F (b n : Nat) (x : Value) (w : World) (hg : Laid w) (hblk : w.heap[n]? = some (.cells #[x] 42 (0, 0))) :
    Calls Tryd.prog 21 #[.iface 42 (.pointer (some ⟨b, 0, none⟩)), .iface 44 (.pointer (some ⟨n, 0, none⟩))] w fun e w' =>
      e = .returned (.bool true) ∧ Below n w w' ∧ KeepBut w w' n none ∧ w'.heap[n]? = some (.cells #[.pointer (some ⟨b, 0, none⟩)] 42 (0, 0)) := by
  refine (as_hitF ⟨b, 0, none⟩ ⟨n, 0, none⟩ x w hg (blk_cell hblk 0) (blk_frozen hblk 0)).mono ?_
  rintro e w' ⟨rfl, rfl⟩
  exact ⟨rfl, set_after hblk (below_alloc (three_below _ _ _) _)⟩
theorem as_E (c : Int) (n : Nat) (x : Value) (w : World) (hg : Laid w) (hblk : w.heap[n]? = some (.cells #[x] 42 (0, 0))) :
    Calls Tryd.prog 21 #[.iface 22 (.int .i64 c), .iface 44 (.pointer (some ⟨n, 0, none⟩))] w fun e w' =>
      e = .returned (.bool false) ∧ Below w.heap.size w w' := by
  refine (as_missE c ⟨n, 0, none⟩ x w hg (blk_cell hblk 0)).mono ?_
  rintro e w' ⟨rfl, rfl⟩
  exact ⟨rfl, three_below _ _ _⟩
theorem as_C (c : Int) (l : List Int) (v : Value) (n : Nat) (x : Value) (w : World) (hg : Laid w) (he : Err w v l (some c)) (hblk : w.heap[n]? = some (.cells #[x] 22 (0, 0))) :
    Calls Tryd.prog 21 #[v, .iface 54 (.pointer (some ⟨n, 0, none⟩))] w fun e w' =>
      e = .returned (.bool true) ∧ Below n w w' ∧ KeepBut w w' n none ∧ w'.heap[n]? = some (.cells #[.int .i64 c] 22 (0, 0)) := by
  refine (as_code c l v ⟨n, 0, none⟩ x w hg he (blk_cell hblk 0) (blk_frozen hblk 0)).mono ?_
  rintro e w' ⟨rfl, rfl⟩
  exact ⟨rfl, set_after hblk (below_alloc (three_below _ _ _) _)⟩

theorem new_nil (a : Int) (w : World) : Calls Tryd.prog 19 #[.int .i64 0, .int .i64 a] w fun e w' => e = .returned .nilIface ∧ w' = w := by
  go_enter Tryd.func19, Tryd.ntmps19
  go_wp2
  go_ret
  exact ⟨rfl, rfl⟩
theorem new_calls (c a : Int) (w : World) (hc : c ≠ 0) : Calls Tryd.prog 19 #[.int .i64 c, .int .i64 a] w fun e w' => ∃ v, e = .returned v ∧ Err w' v [a] (some c) ∧ Below w.heap.size w w' := by
  go_enter Tryd.func19, Tryd.ntmps19
  go_wp2
  go_ret
  exact ⟨_, rfl, ⟨_, _, rfl, by simp, by simp, rfl⟩, below_alloc (Below.refl _ _) _⟩
theorem in_nil (a : Int) (w : World) : Calls Tryd.prog 20 #[.nilIface, .int .i64 a] w fun e w' => e = .returned .nilIface ∧ w' = w := by
  go_enter Tryd.func20, Tryd.ntmps20
  go_wp2
  go_ret
  exact ⟨rfl, rfl⟩
theorem in_calls (a : Int) (v : Value) (l : List Int) (c : Option Int) (w : World) (he : Err w v l c) (hn : l ≠ [] ∨ c ≠ none) : Calls Tryd.prog 20 #[v, .int .i64 a] w fun e w' => ∃ b, e = .returned (.iface 42 (.pointer (some ⟨b, 0, none⟩))) ∧ w'.cell? ⟨b, 0, none⟩ = some (.int .i64 a) ∧ w'.cell? ⟨b, 1, none⟩ = some v ∧ Err w' v l c ∧ Below w.heap.size w w' := by
  obtain ⟨T, x, rfl⟩ := he.iface hn
  have HE := Lib.hid he
  clear he
  go_enter Tryd.func20, Tryd.ntmps20
  go_wp2
  go_ret
  exact ⟨_, rfl, by simp, by simp, HE.out.below (below_alloc (Below.refl w.heap.size w) _) (Nat.le_refl _), below_alloc (Below.refl _ _) _⟩

/-- What is told of an error: its code; 0 of none; 19 of faults with no code. -/
def asked (l : List Int) : Option Int → Int
  | some c => c
  | none => if l = [] then 0 else 19
theorem code_nil (w : World) : Calls Tryd.prog 13 #[.nilIface] w fun e w' => e = .returned (.int .i64 0) ∧ w' = w := by
  go_enter Tryd.func13, Tryd.ntmps13
  go_wp2
  go_ret
  exact ⟨rfl, rfl⟩
theorem code_some (c : Int) (l : List Int) (v : Value) (w : World) (hg : Laid w) (he : Err w v l (some c)) : Calls Tryd.prog 13 #[v] w fun e w' => e = .returned (.int .i64 c) ∧ Below w.heap.size w w' := by
  obtain ⟨T, x, rfl⟩ := he.iface (.inr (by simp))
  have HE := Lib.hid he
  have HG := Lib.hid hg
  clear he hg
  go_enter Tryd.func13, Tryd.ntmps13
  go_wp2_with fail
  have hb := below_alloc (Below.refl w.heap.size w) (.cells #[.int .i64 0] 22)
  refine (as_C c l _ w.heap.size (.int .i64 0) _ (HG.out.below hb (Nat.le_refl _)) (HE.out.below hb (Nat.le_refl _)) (blk_new _ _)).mono ?_
  rintro e w' ⟨rfl, hB, hK, hblk⟩
  have hc := blk_cell hblk 0
  simp at hc
  have HB := Lib.hid (Below.trans hb hB)
  clear hb hB hK hblk
  go_wp2
  go_ret
  exact ⟨rfl, HB.out⟩

theorem infoInt : (Tryd.prog.info? 3).map (fun i => (i.zero, i.size, i.bytes)) = some (some (.int .i64 0), 1, 8) := by kernel_rfl
set_option maxHeartbeats 1000000 in
theorem where_calls (l : List Int) (c : Option Int) (v : Value) (w : World) (hg : Laid w) (he : Err w v l c) (hlen : l.length < 17592186044416) :
    Calls Tryd.prog 16 #[v] w fun e w' => ∃ v' : Value, e = .returned v' ∧ Kd.R (Kd.int .i64) 3 w' w.heap.size (fun _ => True) v' l ∧ Below w.heap.size w w' := by
  have HE := Lib.hid he
  have HG := Lib.hid hg
  have HL := Lib.hid hlen
  clear he hg hlen
  go_enter Tryd.func16, Tryd.ntmps16
  go_wp2
  go_loopg [0, 3] (l.length + 1) (fun k v vo wr => ∃ l1 l2 x, l = l1 ++ l2 ∧ k = l2.length + 1 ∧ Err w v l2 c ∧ Kd.R (Kd.int .i64) 3 wr w.heap.size (fun _ => True) vo l1 ∧ Below w.heap.size w wr ∧ wr.heap[w.heap.size]? = some (.cells #[x] 42 (0, 0)))
  case atStart => exact ⟨[], l, .pointer none, rfl, rfl, HE.out, Kd.R_nil _ _ _ _ _, below_alloc (Below.refl _ _) _, blk_new _ _⟩
  case round =>
    obtain ⟨l1, l2, x, hl, hk, he, hR, hB, hblk⟩ := hrel
    cases l2 with
    | nil =>
      cases c with
      | none =>
        have he' : _ = _ := he
        subst he'
        rw [List.append_nil] at hl
        subst hl
        have HR := Lib.hid hR
        have HB := Lib.hid hB
        clear he hk hR hB hblk
        go_wp2
        go_ret
        exact ⟨_, rfl, HR.out, HB.out⟩
      | some c =>
        have he' : _ = _ := he
        subst he'
        rw [List.append_nil] at hl
        subst hl
        have HR := Lib.hid hR
        have HB := Lib.hid hB
        have HBK := Lib.hid hblk
        clear he hk hR hB hblk
        go_wp2_with fail
        refine (as_E c w.heap.size x wr (HG.out.below HB.out (Nat.le_refl _)) HBK.out).mono ?_
        rintro e w1 ⟨rfl, hB1⟩
        have HB1 := Lib.hid hB1
        clear hB1
        go_wp2
        go_ret
        exact ⟨_, rfl, Kd.R_below HR.out HB1.out, Below.trans HB.out (HB1.out.mono HB.out.size)⟩
    | cons a l2 =>
      obtain ⟨b, u, rfl, h1, h2, h3⟩ := he
      have hlt := lt_of_cell h1
      have HR := Lib.hid hR
      have HB := Lib.hid hB
      have HBK := Lib.hid hblk
      have HK := Lib.hid hk
      have H1 := Lib.hid h1
      have H2 := Lib.hid h2
      have H3 := Lib.hid h3
      have HA := Lib.hid hl
      have HLT := Lib.hid hlt
      clear hk hR hB hblk h1 h2 h3 hl hlt
      go_wp2_with fail
      refine (as_F b w.heap.size x wr (HG.out.below HB.out (Nat.le_refl _)) HBK.out).mono ?_
      rintro e w1 ⟨rfl, hB1, hK1, hblk1⟩
      have HB1 := Lib.hid (Below.trans HB.out hB1)
      have hRn := Kd.R_types HR.out HBK.out (by decide)
      have hR1 := Kd.R_keep hRn hK1 (fun k hk => hk.2)
      have HNE := Lib.hid (Kd.R_away hR1 (fun k hk => hk.2))
      have HR1 := Lib.hid (Kd.R_mono hR1 (fun k hk => hk.1))
      have hc0 : w1.cell? ⟨w.heap.size, 0, none⟩ = some (.pointer (some ⟨b, 0, none⟩)) := (blk_cell hblk1 0).trans (by simp)
      have hca : w1.cell? ⟨b, 0, none⟩ = some (.int .i64 a) := (HB1.out.cell HLT.out).trans H1.out
      have HBK1 := Lib.hid hblk1
      have HS1 := Lib.hid (blk_lt hblk1)
      clear hRn hR1 hB1 hK1 hblk1
      have hll : l1.length < 17592186044416 := by have h1 := HL.out; have h2 := HA.out; rw [h2, List.length_append] at h1; omega
      have HLL := Lib.hid hll
      clear hll
      go_wp2_with (first | ((with_reducible refine gate_builtin (b := .append) (xs := #[.tmp 16, .tmp 21]) rfl ?_); at_builtin; refine Kd.R_append (Kd.int .i64) (w0 := w) w.heap.size rfl (.tmp 16) (.tmp 21) 23 3 (.int .i64 0) 8 rfl Tryd.underlying23 infoInt rfl (by decide) (by omega) u3 l1 a [.int .i64 a] (fun _ => True) (fun _ => False) rfl rfl ?aP (fun _ hk => hk.elim) ?aF ?aO ?aB ?aS ?aL ?_; (case aP => exact rfl); (case aB => exact HB1.out); (case aF => exact (fun _ _ => trivial)); (case aO => exact HR1.out); (case aS => exact Nat.le_of_lt HS1.out); (case aL => have := HLL.out; omega); intro v111 w9 ho hb hg hat; have HO := Lib.hid ho; have HB9 := Lib.hid hb; have hbk9 := blk_grown HBK1.out hg HNE.out; have hc9 := blk_cell hbk9 0; simp only [List.getElem?_toArray, List.getElem?_cons_zero] at hc9; have hc9u := (HB9.out.cell HLT.out).trans H2.out; have HBK9 := Lib.hid hbk9; clear hat hg ho hb hbk9))
      go_roundg (l2.length + 1)
      case measure => have := HK.out; simp at this; omega
      case rel => exact ⟨l1 ++ [a], l2, _, by rw [HA.out]; simp, rfl, H3.out, HO.out, HB9.out, HBK9.out⟩
end Go.Proofs.YtgfkpbjimmofdaaDoor
