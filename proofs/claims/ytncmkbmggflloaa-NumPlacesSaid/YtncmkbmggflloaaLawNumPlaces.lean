/- NumPlaces is true of all numbers: places and pieces of lists are the document's. The walk of the law by the contracts of what it calls, and its row. -/
import Derived.Test.YtncmkbmggflloaaRows
import Derived.Test.YtncmkbmggflloaaNumPure
import Derived.Lib.Hide
import Derived.ProofKit
import Derived.OpenShut
import Derived.Lib.SmallJoins
import Derived.SizedLaws
import Derived.Outline
namespace Go.Proofs.Ytncmkbmggflloaa
open Go.RowKit Go.Proofs.Ytncmkbmggflloaa.PA Go.Proofs.YtncmkbmggflloaaW.PrintWords Go.Proofs.YtncmkbmggflloaaW.PrintLast Go.Proofs.YtncmkbmggflloaaW.PrintMore
set_option linter.unusedVariables false
set_option linter.unusedSimpArgs false

theorem place_same {i n : Int} (hi0 : -9223372036854775808 ≤ i) (hi1 : i ≤ 9223372036854775807) (hn0 : -9223372036854775808 ≤ n) (hn1 : n ≤ 9223372036854775807) :
    ∃ r, num_Place.f 9 i n = some r ∧ placketref01_Place.f 9 i n = some r := by
  refine ⟨if n < 1 ∨ i ≥ n ∨ i < -n then (0, false) else if i < 0 then (n + i, true) else (i, true), ?_, ?_⟩
  · unfold num_Place.f
    simp only [num_Place.j0, decide_eq_true_eq]
    unfold wrap64
    repeat' split
    all_goals first | rfl | (exfalso; omega) | (congr 2; omega) | simp_all
  · unfold placketref01_Place.f
    simp only [placketref01_Place.j0, decide_eq_true_eq]
    unfold wrap64
    repeat' split
    all_goals first | rfl | (exfalso; omega) | (congr 2; omega) | simp_all
theorem edge_same {i n : Int} (hi0 : -9223372036854775808 ≤ i) (hi1 : i ≤ 9223372036854775807) (hn0 : 0 ≤ n) (hn1 : n ≤ 9223372036854775807) :
    ∃ r, num_bound.f i n = some r ∧ placketref01_edge.f i n = some r := by
  refine ⟨if i > n then n else if i ≥ 0 then i else if i < -n then 0 else n + i, ?_, ?_⟩
  · unfold num_bound.f mx mn wrap64
    repeat' split
    all_goals first | rfl | (exfalso; omega) | (congr 1; omega)
  · unfold placketref01_edge.f wrap64
    repeat' split
    all_goals first | rfl | (exfalso; omega) | (congr 1; omega)
theorem cut_same {p q n : Int} (hp0 : -9223372036854775808 ≤ p) (hp1 : p ≤ 9223372036854775807) (hq0 : -9223372036854775808 ≤ q) (hq1 : q ≤ 9223372036854775807) (hn1 : n ≤ 9223372036854775807) :
    ∃ r, num_Cut.f p q n = some r ∧ placketref01_Cut.f p q n = some r := by
  have e : mx 0 n = mx n 0 := by unfold mx; repeat' split
                                 all_goals omega
  have h0 : 0 ≤ mx n 0 := by unfold mx; split <;> omega
  have h1 : mx n 0 ≤ 9223372036854775807 := by unfold mx; split <;> omega
  obtain ⟨a, ha, hb⟩ := edge_same hp0 hp1 h0 h1
  obtain ⟨c, hc, hd⟩ := edge_same hq0 hq1 h0 h1
  exact ⟨(a, mx a c), by unfold num_Cut.f; rw [e, ha, hc]; rfl, by unfold placketref01_Cut.f; rw [hb, hd]; rfl⟩

set_option maxHeartbeats 1000000 in
theorem places_walk (i n p q : Int) (w : World) (hi0 : -9223372036854775808 ≤ i) (hi1 : i ≤ 9223372036854775807) (hn0 : -9223372036854775808 ≤ n) (hn1 : n ≤ 9223372036854775807)
    (hp0 : -9223372036854775808 ≤ p) (hp1 : p ≤ 9223372036854775807) (hq0 : -9223372036854775808 ≤ q) (hq1 : q ≤ 9223372036854775807) :
    Calls Try.prog 5 #[.int .i64 i, .int .i64 n, .agg #[.int .i64 p, .int .i64 q]] w fun e w' => e = .returned (.bool true) ∧ Below w.heap.size w w' := by
  obtain ⟨⟨x, b⟩, hx, hy⟩ := place_same hi0 hi1 hn0 hn1
  obtain ⟨⟨u, v⟩, hu, hv⟩ := cut_same hp0 hp1 hq0 hq1 hn1
  have Hx := Lib.hid hx
  have Hy := Lib.hid hy
  have Hu := Lib.hid hu
  have Hv := Lib.hid hv
  clear hi0 hi1 hn0 hn1 hp0 hp1 hq0 hq1 hx hy hu hv
  have hB := Lib.hid ((Below.refl w.heap.size w).alloc (Nat.le_refl _) (.cells #[.int .i64 p, .int .i64 q] 30))
  go_enter Try.func5, Try.ntmps5
  go_wp2_with fail
  refine (num_Place.calls 9 _ _ _ _ _ Hx.out).mono ?_
  rintro e w1 ⟨rfl, ⟨n1, rfl⟩⟩
  go_wp2_with fail
  refine (placketref01_Place.calls 9 _ _ _ _ _ Hy.out).mono ?_
  rintro e w1 ⟨rfl, ⟨n2, rfl⟩⟩
  go_wp2_with fail
  refine (num_Cut.calls _ _ _ _ _ _ Hu.out).mono ?_
  rintro e w1 ⟨rfl, hb1⟩
  have hc0 : w1.cell? ⟨w.heap.size, 0, none⟩ = some (.int .i64 p) := (hb1.cell (by simp)).trans (by simp)
  have hc1 : w1.cell? ⟨w.heap.size, 1, none⟩ = some (.int .i64 q) := (hb1.cell (by simp)).trans (by simp)
  have hs1 := Lib.hid hb1.size
  have hb1' := Lib.hid (below_then (pw_below_drewN hB.out (n1 + n2)) (by simp) hb1)
  clear hb1
  go_wp2_with fail
  refine (placketref01_Cut.calls _ _ _ _ _ _ Hv.out).mono ?_
  rintro e w2 ⟨rfl, hb2⟩
  have hb2' := Lib.hid (below_then hb1'.out (by have := hs1.out; simp at this; omega) hb2)
  clear hb2
  go_wp2_with fail
  refine (placketlaw01_live.calls 50 true _ Pure.live_yes).mono ?_
  rintro e w3 ⟨rfl, hb3⟩
  have hb3' := Lib.hid (below_then hb2'.out (by exact hb2'.out.size) hb3)
  clear hb3
  go_wp2
  go_ret
  exact ⟨by simp, hb3'.out⟩


namespace numPlaces
open Go.ChangeShapes Go.WideShapes Go.ChangeAt
theorem own : ownKnob Try.prog.godebug = none := by kernel_rfl
/-- An array of two whole numbers, opened. -/
theorem open_pair {H : Type} {enc : TypeId × Value → H} {w : World} {base b0 : Nat} {spare : Nat → Bool} {held : Bool} {r : Reach} {v : Value} {d : DataW H} {p : List MemPlace}
    (hv : Value.okWide Try.prog w r b0 30 v) (h : DataW.Trod enc Try.prog w base spare held 30 v d p) :
    ∃ a b : Int, v = .agg #[.int .i64 a, .int .i64 b] ∧ d = .agg [.lit (.int .i64 a), .lit (.int .i64 b)] ∧ p = [] ∧ (Lit.int .i64 a).wf = true ∧ (Lit.int .i64 b).wf = true := by
  have hu : Try.prog.underlying 30 = some (.array 2 3) := by kernel_rfl
  have hct : Try.prog.cellsOf 30 = 2 := by kernel_rfl
  have hce : Try.prog.cellsOf 3 = 1 := by kernel_rfl
  simp only [Value.okWide, hu] at hv
  obtain ⟨cs, rfl, hsz, _⟩ := hv
  rw [hct] at hsz
  obtain ⟨c0, c1, rfl⟩ := Joins.array2 hsz
  obtain ⟨fuel, hf⟩ := h
  obtain ⟨xs, m, rfl, hx, _, hl, hi⟩ := DataW.trod_array hu hf
  have h0 := hi 0 (by omega)
  have h1 := hi 1 (by omega)
  rw [hce] at h0 h1
  match xs, hl with
  | [y0, y1], _ =>
    simp [Value.cells] at h0 h1
    obtain ⟨a, e0, rfl, wa⟩ := DataW.trod_int Try.underlying3 h0
    obtain ⟨b, e1, rfl, wb⟩ := DataW.trod_int Try.underlying3 h1
    simp at e0 e1 hx
    subst e0; subst e1
    exact ⟨a, b, rfl, hx.1, hx.2, wa, wb⟩
theorem shut_pair {H : Type} {enc : TypeId × Value → H} {w : World} {base : Nat} {spare : Nat → Bool} {held : Bool} {a b : Int} (wa : (Lit.int .i64 a).wf = true) (wb : (Lit.int .i64 b).wf = true) :
    DataW.Trod enc Try.prog w base spare held 30 (.agg #[.int .i64 a, .int .i64 b]) (.agg [.lit (.int .i64 a), .lit (.int .i64 b)]) [] := by
  have hu : Try.prog.underlying 30 = some (.array 2 3) := by kernel_rfl
  have hct : Try.prog.cellsOf 30 = 2 := by kernel_rfl
  have hce : Try.prog.cellsOf 3 = 1 := by kernel_rfl
  have r2 : List.range 2 = [0, 1] := rfl
  exact ⟨2, by simp [DataW.trod, hu, hct, hce, r2, Value.cells, Try.underlying3, wa, wb]⟩

set_option maxRecDepth 100000 in
theorem lifted (os : Os) (started : os.Started) (H : Type) (enc : TypeId × Value → H) :
    ReturnsInHanded {} Try.checked os 5 .any (Rows.numPlacesSpec.pre6 enc Try.prog Try.f5 Rows.numPlacesRow.domain false) (Rows.numPlacesSpec.post enc Try.prog Try.f5 false true false false) := by
  refine returnsInHanded_of_change_sized (C := Try.checked) own started (by kernel_rfl) Try.func5
    (ChangeSpec.witness6 (enc := enc) (C := Try.checked) false ⟨#[], #[.int .i64 0, .int .i64 0, .agg #[.int .i64 0, .int .i64 0]], []⟩ 8 (by kernel_rfl) (by kernel_rfl) (by kernel_rfl) (by kernel_rfl)) ?_
  intro W base args ds gs before hval0 hW hcnd hsz0 _
  have hval : ∀ (j : Nat) t v, Try.f5.params[j]? = some t → args[j]? = some v → Value.okWide Try.prog W .any base t v := hval0
  have hW' := hW
  obtain ⟨p, q, hA0, hV, rfl, hfz, hnd⟩ := hW
  have hA : DataW.TrodAll enc Try.prog W 0 (fun _ => true) true Try.f5.params.toList args.toList ds p := hA0
  rw [Try.params5] at hA hval
  obtain ⟨v0, vs0, d0, ds0, p0, q0, hargs, rfl, rfl, h0, r0⟩ := trodAll_cons hA
  obtain ⟨v1, vs1, d1, ds1, p1, q1, rfl, rfl, rfl, h1, r1⟩ := trodAll_cons r0
  obtain ⟨v2, vs2, d2, ds2, p2, q2, rfl, rfl, rfl, h2, r2⟩ := trodAll_cons r1
  obtain ⟨rfl, rfl, rfl⟩ := trodAll_nil r2
  obtain rfl : args = #[v0, v1, v2] := by cases args; simp_all
  obtain ⟨rfl, rfl⟩ := trodVars_none hV
  obtain ⟨a0, rfl, rfl, rfl, w0⟩ := open_int Try.underlying3 (hval 0 3 v0 rfl rfl) h0
  obtain ⟨a1, rfl, rfl, rfl, w1⟩ := open_int Try.underlying3 (hval 1 3 v1 rfl rfl) h1
  obtain ⟨a2, a3, rfl, rfl, rfl, w2, w3⟩ := open_pair (hval 2 30 v2 rfl rfl) h2
  clear hA0 hval0 hsz0
  refine (places_walk a0 a1 a2 a3 W (Pure.i64_wf w0).1 (Pure.i64_wf w0).2 (Pure.i64_wf w1).1 (Pure.i64_wf w1).2 (Pure.i64_wf w2).1 (Pure.i64_wf w2).2 (Pure.i64_wf w3).1 (Pure.i64_wf w3).2).mono fun e W' ⟨he, bel⟩ => ?_
  subst he
  exact ⟨_, rfl, _, _, _, [], _, [], hW', trodAll_mk1 (shut_bool Try.underlying4 _), (trodAll_cons_mk (shut_int Try.underlying3 w0) (trodAll_cons_mk (shut_int Try.underlying3 w1) (trodAll_cons_mk (shut_pair w2 w3) trodAll_mk0))), rfl, bel.frame _, fun h => by cases h⟩
theorem over : Rows.numPlacesRow.holds Try.pinned (OpenSpec.ofChange Rows.numPlacesSpec) :=
  OpenClaim.holds_of_wide 5 Try.f5 rfl rfl rfl rfl rfl rfl rfl ⟨rfl, rfl, rfl, rfl, rfl⟩ rfl rfl rfl rfl rfl (by kernel_rfl) Try.func5 (by kernel_rfl)
    (of_decide_eq_true (by kernel_rfl)) (by unfold Func.isWrapper; first | (rw [if_pos (by decide +kernel)]; kernel_rfl) | (rw [if_neg (by decide +kernel)]; exact ⟨rfl, rfl⟩))
    (fun os started H enc _ => lifted os started H enc)
end numPlaces
theorem numPlaces_holds : Rows.NumPlacesSaid := numPlaces.over
#print axioms numPlaces_holds

end Go.Proofs.Ytncmkbmggflloaa
