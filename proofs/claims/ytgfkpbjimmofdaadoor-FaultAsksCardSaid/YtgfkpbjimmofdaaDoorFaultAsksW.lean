/- FaultAsks: the walk of the law by contracts (printed by tools/genasks.py: the walk of the last region, which draws its order, by the kit's regions.walk). -/
import Derived.Test.YtgfkpbjimmofdaaDoorFaultKeptW
import Derived.Test.YtgfkpbjimmofdaaDoorFaultOuterW
namespace Go.Proofs.YtgfkpbjimmofdaaDoor
open Go.RowKit Go.Proofs.YtgfkpbjimmofdaaDoor.PA Go.Proofs.YtgfkpbjimmofdaaDoorW.PrintWords Go.Proofs.YtgfkpbjimmofdaaDoorW.PrintLast Go.Proofs.YtgfkpbjimmofdaaDoorW.PrintMore
set_option linter.unusedVariables false
set_option linter.unusedSimpArgs false

theorem drawn_below {w w' : World} (h : Drawn0 w w') : Below w.heap.size w w' := by
  obtain ⟨n, rfl⟩ := h
  exact pw_below_drewN (Below.refl _ _) n
theorem code_zero (w : World) : Calls Tryd.prog 13 #[.nilIface] w fun e w' => e = .returned (.int .i64 0) ∧ Below w.heap.size w w' := by
  refine (code_nil w).mono ?_
  rintro e w' ⟨rfl, rfl⟩
  exact ⟨rfl, Below.refl _ _⟩
theorem text_zero (w : World) : Calls Tryd.prog 17 #[.nilIface] w fun e w' => e = .returned (.string ⟨#[111, 107]⟩) ∧ Below w.heap.size w w' := by
  refine (text_nil w).mono ?_
  rintro e w' ⟨rfl, rfl⟩
  exact ⟨rfl, Below.refl _ _⟩
theorem casked_calls {b : Bool} {q : Int} {A : Option Addr} {n cap : Nat} {l : List Int} {r : Int} {w : World} (h1 : Kd.C (Kd.int .i64) w A n l) (hc1 : n ≤ cap) (h : placketref04_Chain_Asked.f b q l = some r) :
    Calls Tryd.prog 14 #[.agg #[.bool b, .int .i64 q, .slice A n cap]] w fun e w' => e = .returned (.int .i64 r) ∧ Below w.heap.size w w' := by
  obtain rfl := Kd.C_len h1
  exact placketref04_Chain_Asked.calls b q A cap l r w h1 hc1 h
theorem want_n {k : Nat} {code at_ : Int} {A : Option Addr} {cap : Nat} {l : List Int} {r1 : Bool} {r2 : Int} {r3 : List Int} {n : Nat} (hn : r3.length = n) {w : World} (hc : Kd.C (Kd.int .i64) w A l.length l) (hcap : l.length ≤ cap) (h : placketlaw04_want.f k code at_ l = some (r1, r2, r3)) :
    Calls Tryd.prog 11 #[.int .i64 code, .int .i64 at_, .slice A l.length cap] w fun e w' => ∃ B cb, e = .returned (.agg #[.bool r1, .int .i64 r2, .slice B n cb]) ∧ n ≤ cb ∧ Kd.C (Kd.int .i64) w' B n r3 ∧ Below w.heap.size w w' := by
  subst hn
  exact want_calls hc hcap h

set_option maxHeartbeats 4000000 in
set_option maxRecDepth 100000 in
theorem asks_zero (at_ : Int) (A : Option Addr) (cap : Nat) (l : List Int) (w : World) (hg : Laid w) (hc : Kd.C (Kd.int .i64) w A l.length l) (hcap : l.length ≤ cap) (hlen : l.length ≤ 100) :
    Calls Tryd.prog 3 #[.int .i64 0, .int .i64 at_, .slice A l.length cap] w fun e w' => e = .returned (.bool true) ∧ Below w.heap.size w w' := by
  have HG := Lib.hid hg
  have HC := Lib.hid hc
  clear hg hc
  have hbig : ¬ (l.length : Int) > 100 := by omega
  obtain ⟨kw, hw⟩ := Pure.want_ev 0 at_ l (by omega)
  have hw' := hw kw (Nat.le_refl _)
  rw [if_pos rfl] at hw'
  have HW := Lib.hid hw'
  obtain ⟨ks, hs⟩ := Pure.same_ev [] [] (by decide)
  have HS := Lib.hid (hs ks (Nat.le_refl _))
  have HASK := Lib.hid (show placketref04_Chain_Asked.f false 0 [] = some 0 from rfl)
  have HTXT := Lib.hid (show placketref04_Chain_Text.f 5 false 0 [] = some (⟨#[111, 107]⟩ : ByteArray) by kernel_rfl)
  have HLN := Lib.hid (show ([] : List Int).length = 0 from rfl)
  clear hw hw' hs
  go_enter Tryd.func3, Tryd.ntmps3
  go_wp2_with fail
  refine (live_calls w HG.out).mono ?_
  rintro e w1 ⟨rfl, hb1⟩
  have HB1 := Lib.hid hb1
  have HC1 := Lib.hid (Kd.C_below HC.out hb1)
  clear hb1
  go_wp2_with fail
  refine (made_nil at_ A cap l w1 HC1.out hcap (by omega)).mono ?_
  rintro e w2 ⟨rfl, rfl⟩
  go_wp2_with fail
  refine (want_n (n := 0) rfl HC1.out hcap HW.out).mono ?_
  rintro e w3 ⟨B, cb, rfl, hcb, hCB, hb3⟩
  have HB3 := Lib.hid (below_alloc (below_then HB1.out HB1.out.size hb3) (.cells #[.bool false, .int .i64 0, .slice B 0 cb] 29))
  have HK := Lib.hid (blk_new w3 (.cells #[.bool false, .int .i64 0, .slice B 0 cb] 29))
  have HCB3 := Lib.hid (Kd.C_alloc hCB (.cells #[.bool false, .int .i64 0, .slice B 0 cb] 29))
  clear hCB hb3
  go_wp2_with fail
  generalize hn : w3.heap.size = n at *
  clear hn
  refine (last_nil _ (HG.out.below HB3.out (Nat.le_refl _))).mono ?_
  rintro e w4 ⟨rfl, hb4⟩
  have HB4 := Lib.hid (below_then HB3.out HB3.out.size hb4)
  have hk4 := blk_below HK.out hb4
  have c0 := blk_cell hk4 0
  have c1 := blk_cell hk4 1
  have c2 := blk_cell hk4 2
  simp at c0 c1 c2
  have C0 := Lib.hid c0
  have C1 := Lib.hid c1
  have C2 := Lib.hid c2
  have HN4 := Lib.hid (blk_lt hk4)
  have HCB4 := Lib.hid (Kd.C_below HCB3.out hb4)
  have HE4 := Lib.hid (show Err w4 .nilIface [] none from rfl)
  clear hb4 hk4
  go_wp2_with fail
  go_quiet (fail)
  go_wp2_with fail
  refine start_ (n := 20) (S := fun w' => w'.cell? ⟨n, 0, none⟩ = some (.bool false) ∧ w'.cell? ⟨n, 1, none⟩ = some (.int .i64 0) ∧ w'.cell? ⟨n, 2, none⟩ = some (.slice B 0 cb) ∧ Below w.heap.size w w' ∧ Err w' (.nilIface) ([]) (none) ∧ Kd.C (Kd.int .i64) w' B 0 ([]) ∧ n < w'.heap.size) (ds := []) #[false, false, false, false, false, false, false, false, false, false, false, false, false, false, false, false, false, false, false, false] (by kernel_rfl) rfl rfl ⟨C0.out, C1.out, C2.out, below_drew (pw_below_drewN HB4.out _), Err.below (below_drew (pw_below_drewN (Below.refl _ w4) _)) (Nat.le_refl _) HE4.out, HCB4.out, HN4.out⟩ (fun hHeld => ?_)
  refine pure_ (i := 0) (N := some 59) (v := ?_) (a' := ?_) #[true, false, false, false, false, false, false, false, false, false, false, false, false, false, false, false, false, false, false, false] rfl rfl (by kernel_rfl) (fun _ _ _ h => h) (Or.inl ⟨by rfl, ?_⟩) ?_ ?_
  rotate_left
  · intro w'
    go_simp
    with_reducible rfl
  rotate_left
  · simp only [Act.put, List.setIfInBounds_toArray, List.set_cons_zero, List.set_cons_succ, i64_w, i32_w]
    rfl
  refine take_ (i := 2) (N := some 61) (v := ?_) (a' := ?_) #[true, false, true, false, false, false, false, false, false, false, false, false, false, false, false, false, false, false, false, false] rfl rfl (by kernel_rfl) (fun _ _ _ h => h) (Or.inl ⟨by rfl, ?_⟩) hHeld ?_ ?_
  rotate_left
  · rintro w' ⟨s0, s1, s2, s3, s4, s5, s6⟩
    go_simp
    with_reducible rfl
  rotate_left
  · simp only [Act.put, List.setIfInBounds_toArray, List.set_cons_zero, List.set_cons_succ, i64_w, i32_w]
    rfl
  refine one_ (i := 1) (N := some 60) #[true, true, true, false, false, false, false, false, false, false, false, false, false, false, false, false, false, false, false, false] rfl rfl (by kernel_rfl) (by decide) (fun K hK => ?_)
  refine goes_ Tryd.func13 (by kernel_rfl) rfl #[.nilIface] (by rfl) rfl rfl (by simp only [List.map_toArray, List.map_cons, List.map_nil]; rfl) ?_
  with_reducible refine (code_zero _).mono ?_
  rintro e w5 ⟨rfl, hb5⟩
  refine ⟨_, rfl, ?_⟩
  refine hK.out _ _ ⟨pw_cell_below hb5 hHeld.1, pw_cell_below hb5 hHeld.2.1, pw_cell_below hb5 hHeld.2.2.1, below_then hHeld.2.2.2.1 hHeld.2.2.2.1.size hb5, Err.below hb5 (Nat.le_refl _) hHeld.2.2.2.2.1, Kd.C_below hHeld.2.2.2.2.2.1 hb5, Nat.lt_of_lt_of_le hHeld.2.2.2.2.2.2 hb5.size⟩ (fun hHeld => ?_)
  clear hK K
  refine norm_ (a' := ?_) ?_ ?_
  rotate_left
  · show Act.put _ (some 60) _ = _
    simp only [Act.put, List.setIfInBounds_toArray, List.set_cons_zero, List.set_cons_succ, i64_w, i32_w]
    rfl
  refine one_ (i := 3) (N := some 62) #[true, true, true, true, false, false, false, false, false, false, false, false, false, false, false, false, false, false, false, false] rfl rfl (by kernel_rfl) (by decide) (fun K hK => ?_)
  refine goes_ Tryd.func14 (by kernel_rfl) rfl #[.agg #[.bool false, .int .i64 0, .slice B 0 cb]] (by rfl) rfl rfl (by simp only [List.map_toArray, List.map_cons, List.map_nil]; rfl) ?_
  with_reducible refine (casked_calls hHeld.2.2.2.2.2.1 hcb HASK.out).mono ?_
  rintro e w6 ⟨rfl, hb6⟩
  refine ⟨_, rfl, ?_⟩
  refine hK.out _ _ ⟨pw_cell_below hb6 hHeld.1, pw_cell_below hb6 hHeld.2.1, pw_cell_below hb6 hHeld.2.2.1, below_then hHeld.2.2.2.1 hHeld.2.2.2.1.size hb6, Err.below hb6 (Nat.le_refl _) hHeld.2.2.2.2.1, Kd.C_below hHeld.2.2.2.2.2.1 hb6, Nat.lt_of_lt_of_le hHeld.2.2.2.2.2.2 hb6.size⟩ (fun hHeld => ?_)
  clear hK K
  refine norm_ (a' := ?_) ?_ ?_
  rotate_left
  · show Act.put _ (some 62) _ = _
    simp only [Act.put, List.setIfInBounds_toArray, List.set_cons_zero, List.set_cons_succ, i64_w, i32_w]
    rfl
  refine pure_ (i := 4) (N := some 63) (v := ?_) (a' := ?_) #[true, true, true, true, true, false, false, false, false, false, false, false, false, false, false, false, false, false, false, false] rfl rfl (by kernel_rfl) (fun _ _ _ h => h) (Or.inl ⟨by rfl, ?_⟩) ?_ ?_
  rotate_left
  · intro w'
    go_simp
    with_reducible rfl
  rotate_left
  · simp only [Act.put, List.setIfInBounds_toArray, List.set_cons_zero, List.set_cons_succ, i64_w, i32_w]
    rfl
  refine pure_ (i := 5) (N := some 64) (v := ?_) (a' := ?_) #[true, true, true, true, true, true, false, false, false, false, false, false, false, false, false, false, false, false, false, false] rfl rfl (by kernel_rfl) (fun _ _ _ h => h) (Or.inl ⟨by rfl, ?_⟩) ?_ ?_
  rotate_left
  · intro w'
    go_simp
    with_reducible rfl
  rotate_left
  · simp only [Act.put, List.setIfInBounds_toArray, List.set_cons_zero, List.set_cons_succ, i64_w, i32_w]
    rfl
  refine pure_ (i := 6) (N := some 65) (v := ?_) (a' := ?_) #[true, true, true, true, true, true, true, false, false, false, false, false, false, false, false, false, false, false, false, false] rfl rfl (by kernel_rfl) (fun _ _ _ h => h) (Or.inl ⟨by rfl, ?_⟩) ?_ ?_
  rotate_left
  · intro w'
    go_simp
    with_reducible rfl
  rotate_left
  · simp only [Act.put, List.setIfInBounds_toArray, List.set_cons_zero, List.set_cons_succ, i64_w, i32_w]
    rfl
  refine pure_ (i := 8) (N := some 67) (v := ?_) (a' := ?_) #[true, true, true, true, true, true, true, false, true, false, false, false, false, false, false, false, false, false, false, false] rfl rfl (by kernel_rfl) (fun _ _ _ h => h) (Or.inl ⟨by rfl, ?_⟩) ?_ ?_
  rotate_left
  · intro w'
    go_simp
    with_reducible rfl
  rotate_left
  · simp only [Act.put, List.setIfInBounds_toArray, List.set_cons_zero, List.set_cons_succ, i64_w, i32_w]
    rfl
  refine take_ (i := 9) (N := some 68) (v := ?_) (a' := ?_) #[true, true, true, true, true, true, true, false, true, true, false, false, false, false, false, false, false, false, false, false] rfl rfl (by kernel_rfl) (fun _ _ _ h => h) (Or.inl ⟨by rfl, ?_⟩) hHeld ?_ ?_
  rotate_left
  · rintro w' ⟨s0, s1, s2, s3, s4, s5, s6⟩
    go_simp
    with_reducible rfl
  rotate_left
  · simp only [Act.put, List.setIfInBounds_toArray, List.set_cons_zero, List.set_cons_succ, i64_w, i32_w]
    rfl
  refine one_ (i := 7) (N := some 66) #[true, true, true, true, true, true, true, true, true, true, false, false, false, false, false, false, false, false, false, false] rfl rfl (by kernel_rfl) (by decide) (fun K hK => ?_)
  refine goes_ Tryd.func16 (by kernel_rfl) rfl #[.nilIface] (by rfl) rfl rfl (by simp only [List.map_toArray, List.map_cons, List.map_nil]; rfl) ?_
  with_reducible refine (where_n HLN.out _ _ _ (HG.out.below hHeld.2.2.2.1 (Nat.le_refl _)) hHeld.2.2.2.2.1 (by omega)).mono ?_
  rintro e w7 ⟨B7, c7, rfl, hc7, hC7, hb7⟩
  refine ⟨_, rfl, ?_⟩
  have HC7 := Lib.hid hC7
  clear hC7
  refine hK.out _ _ ⟨pw_cell_below hb7 hHeld.1, pw_cell_below hb7 hHeld.2.1, pw_cell_below hb7 hHeld.2.2.1, below_then hHeld.2.2.2.1 hHeld.2.2.2.1.size hb7, Err.below hb7 (Nat.le_refl _) hHeld.2.2.2.2.1, Kd.C_below hHeld.2.2.2.2.2.1 hb7, Nat.lt_of_lt_of_le hHeld.2.2.2.2.2.2 hb7.size⟩ (fun hHeld => ?_)
  clear hK K
  refine norm_ (a' := ?_) ?_ ?_
  rotate_left
  · show Act.put _ (some 66) _ = _
    simp only [Act.put, List.setIfInBounds_toArray, List.set_cons_zero, List.set_cons_succ, i64_w, i32_w]
    rfl
  refine one_ (i := 10) (N := some 69) #[true, true, true, true, true, true, true, true, true, true, true, false, false, false, false, false, false, false, false, false] rfl rfl (by kernel_rfl) (by decide) (fun K hK => ?_)
  refine goes_ Tryd.func15 (by kernel_rfl) rfl #[.slice B7 0 c7, .slice B 0 cb] (by rfl) rfl rfl (by simp only [List.map_toArray, List.map_cons, List.map_nil]; rfl) ?_
  with_reducible refine (same_calls HC7.out hHeld.2.2.2.2.2.1 hc7 hcb HS.out).mono ?_
  rintro e w8 ⟨rfl, hd8⟩
  refine ⟨_, rfl, ?_⟩
  have hb8 := drawn_below hd8
  refine hK.out _ _ ⟨pw_cell_below hb8 hHeld.1, pw_cell_below hb8 hHeld.2.1, pw_cell_below hb8 hHeld.2.2.1, below_then hHeld.2.2.2.1 hHeld.2.2.2.1.size hb8, Err.below hb8 (Nat.le_refl _) hHeld.2.2.2.2.1, Kd.C_below hHeld.2.2.2.2.2.1 hb8, Nat.lt_of_lt_of_le hHeld.2.2.2.2.2.2 hb8.size⟩ (fun hHeld => ?_)
  clear hK K
  refine norm_ (a' := ?_) ?_ ?_
  rotate_left
  · show Act.put _ (some 69) _ = _
    simp only [Act.put, List.setIfInBounds_toArray, List.set_cons_zero, List.set_cons_succ, i64_w, i32_w]
    rfl
  refine pure_ (i := 11) (N := some 70) (v := ?_) (a' := ?_) #[true, true, true, true, true, true, true, true, true, true, true, true, false, false, false, false, false, false, false, false] rfl rfl (by kernel_rfl) (fun _ _ _ h => h) (Or.inl ⟨by rfl, ?_⟩) ?_ ?_
  rotate_left
  · intro w'
    go_simp
    with_reducible rfl
  rotate_left
  · simp only [Act.put, List.setIfInBounds_toArray, List.set_cons_zero, List.set_cons_succ, i64_w, i32_w]
    rfl
  refine pure_ (i := 12) (N := some 71) (v := ?_) (a' := ?_) #[true, true, true, true, true, true, true, true, true, true, true, true, true, false, false, false, false, false, false, false] rfl rfl (by kernel_rfl) (fun _ _ _ h => h) (Or.inl ⟨by rfl, ?_⟩) ?_ ?_
  rotate_left
  · intro w'
    go_simp
    with_reducible rfl
  rotate_left
  · simp only [Act.put, List.setIfInBounds_toArray, List.set_cons_zero, List.set_cons_succ, i64_w, i32_w]
    rfl
  refine pure_ (i := 13) (N := some 72) (v := ?_) (a' := ?_) #[true, true, true, true, true, true, true, true, true, true, true, true, true, true, false, false, false, false, false, false] rfl rfl (by kernel_rfl) (fun _ _ _ h => h) (Or.inl ⟨by rfl, ?_⟩) ?_ ?_
  rotate_left
  · intro w'
    go_simp
    with_reducible rfl
  rotate_left
  · simp only [Act.put, List.setIfInBounds_toArray, List.set_cons_zero, List.set_cons_succ, i64_w, i32_w]
    rfl
  refine take_ (i := 15) (N := some 74) (v := ?_) (a' := ?_) #[true, true, true, true, true, true, true, true, true, true, true, true, true, true, false, true, false, false, false, false] rfl rfl (by kernel_rfl) (fun _ _ _ h => h) (Or.inl ⟨by rfl, ?_⟩) hHeld ?_ ?_
  rotate_left
  · rintro w' ⟨s0, s1, s2, s3, s4, s5, s6⟩
    go_simp
    with_reducible rfl
  rotate_left
  · simp only [Act.put, List.setIfInBounds_toArray, List.set_cons_zero, List.set_cons_succ, i64_w, i32_w]
    rfl
  refine one_ (i := 14) (N := some 73) #[true, true, true, true, true, true, true, true, true, true, true, true, true, true, true, true, false, false, false, false] rfl rfl (by kernel_rfl) (by decide) (fun K hK => ?_)
  refine goes_ Tryd.func17 (by kernel_rfl) rfl #[.nilIface] (by rfl) rfl rfl (by simp only [List.map_toArray, List.map_cons, List.map_nil]; rfl) ?_
  with_reducible refine (text_zero _).mono ?_
  rintro e w9 ⟨rfl, hb9⟩
  refine ⟨_, rfl, ?_⟩
  refine hK.out _ _ ⟨pw_cell_below hb9 hHeld.1, pw_cell_below hb9 hHeld.2.1, pw_cell_below hb9 hHeld.2.2.1, below_then hHeld.2.2.2.1 hHeld.2.2.2.1.size hb9, Err.below hb9 (Nat.le_refl _) hHeld.2.2.2.2.1, Kd.C_below hHeld.2.2.2.2.2.1 hb9, Nat.lt_of_lt_of_le hHeld.2.2.2.2.2.2 hb9.size⟩ (fun hHeld => ?_)
  clear hK K
  refine norm_ (a' := ?_) ?_ ?_
  rotate_left
  · show Act.put _ (some 73) _ = _
    simp only [Act.put, List.setIfInBounds_toArray, List.set_cons_zero, List.set_cons_succ, i64_w, i32_w]
    rfl
  refine one_ (i := 16) (N := some 75) #[true, true, true, true, true, true, true, true, true, true, true, true, true, true, true, true, true, false, false, false] rfl rfl (by kernel_rfl) (by decide) (fun K hK => ?_)
  refine goes_ Tryd.func18 (by kernel_rfl) rfl #[.agg #[.bool false, .int .i64 0, .slice B 0 cb]] (by rfl) rfl rfl (by simp only [List.map_toArray, List.map_cons, List.map_nil]; rfl) ?_
  with_reducible refine (ctext_calls hHeld.2.2.2.2.2.1 hcb HTXT.out).mono ?_
  rintro e w10 ⟨rfl, hb10⟩
  refine ⟨_, rfl, ?_⟩
  have HBF := Lib.hid (below_then hHeld.2.2.2.1 hHeld.2.2.2.1.size hb10)
  refine hK.out _ _ ⟨pw_cell_below hb10 hHeld.1, pw_cell_below hb10 hHeld.2.1, pw_cell_below hb10 hHeld.2.2.1, below_then hHeld.2.2.2.1 hHeld.2.2.2.1.size hb10, Err.below hb10 (Nat.le_refl _) hHeld.2.2.2.2.1, Kd.C_below hHeld.2.2.2.2.2.1 hb10, Nat.lt_of_lt_of_le hHeld.2.2.2.2.2.2 hb10.size⟩ (fun hHeld => ?_)
  clear hK K
  refine norm_ (a' := ?_) ?_ ?_
  rotate_left
  · show Act.put _ (some 75) _ = _
    simp only [Act.put, List.setIfInBounds_toArray, List.set_cons_zero, List.set_cons_succ, i64_w, i32_w]
    rfl
  refine pure_ (i := 17) (N := some 76) (v := ?_) (a' := ?_) #[true, true, true, true, true, true, true, true, true, true, true, true, true, true, true, true, true, true, false, false] rfl rfl (by kernel_rfl) (fun _ _ _ h => h) (Or.inl ⟨by rfl, ?_⟩) ?_ ?_
  rotate_left
  · intro w'
    go_simp
    with_reducible rfl
  rotate_left
  · simp only [Act.put, List.setIfInBounds_toArray, List.set_cons_zero, List.set_cons_succ, i64_w, i32_w]
    rfl
  refine pure_ (i := 18) (N := some 77) (v := ?_) (a' := ?_) #[true, true, true, true, true, true, true, true, true, true, true, true, true, true, true, true, true, true, true, false] rfl rfl (by kernel_rfl) (fun _ _ _ h => h) (Or.inl ⟨by rfl, ?_⟩) ?_ ?_
  rotate_left
  · intro w'
    go_simp
    with_reducible rfl
  rotate_left
  · simp only [Act.put, List.setIfInBounds_toArray, List.set_cons_zero, List.set_cons_succ, i64_w, i32_w]
    rfl
  refine pure_ (i := 19) (N := some 6) (v := ?_) (a' := ?_) #[true, true, true, true, true, true, true, true, true, true, true, true, true, true, true, true, true, true, true, true] rfl rfl (by kernel_rfl) (fun _ _ _ h => h) (Or.inl ⟨by rfl, ?_⟩) ?_ ?_
  rotate_left
  · intro w'
    go_simp
    with_reducible rfl
  rotate_left
  · simp only [Act.put, List.setIfInBounds_toArray, List.set_cons_zero, List.set_cons_succ, i64_w, i32_w]
    rfl
  refine done_ (by kernel_rfl) ?_

  go_wp2
  go_ret
  exact ⟨by simp, HBF.out⟩

set_option maxHeartbeats 4000000 in
set_option maxRecDepth 100000 in
theorem asks_code (code at_ : Int) (A : Option Addr) (cap : Nat) (l : List Int) (w : World) (h0 : code ≠ 0) (hg : Laid w) (hc : Kd.C (Kd.int .i64) w A l.length l) (hcap : l.length ≤ cap) (hlen : l.length ≤ 100) (hcode : Pure.InI code) (hin : ∀ n ∈ l.reverse ++ [at_], Pure.InI n) :
    Calls Tryd.prog 3 #[.int .i64 code, .int .i64 at_, .slice A l.length cap] w fun e w' => e = .returned (.bool true) ∧ Below w.heap.size w w' := by
  have HG := Lib.hid hg
  have HC := Lib.hid hc
  clear hg hc
  have hbig : ¬ (l.length : Int) > 100 := by omega
  obtain ⟨kw, hw⟩ := Pure.want_ev code at_ l (by omega)
  have hw' := hw kw (Nat.le_refl _)
  rw [if_neg h0] at hw'
  have hln : (l.reverse ++ [at_]).length = l.length + 1 := by simp
  have HW := Lib.hid hw'
  obtain ⟨ks, hs⟩ := Pure.same_ev (l.reverse ++ [at_]) (l.reverse ++ [at_]) (by rw [hln]; omega)
  have HS := Lib.hid (hs ks (Nat.le_refl _))
  have HASK := Lib.hid (show placketref04_Chain_Asked.f true code (l.reverse ++ [at_]) = some code from rfl)
  obtain ⟨kx, hx⟩ := Pure.text_ev true code (l.reverse ++ [at_]) hcode hin (by rw [hln]; omega) (.inl rfl)
  have HTXT := Lib.hid (hx kx (Nat.le_refl _))
  have HIN := Lib.hid hin
  have HLN := Lib.hid hln
  clear hw hw' hs hx hin hln
  go_enter Tryd.func3, Tryd.ntmps3
  go_wp2_with fail
  refine (live_calls w HG.out).mono ?_
  rintro e w1 ⟨rfl, hb1⟩
  have HB1 := Lib.hid hb1
  have HC1 := Lib.hid (Kd.C_below HC.out hb1)
  clear hb1
  go_wp2_with fail
  refine (made_calls code at_ A cap l w1 h0 HC1.out hcap (by omega)).mono ?_
  rintro e w2 ⟨v, rfl, he2, hb2⟩
  have HB2 := Lib.hid (below_then HB1.out HB1.out.size hb2)
  have HC2 := Lib.hid (Kd.C_below HC1.out hb2)
  obtain ⟨T, x, rfl⟩ := he2.iface (.inr (by simp))
  have HE2 := Lib.hid he2
  clear he2 hb2
  go_wp2_with fail
  refine (want_n HLN.out HC2.out hcap HW.out).mono ?_
  rintro e w3 ⟨B, cb, rfl, hcb, hCB, hb3⟩
  have HB3 := Lib.hid (below_alloc (below_then HB2.out HB2.out.size hb3) (.cells #[.bool true, .int .i64 code, .slice B (l.length + 1) cb] 29))
  have HK := Lib.hid (blk_new w3 (.cells #[.bool true, .int .i64 code, .slice B (l.length + 1) cb] 29))
  have HCB3 := Lib.hid (Kd.C_alloc hCB (.cells #[.bool true, .int .i64 code, .slice B (l.length + 1) cb] 29))
  have HE3 := Lib.hid ((HE2.out.below hb3 (Nat.le_refl _)).below (below_alloc (Below.refl w3.heap.size w3) (.cells #[.bool true, .int .i64 code, .slice B (l.length + 1) cb] 29)) (Nat.le_refl _))
  clear hCB hb3
  go_wp2_with fail
  generalize hn : w3.heap.size = n at *
  clear hn
  refine (last_calls at_ l.reverse (some code) _ _ (HG.out.below HB3.out (Nat.le_refl _)) HE3.out (by simp; omega)).mono ?_
  rintro e w4 ⟨rfl, hb4⟩
  have HB4 := Lib.hid (below_then HB3.out HB3.out.size hb4)
  have hk4 := blk_below HK.out hb4
  have c0 := blk_cell hk4 0
  have c1 := blk_cell hk4 1
  have c2 := blk_cell hk4 2
  simp at c0 c1 c2
  have C0 := Lib.hid c0
  have C1 := Lib.hid c1
  have C2 := Lib.hid c2
  have HN4 := Lib.hid (blk_lt hk4)
  have HCB4 := Lib.hid (Kd.C_below HCB3.out hb4)
  have HE4 := Lib.hid (HE3.out.below hb4 (Nat.le_refl _))
  clear hb4 hk4
  go_wp2_with fail
  go_quiet (fail)
  go_wp2_with fail
  refine start_ (n := 20) (S := fun w' => w'.cell? ⟨n, 0, none⟩ = some (.bool true) ∧ w'.cell? ⟨n, 1, none⟩ = some (.int .i64 code) ∧ w'.cell? ⟨n, 2, none⟩ = some (.slice B (l.length + 1) cb) ∧ Below w.heap.size w w' ∧ Err w' (.iface T x) (l.reverse ++ [at_]) (some code) ∧ Kd.C (Kd.int .i64) w' B (l.length + 1) (l.reverse ++ [at_]) ∧ n < w'.heap.size) (ds := []) #[false, false, false, false, false, false, false, false, false, false, false, false, false, false, false, false, false, false, false, false] (by kernel_rfl) rfl rfl ⟨C0.out, C1.out, C2.out, below_drew (pw_below_drewN HB4.out _), Err.below (below_drew (pw_below_drewN (Below.refl _ w4) _)) (Nat.le_refl _) HE4.out, HCB4.out, HN4.out⟩ (fun hHeld => ?_)
  refine pure_ (i := 0) (N := some 59) (v := ?_) (a' := ?_) #[true, false, false, false, false, false, false, false, false, false, false, false, false, false, false, false, false, false, false, false] rfl rfl (by kernel_rfl) (fun _ _ _ h => h) (Or.inl ⟨by rfl, ?_⟩) ?_ ?_
  rotate_left
  · intro w'
    go_simp
    with_reducible rfl
  rotate_left
  · simp only [Act.put, List.setIfInBounds_toArray, List.set_cons_zero, List.set_cons_succ, i64_w, i32_w]
    rfl
  refine take_ (i := 2) (N := some 61) (v := ?_) (a' := ?_) #[true, false, true, false, false, false, false, false, false, false, false, false, false, false, false, false, false, false, false, false] rfl rfl (by kernel_rfl) (fun _ _ _ h => h) (Or.inl ⟨by rfl, ?_⟩) hHeld ?_ ?_
  rotate_left
  · rintro w' ⟨s0, s1, s2, s3, s4, s5, s6⟩
    go_simp
    with_reducible rfl
  rotate_left
  · simp only [Act.put, List.setIfInBounds_toArray, List.set_cons_zero, List.set_cons_succ, i64_w, i32_w]
    rfl
  refine one_ (i := 1) (N := some 60) #[true, true, true, false, false, false, false, false, false, false, false, false, false, false, false, false, false, false, false, false] rfl rfl (by kernel_rfl) (by decide) (fun K hK => ?_)
  refine goes_ Tryd.func13 (by kernel_rfl) rfl #[.iface T x] (by rfl) rfl rfl (by simp only [List.map_toArray, List.map_cons, List.map_nil]; rfl) ?_
  with_reducible refine (code_some code _ _ _ (HG.out.below hHeld.2.2.2.1 (Nat.le_refl _)) hHeld.2.2.2.2.1).mono ?_
  rintro e w5 ⟨rfl, hb5⟩
  refine ⟨_, rfl, ?_⟩
  refine hK.out _ _ ⟨pw_cell_below hb5 hHeld.1, pw_cell_below hb5 hHeld.2.1, pw_cell_below hb5 hHeld.2.2.1, below_then hHeld.2.2.2.1 hHeld.2.2.2.1.size hb5, Err.below hb5 (Nat.le_refl _) hHeld.2.2.2.2.1, Kd.C_below hHeld.2.2.2.2.2.1 hb5, Nat.lt_of_lt_of_le hHeld.2.2.2.2.2.2 hb5.size⟩ (fun hHeld => ?_)
  clear hK K
  refine norm_ (a' := ?_) ?_ ?_
  rotate_left
  · show Act.put _ (some 60) _ = _
    simp only [Act.put, List.setIfInBounds_toArray, List.set_cons_zero, List.set_cons_succ, i64_w, i32_w]
    rfl
  refine one_ (i := 3) (N := some 62) #[true, true, true, true, false, false, false, false, false, false, false, false, false, false, false, false, false, false, false, false] rfl rfl (by kernel_rfl) (by decide) (fun K hK => ?_)
  refine goes_ Tryd.func14 (by kernel_rfl) rfl #[.agg #[.bool true, .int .i64 code, .slice B (l.length + 1) cb]] (by rfl) rfl rfl (by simp only [List.map_toArray, List.map_cons, List.map_nil]; rfl) ?_
  with_reducible refine (casked_calls hHeld.2.2.2.2.2.1 hcb HASK.out).mono ?_
  rintro e w6 ⟨rfl, hb6⟩
  refine ⟨_, rfl, ?_⟩
  refine hK.out _ _ ⟨pw_cell_below hb6 hHeld.1, pw_cell_below hb6 hHeld.2.1, pw_cell_below hb6 hHeld.2.2.1, below_then hHeld.2.2.2.1 hHeld.2.2.2.1.size hb6, Err.below hb6 (Nat.le_refl _) hHeld.2.2.2.2.1, Kd.C_below hHeld.2.2.2.2.2.1 hb6, Nat.lt_of_lt_of_le hHeld.2.2.2.2.2.2 hb6.size⟩ (fun hHeld => ?_)
  clear hK K
  refine norm_ (a' := ?_) ?_ ?_
  rotate_left
  · show Act.put _ (some 62) _ = _
    simp only [Act.put, List.setIfInBounds_toArray, List.set_cons_zero, List.set_cons_succ, i64_w, i32_w]
    rfl
  refine pure_ (i := 4) (N := some 63) (v := ?_) (a' := ?_) #[true, true, true, true, true, false, false, false, false, false, false, false, false, false, false, false, false, false, false, false] rfl rfl (by kernel_rfl) (fun _ _ _ h => h) (Or.inl ⟨by rfl, ?_⟩) ?_ ?_
  rotate_left
  · intro w'
    go_simp
    with_reducible rfl
  rotate_left
  · simp only [Act.put, List.setIfInBounds_toArray, List.set_cons_zero, List.set_cons_succ, i64_w, i32_w]
    rfl
  refine pure_ (i := 5) (N := some 64) (v := ?_) (a' := ?_) #[true, true, true, true, true, true, false, false, false, false, false, false, false, false, false, false, false, false, false, false] rfl rfl (by kernel_rfl) (fun _ _ _ h => h) (Or.inl ⟨by rfl, ?_⟩) ?_ ?_
  rotate_left
  · intro w'
    go_simp
    with_reducible rfl
  rotate_left
  · simp only [Act.put, List.setIfInBounds_toArray, List.set_cons_zero, List.set_cons_succ, i64_w, i32_w]
    rfl
  refine pure_ (i := 6) (N := some 65) (v := ?_) (a' := ?_) #[true, true, true, true, true, true, true, false, false, false, false, false, false, false, false, false, false, false, false, false] rfl rfl (by kernel_rfl) (fun _ _ _ h => h) (Or.inl ⟨by rfl, ?_⟩) ?_ ?_
  rotate_left
  · intro w'
    go_simp
    with_reducible rfl
  rotate_left
  · simp only [Act.put, List.setIfInBounds_toArray, List.set_cons_zero, List.set_cons_succ, i64_w, i32_w]
    rfl
  refine pure_ (i := 8) (N := some 67) (v := ?_) (a' := ?_) #[true, true, true, true, true, true, true, false, true, false, false, false, false, false, false, false, false, false, false, false] rfl rfl (by kernel_rfl) (fun _ _ _ h => h) (Or.inl ⟨by rfl, ?_⟩) ?_ ?_
  rotate_left
  · intro w'
    go_simp
    with_reducible rfl
  rotate_left
  · simp only [Act.put, List.setIfInBounds_toArray, List.set_cons_zero, List.set_cons_succ, i64_w, i32_w]
    rfl
  refine take_ (i := 9) (N := some 68) (v := ?_) (a' := ?_) #[true, true, true, true, true, true, true, false, true, true, false, false, false, false, false, false, false, false, false, false] rfl rfl (by kernel_rfl) (fun _ _ _ h => h) (Or.inl ⟨by rfl, ?_⟩) hHeld ?_ ?_
  rotate_left
  · rintro w' ⟨s0, s1, s2, s3, s4, s5, s6⟩
    go_simp
    with_reducible rfl
  rotate_left
  · simp only [Act.put, List.setIfInBounds_toArray, List.set_cons_zero, List.set_cons_succ, i64_w, i32_w]
    rfl
  refine one_ (i := 7) (N := some 66) #[true, true, true, true, true, true, true, true, true, true, false, false, false, false, false, false, false, false, false, false] rfl rfl (by kernel_rfl) (by decide) (fun K hK => ?_)
  refine goes_ Tryd.func16 (by kernel_rfl) rfl #[.iface T x] (by rfl) rfl rfl (by simp only [List.map_toArray, List.map_cons, List.map_nil]; rfl) ?_
  with_reducible refine (where_n HLN.out _ _ _ (HG.out.below hHeld.2.2.2.1 (Nat.le_refl _)) hHeld.2.2.2.2.1 (by omega)).mono ?_
  rintro e w7 ⟨B7, c7, rfl, hc7, hC7, hb7⟩
  refine ⟨_, rfl, ?_⟩
  have HC7 := Lib.hid hC7
  clear hC7
  refine hK.out _ _ ⟨pw_cell_below hb7 hHeld.1, pw_cell_below hb7 hHeld.2.1, pw_cell_below hb7 hHeld.2.2.1, below_then hHeld.2.2.2.1 hHeld.2.2.2.1.size hb7, Err.below hb7 (Nat.le_refl _) hHeld.2.2.2.2.1, Kd.C_below hHeld.2.2.2.2.2.1 hb7, Nat.lt_of_lt_of_le hHeld.2.2.2.2.2.2 hb7.size⟩ (fun hHeld => ?_)
  clear hK K
  refine norm_ (a' := ?_) ?_ ?_
  rotate_left
  · show Act.put _ (some 66) _ = _
    simp only [Act.put, List.setIfInBounds_toArray, List.set_cons_zero, List.set_cons_succ, i64_w, i32_w]
    rfl
  refine one_ (i := 10) (N := some 69) #[true, true, true, true, true, true, true, true, true, true, true, false, false, false, false, false, false, false, false, false] rfl rfl (by kernel_rfl) (by decide) (fun K hK => ?_)
  refine goes_ Tryd.func15 (by kernel_rfl) rfl #[.slice B7 (l.length + 1) c7, .slice B (l.length + 1) cb] (by rfl) rfl rfl (by simp only [List.map_toArray, List.map_cons, List.map_nil]; rfl) ?_
  with_reducible refine (same_calls HC7.out hHeld.2.2.2.2.2.1 hc7 hcb HS.out).mono ?_
  rintro e w8 ⟨rfl, hd8⟩
  refine ⟨_, rfl, ?_⟩
  have hb8 := drawn_below hd8
  refine hK.out _ _ ⟨pw_cell_below hb8 hHeld.1, pw_cell_below hb8 hHeld.2.1, pw_cell_below hb8 hHeld.2.2.1, below_then hHeld.2.2.2.1 hHeld.2.2.2.1.size hb8, Err.below hb8 (Nat.le_refl _) hHeld.2.2.2.2.1, Kd.C_below hHeld.2.2.2.2.2.1 hb8, Nat.lt_of_lt_of_le hHeld.2.2.2.2.2.2 hb8.size⟩ (fun hHeld => ?_)
  clear hK K
  refine norm_ (a' := ?_) ?_ ?_
  rotate_left
  · show Act.put _ (some 69) _ = _
    simp only [Act.put, List.setIfInBounds_toArray, List.set_cons_zero, List.set_cons_succ, i64_w, i32_w]
    rfl
  refine pure_ (i := 11) (N := some 70) (v := ?_) (a' := ?_) #[true, true, true, true, true, true, true, true, true, true, true, true, false, false, false, false, false, false, false, false] rfl rfl (by kernel_rfl) (fun _ _ _ h => h) (Or.inl ⟨by rfl, ?_⟩) ?_ ?_
  rotate_left
  · intro w'
    go_simp
    with_reducible rfl
  rotate_left
  · simp only [Act.put, List.setIfInBounds_toArray, List.set_cons_zero, List.set_cons_succ, i64_w, i32_w]
    rfl
  refine pure_ (i := 12) (N := some 71) (v := ?_) (a' := ?_) #[true, true, true, true, true, true, true, true, true, true, true, true, true, false, false, false, false, false, false, false] rfl rfl (by kernel_rfl) (fun _ _ _ h => h) (Or.inl ⟨by rfl, ?_⟩) ?_ ?_
  rotate_left
  · intro w'
    go_simp
    with_reducible rfl
  rotate_left
  · simp only [Act.put, List.setIfInBounds_toArray, List.set_cons_zero, List.set_cons_succ, i64_w, i32_w]
    rfl
  refine pure_ (i := 13) (N := some 72) (v := ?_) (a' := ?_) #[true, true, true, true, true, true, true, true, true, true, true, true, true, true, false, false, false, false, false, false] rfl rfl (by kernel_rfl) (fun _ _ _ h => h) (Or.inl ⟨by rfl, ?_⟩) ?_ ?_
  rotate_left
  · intro w'
    go_simp
    with_reducible rfl
  rotate_left
  · simp only [Act.put, List.setIfInBounds_toArray, List.set_cons_zero, List.set_cons_succ, i64_w, i32_w]
    rfl
  refine take_ (i := 15) (N := some 74) (v := ?_) (a' := ?_) #[true, true, true, true, true, true, true, true, true, true, true, true, true, true, false, true, false, false, false, false] rfl rfl (by kernel_rfl) (fun _ _ _ h => h) (Or.inl ⟨by rfl, ?_⟩) hHeld ?_ ?_
  rotate_left
  · rintro w' ⟨s0, s1, s2, s3, s4, s5, s6⟩
    go_simp
    with_reducible rfl
  rotate_left
  · simp only [Act.put, List.setIfInBounds_toArray, List.set_cons_zero, List.set_cons_succ, i64_w, i32_w]
    rfl
  refine one_ (i := 14) (N := some 73) #[true, true, true, true, true, true, true, true, true, true, true, true, true, true, true, true, false, false, false, false] rfl rfl (by kernel_rfl) (by decide) (fun K hK => ?_)
  refine goes_ Tryd.func17 (by kernel_rfl) rfl #[.iface T x] (by rfl) rfl rfl (by simp only [List.map_toArray, List.map_cons, List.map_nil]; rfl) ?_
  with_reducible refine (text_of code _ (some code) _ _ (.inr (by simp)) (fun w1 h1 h2 => code_some code _ _ w1 h1 h2) (HG.out.below hHeld.2.2.2.1 (Nat.le_refl _)) hHeld.2.2.2.2.1 hcode HIN.out (by rw [HLN.out]; omega)).mono ?_
  rintro e w9 ⟨rfl, hb9⟩
  refine ⟨_, rfl, ?_⟩
  refine hK.out _ _ ⟨pw_cell_below hb9 hHeld.1, pw_cell_below hb9 hHeld.2.1, pw_cell_below hb9 hHeld.2.2.1, below_then hHeld.2.2.2.1 hHeld.2.2.2.1.size hb9, Err.below hb9 (Nat.le_refl _) hHeld.2.2.2.2.1, Kd.C_below hHeld.2.2.2.2.2.1 hb9, Nat.lt_of_lt_of_le hHeld.2.2.2.2.2.2 hb9.size⟩ (fun hHeld => ?_)
  clear hK K
  refine norm_ (a' := ?_) ?_ ?_
  rotate_left
  · show Act.put _ (some 73) _ = _
    simp only [Act.put, List.setIfInBounds_toArray, List.set_cons_zero, List.set_cons_succ, i64_w, i32_w]
    rfl
  refine one_ (i := 16) (N := some 75) #[true, true, true, true, true, true, true, true, true, true, true, true, true, true, true, true, true, false, false, false] rfl rfl (by kernel_rfl) (by decide) (fun K hK => ?_)
  refine goes_ Tryd.func18 (by kernel_rfl) rfl #[.agg #[.bool true, .int .i64 code, .slice B (l.length + 1) cb]] (by rfl) rfl rfl (by simp only [List.map_toArray, List.map_cons, List.map_nil]; rfl) ?_
  with_reducible refine (ctext_calls hHeld.2.2.2.2.2.1 hcb HTXT.out).mono ?_
  rintro e w10 ⟨rfl, hb10⟩
  refine ⟨_, rfl, ?_⟩
  have HBF := Lib.hid (below_then hHeld.2.2.2.1 hHeld.2.2.2.1.size hb10)
  refine hK.out _ _ ⟨pw_cell_below hb10 hHeld.1, pw_cell_below hb10 hHeld.2.1, pw_cell_below hb10 hHeld.2.2.1, below_then hHeld.2.2.2.1 hHeld.2.2.2.1.size hb10, Err.below hb10 (Nat.le_refl _) hHeld.2.2.2.2.1, Kd.C_below hHeld.2.2.2.2.2.1 hb10, Nat.lt_of_lt_of_le hHeld.2.2.2.2.2.2 hb10.size⟩ (fun hHeld => ?_)
  clear hK K
  refine norm_ (a' := ?_) ?_ ?_
  rotate_left
  · show Act.put _ (some 75) _ = _
    simp only [Act.put, List.setIfInBounds_toArray, List.set_cons_zero, List.set_cons_succ, i64_w, i32_w]
    rfl
  refine pure_ (i := 17) (N := some 76) (v := ?_) (a' := ?_) #[true, true, true, true, true, true, true, true, true, true, true, true, true, true, true, true, true, true, false, false] rfl rfl (by kernel_rfl) (fun _ _ _ h => h) (Or.inl ⟨by rfl, ?_⟩) ?_ ?_
  rotate_left
  · intro w'
    go_simp
    with_reducible rfl
  rotate_left
  · simp only [Act.put, List.setIfInBounds_toArray, List.set_cons_zero, List.set_cons_succ, i64_w, i32_w]
    rfl
  refine pure_ (i := 18) (N := some 77) (v := ?_) (a' := ?_) #[true, true, true, true, true, true, true, true, true, true, true, true, true, true, true, true, true, true, true, false] rfl rfl (by kernel_rfl) (fun _ _ _ h => h) (Or.inl ⟨by rfl, ?_⟩) ?_ ?_
  rotate_left
  · intro w'
    go_simp
    with_reducible rfl
  rotate_left
  · simp only [Act.put, List.setIfInBounds_toArray, List.set_cons_zero, List.set_cons_succ, i64_w, i32_w]
    rfl
  refine pure_ (i := 19) (N := some 6) (v := ?_) (a' := ?_) #[true, true, true, true, true, true, true, true, true, true, true, true, true, true, true, true, true, true, true, true] rfl rfl (by kernel_rfl) (fun _ _ _ h => h) (Or.inl ⟨by rfl, ?_⟩) ?_ ?_
  rotate_left
  · intro w'
    go_simp
    with_reducible rfl
  rotate_left
  · simp only [Act.put, List.setIfInBounds_toArray, List.set_cons_zero, List.set_cons_succ, i64_w, i32_w]
    rfl
  refine done_ (by kernel_rfl) ?_

  go_wp2
  go_ret
  exact ⟨by simp [Pure.textS], HBF.out⟩

set_option maxHeartbeats 1000000 in
theorem asks_long (code at_ : Int) (A : Option Addr) (cap : Nat) (l : List Int) (w : World) (hg : Laid w) (hlen : (l.length : Int) > 100) :
    Calls Tryd.prog 3 #[.int .i64 code, .int .i64 at_, .slice A l.length cap] w fun e w' => e = .returned (.bool true) ∧ Below w.heap.size w w' := by
  have HG := Lib.hid hg
  clear hg
  go_enter Tryd.func3, Tryd.ntmps3
  go_wp2_with fail
  refine (live_calls w HG.out).mono ?_
  rintro e w1 ⟨rfl, hb1⟩
  have HB1 := Lib.hid hb1
  clear hb1
  go_wp2_with fail
  refine (live_calls w1 (HG.out.below HB1.out (Nat.le_refl _))).mono ?_
  rintro e w2 ⟨rfl, hb2⟩
  have HB2 := Lib.hid (below_then HB1.out HB1.out.size hb2)
  clear hb2
  go_wp2
  go_ret
  exact ⟨rfl, HB2.out⟩
theorem asks_walk (code at_ : Int) (A : Option Addr) (cap : Nat) (l : List Int) (w : World) (hg : Laid w) (hc : Kd.C (Kd.int .i64) w A l.length l) (hcap : l.length ≤ cap) (hcode : Pure.InI code) (hat : Pure.InI at_) (hin : ∀ n ∈ l, Pure.InI n) (hlen : l.length ≤ 140737488351232) :
    Calls Tryd.prog 3 #[.int .i64 code, .int .i64 at_, .slice A l.length cap] w fun e w' => e = .returned (.bool true) ∧ Below w.heap.size w w' := by
  by_cases hbig : (l.length : Int) > 100
  · exact asks_long code at_ A cap l w hg hbig
  · by_cases h0 : code = 0
    · subst h0
      exact asks_zero at_ A cap l w hg hc hcap (by omega)
    · refine asks_code code at_ A cap l w h0 hg hc hcap (by omega) hcode (fun n hn => ?_)
      simp only [List.mem_append, List.mem_reverse, List.mem_cons, List.not_mem_nil, or_false] at hn
      rcases hn with hn | rfl
      · exact hin n hn
      · exact hat
end Go.Proofs.YtgfkpbjimmofdaaDoor
