/- NumBack is true of all numbers and texts: digits and bytes lead back to their number, and a number to its text. -/
import Derived.Test.YtncmkbmggflloaaUnbytes
namespace Go.Proofs.Ytncmkbmggflloaa.Pure
open Go.RowKit Go.Proofs.Ytncmkbmggflloaa.PA Go.Proofs.YtncmkbmggflloaaW.PrintWords Go.Proofs.YtncmkbmggflloaaW.PrintLast

theorem digits_some {n : Int} (h0 : -9223372036854775808 ≤ n) (h1 : n ≤ 9223372036854775807) : num_Digits.f n = some (strOfNums (digL n)) := by
  unfold num_Digits.f
  rw [if_pos ⟨h0, h1⟩]
theorem numbytes_some {n : Int} (h0 : -9223372036854775808 ≤ n) (h1 : n ≤ 9223372036854775807) : num_Bytes.f n = some (strOfNums (be8 (n + 9223372036854775808).toNat)) := by
  unfold num_Bytes.f
  rw [if_pos ⟨h0, h1⟩]
theorem digL_len {n : Int} (h0 : -9223372036854775808 ≤ n) (h1 : n ≤ 9223372036854775807) : (digL n).length ≤ 20 := by
  unfold digL
  have := decL_len n.natAbs (by omega)
  split <;> simp <;> omega
theorem parse_digits_ev {n : Int} (h0 : -9223372036854775808 ≤ n) (h1 : n ≤ 9223372036854775807) : Ev (fun k => num_Parse.f k (strOfNums (digL n))) (n, 0) := by
  have := num_Parse_ev (strOfNums (digL n)) (by rw [strOfNums_size]; have := digL_len h0 h1; omega)
  rw [bytesOf_strOfNums _ (digL_bytes n), parseS_digL n h0 h1] at this
  exact this
theorem unbytes_bytes_ev {n : Int} (h0 : -9223372036854775808 ≤ n) (h1 : n ≤ 9223372036854775807) : Ev (fun k => num_Unbytes.f k (strOfNums (be8 (n + 9223372036854775808).toNat))) (n, 0) := by
  have := unbytes_ev (strOfNums (be8 (n + 9223372036854775808).toNat))
  rw [bytesOf_strOfNums _ (be8_bytes _)] at this
  unfold unbytesS at this
  rw [if_pos (be8_length _), foldB_be8 _ (by omega)] at this
  rw [show ((n + 9223372036854775808).toNat : Int) - 9223372036854775808 = n by omega] at this
  exact this

theorem NumBack : placketlaw01_NumBack.Pure := by
  intro n s wn hs
  obtain ⟨h0, h1⟩ := i64_wf wn
  apply Ev.rounds
  unfold placketlaw01_NumBack.f
  refine Ev.bind live_ev ?_
  by_cases hb : (s.size : Int) > 200
  · refine Ev.step (f := fun k => (placketlaw01_live.f k).bind fun t => some t) (fun k => ?_) (Ev.bind live_ev (Ev.now _))
    rw [if_pos rfl, decide_eq_true hb]
    simp only [placketlaw01_NumBack.j0]
    rw [if_pos trivial]
  · refine Ev.step (f := fun k => (num_Parse.f k (strOfNums (digL n))).bind fun a => (num_Unbytes.f k (strOfNums (be8 (n + 9223372036854775808).toNat))).bind fun b => (if a.2 = 0 then (if b.2 = 0 then (if a.1 = n then (placketlaw01_NumBack.j1 k s (b.1 != n)) else (placketlaw01_NumBack.j1 k s true)) else (placketlaw01_NumBack.j1 k s true)) else (placketlaw01_NumBack.j1 k s true))) (fun k => ?_) ?_
    · rw [if_pos rfl, decide_eq_false hb]
      simp only [placketlaw01_NumBack.j0]
      rw [if_neg (by simp), digits_some h0 h1, numbytes_some h0 h1]
      simp only [Option.bind_some]
    · refine Ev.bind (parse_digits_ev h0 h1) (Ev.bind (unbytes_bytes_ev h0 h1) ?_)
      refine Ev.congr (f := fun k => placketlaw01_NumBack.j1 k s false) (fun k => by simp) ?_
      refine Ev.step (f := fun k => (num_Parse.f k s).bind fun a => (num_Unbytes.f k s).bind fun b => (if a.2 = 0 then ((num_Digits.f a.1).bind fun t182 => (if t182.toList = s.toList then (if b.2 = 0 then ((num_Bytes.f b.1).bind fun t183 => (some (t183.toList == s.toList))) else (some true)) else (some false))) else (if b.2 = 0 then ((num_Bytes.f b.1).bind fun t184 => (some (t184.toList == s.toList))) else (some true)))) (fun k => ?_) ?_
      · simp only [placketlaw01_NumBack.j1]
        rw [if_neg (by simp)]
      · refine Ev.bind (num_Parse_ev s hs) (Ev.bind (unbytes_ev s) ?_)
        refine Ev.congr (f := fun _ => some true) (fun k => ?_) (Ev.now _)
        have hB : (unbytesS (bytesOf s)).2 = 0 → num_Bytes.f (unbytesS (bytesOf s)).1 = some s := by
          unfold unbytesS
          rw [bytesOf_length]
          by_cases h8 : s.size = 8
          · rw [if_pos h8]
            intro _
            obtain ⟨e, hlt⟩ := be8_foldB (bytesOf s) (by rw [bytesOf_length]; exact h8) (bytesOf_range s)
            rw [numbytes_some (by simp only []; omega) (by simp only []; omega)]
            rw [show ((((foldB 0 (bytesOf s) : Nat) : Int) - 9223372036854775808) + 9223372036854775808).toNat = foldB 0 (bytesOf s) by omega, e, strOfNums_bytesOf]
          · rw [if_neg h8]
            intro h
            simp at h
        have hD : (parseS (bytesOf s)).2 = 0 → num_Digits.f (parseS (bytesOf s)).1 = some s := by
          intro h
          have hr := parseS_range (bytesOf s)
          rw [digits_some hr.1 hr.2, digL_parseS _ h, strOfNums_bytesOf]
        by_cases e1 : (parseS (bytesOf s)).2 = 0 <;> by_cases e2 : (unbytesS (bytesOf s)).2 = 0
        · rw [if_pos e1, hD e1]
          simp only [Option.bind_some]
          rw [if_pos trivial, if_pos e2, hB e2]
          simp
        · rw [if_pos e1, hD e1]
          simp only [Option.bind_some]
          rw [if_pos trivial, if_neg e2]
        · rw [if_neg e1, if_pos e2, hB e2]
          simp
        · rw [if_neg e1, if_neg e2]

end Go.Proofs.Ytncmkbmggflloaa.Pure
