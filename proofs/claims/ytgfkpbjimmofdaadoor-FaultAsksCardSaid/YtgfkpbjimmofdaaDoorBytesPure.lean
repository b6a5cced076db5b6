/- Small laws on lists of bytes and on 'from some number of rounds on', for all pure texts. -/
import Derived.Test.YtgfkpbjimmofdaaDoorPAx
import Derived.Laws.BitsAllLaws
import Derived.KernelRfl
namespace Go.Proofs.YtgfkpbjimmofdaaDoor.Pure
open Go.RowKit Go.Proofs.YtgfkpbjimmofdaaDoor.PA Go.Proofs.YtgfkpbjimmofdaaDoorW.PrintWords Go.Proofs.YtgfkpbjimmofdaaDoorW.PrintLast

theorem Ev.succ {α : Type} {g : Nat → Option α} {r : α} (h : Ev (fun k => g (k + 1)) r) : Ev g r := by
  obtain ⟨K, h⟩ := h
  refine ⟨K + 1, fun k hk => ?_⟩
  have : g (k - 1 + 1) = some r := h (k - 1) (by omega)
  rwa [show k - 1 + 1 = k by omega] at this
theorem Ev.add {α : Type} {g : Nat → Option α} {r : α} (h : Ev g r) (m : Nat) : Ev (fun k => g (k + m)) r := by
  obtain ⟨K, h⟩ := h
  exact ⟨K, fun k hk => h _ (by omega)⟩
theorem Ev.at_ {α : Type} {g : Nat → Option α} {r : α} (m : Nat) (h : ∀ k, m ≤ k → g k = some r) : Ev g r := ⟨m, h⟩
theorem Ev.const {α : Type} {r : α} {o : Option α} (h : o = some r) : Ev (fun _ => o) r := ⟨0, fun _ _ => h⟩

theorem w64 {n : Int} (h0 : -9223372036854775808 ≤ n) (h1 : n ≤ 9223372036854775807) : wrap64 n = n := by unfold wrap64; omega
theorem i_next {i n : Nat} (h : i < n) (hn : n ≤ 140737488351232) : wrap64 ((i : Int) + 1) = ((i + 1 : Nat) : Int) := by unfold wrap64; omega
theorem bytes_drop (s : ByteArray) {i : Nat} (h : i < s.size) : (bytesOf s).drop i = bt s (i : Int) :: (bytesOf s).drop (i + 1) := by
  have hl : i < (bytesOf s).length := by rw [bytesOf_length]; exact h
  rw [List.drop_eq_getElem_cons hl, ← rd_bytesOf]
  simp [rd, hl]
theorem bytes_end (s : ByteArray) {i : Nat} (h : s.size ≤ i) : (bytesOf s).drop i = [] := List.drop_eq_nil_of_le (by rw [bytesOf_length]; exact h)
theorem bytes_nil {s : ByteArray} (h : s.size = 0) : bytesOf s = [] := List.eq_nil_of_length_eq_zero (by rw [bytesOf_length]; exact h)
theorem bytesOf_range (s : ByteArray) : ∀ x ∈ bytesOf s, 0 ≤ x ∧ x ≤ 255 := by
  intro x hx
  simp only [bytesOf, List.mem_map] at hx
  obtain ⟨b, -, rfl⟩ := hx
  have := b.toNat_lt
  omega
theorem bytesOf_strOfNums (l : List Int) (h : ∀ x ∈ l, 0 ≤ x ∧ x ≤ 255) : bytesOf (strOfNums l) = l := by
  unfold bytesOf
  rw [strOfNums_data, List.map_map]
  conv => rhs; rw [← List.map_id l]
  apply List.map_congr_left
  intro x hx
  have := h x hx
  simp
  omega
theorem strOfNums_bytesOf (s : ByteArray) : strOfNums (bytesOf s) = s := by
  apply ByteArray.ext
  apply Array.toList_inj.1
  rw [strOfNums_data]
  unfold bytesOf
  rw [List.map_map, show ((fun n : Int => UInt8.ofNat n.toNat) ∘ fun b : UInt8 => (b.toNat : Int)) = id from funext fun b => by simp, List.map_id]
theorem bytesOf_inj {s t : ByteArray} (h : bytesOf s = bytesOf t) : s = t := by
  rw [← strOfNums_bytesOf s, h, strOfNums_bytesOf]
theorem bytesOf_append (s t : ByteArray) : bytesOf (s ++ t) = bytesOf s ++ bytesOf t := by simp [bytesOf, ByteArray.data_append]
theorem bytesOf_take (s : ByteArray) (j : Nat) : bytesOf (s.extract 0 j) = (bytesOf s).take j := by
  simp [bytesOf, List.map_take]
theorem toList_nil {s : ByteArray} : s.toList = [] ↔ s.size = 0 := by
  constructor
  · intro h
    have := ByteArray.toList_eq s
    rw [h] at this
    have h2 := congrArg List.length this
    rw [data_length] at h2
    simpa using h2.symm
  · intro h
    rw [ByteArray.toList_eq]
    exact List.eq_nil_of_length_eq_zero (by rw [data_length]; exact h)
theorem toList_inj {s t : ByteArray} : s.toList = t.toList ↔ s = t := by
  constructor
  · intro h
    rw [ByteArray.toList_eq, ByteArray.toList_eq] at h
    exact ByteArray.ext (Array.toList_inj.1 h)
  · intro h; rw [h]

end Go.Proofs.YtgfkpbjimmofdaaDoor.Pure
