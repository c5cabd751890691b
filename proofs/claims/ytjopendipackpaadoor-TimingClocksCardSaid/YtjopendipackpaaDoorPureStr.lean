/- Plain facts on byte strings that are told as lists of numbers. No condition but those that each theorem states. -/
import Derived.Test.YtjopendipackpaaDoorPClkx8
import Derived.Test.YtjopendipackpaaDoorGParse
import Derived.Lib.Strings
namespace Go.Proofs.YtjopendipackpaaDoor.Pure
open Go.RowKit Go.Proofs.YtjopendipackpaaDoor.PClk Go.Proofs.YtjopendipackpaaDoorW.PrintWords Go.Proofs.YtjopendipackpaaDoorW.PrintLast Go.Proofs.YtjopendipackpaaDoorW.PrintMore

theorem wrap_id {x : Int} (h0 : -9223372036854775808 ≤ x) (h1 : x ≤ 9223372036854775807) : wrap64 x = x := by
  unfold wrap64; omega
/-- A string's bytes, as numbers. -/
def bl (s : ByteArray) : List Int := s.data.toList.map fun b => (b.toNat : Int)
theorem bl_len (s : ByteArray) : (bl s).length = s.size := by
  rw [bl, List.length_map, Array.length_toList]; rfl
theorem toList_inj {a b : ByteArray} (h : a.toList = b.toList) : a = b := by
  rw [Lib.toList_data, Lib.toList_data] at h
  exact ByteArray.ext (by cases ha : a.data; cases hb : b.data; rw [ha, hb] at h; simpa using h)
theorem bt_bl (s : ByteArray) (x : Int) (h0 : 0 ≤ x) (h1 : x < (s.size : Int)) : bt s x = (bl s).getD x.toNat 0 := by
  unfold bt bl
  have h : x.toNat < s.size := by omega
  have h2 : x.toNat < s.data.toList.length := by rw [Array.length_toList]; exact h
  rw [dif_pos h]
  simp only [List.getD, List.getElem?_map, List.getElem?_eq_getElem h2, Option.map_some, Option.getD_some, Array.getElem_toList]
  rfl
theorem bt_bl2 (s : ByteArray) (x : Int) (l : List Int) (hl : bl s = l) (h0 : 0 ≤ x) (h1 : x < (l.length : Int)) : bt s x = l.getD x.toNat 0 := by
  rw [← hl] at h1 ⊢
  exact bt_bl s x h0 (by rw [← bl_len]; exact h1)
theorem str_append (xs ys : List Int) : strOfNums xs ++ strOfNums ys = strOfNums (xs ++ ys) := by
  apply ByteArray.ext
  rw [ByteArray.data_append]
  simp [strOfNums]
theorem str_drop1 (xs : List Int) : (strOfNums xs).extract 1 (strOfNums xs).size = strOfNums (xs.drop 1) := by
  apply ByteArray.ext
  rw [ByteArray.data_extract, strOfNums_size]
  cases xs <;> simp [strOfNums, List.take_of_length_le]
theorem bl_str (xs : List Int) (h : ∀ x ∈ xs, 0 ≤ x ∧ x ≤ 255) : bl (strOfNums xs) = xs := by
  unfold bl
  rw [strOfNums_data, List.map_map]
  conv => rhs; rw [← List.map_id xs]
  apply List.map_congr_left
  intro x hx
  obtain ⟨h0, h1⟩ := h x hx
  simp only [Function.comp, id]
  have : (UInt8.ofNat x.toNat).toNat = x.toNat := by
    rw [UInt8.toNat_ofNat']
    omega
  rw [this]
  omega
theorem drop_cons (l : List Int) (x : Int) (h0 : 0 ≤ x) (h1 : x < (l.length : Int)) : l.drop x.toNat = l.getD x.toNat 0 :: l.drop (x + 1).toNat := by
  have h : x.toNat < l.length := by omega
  rw [List.drop_eq_getElem_cons h]
  have e : (x + 1).toNat = x.toNat + 1 := by omega
  rw [e]
  simp [List.getD, List.getElem?_eq_getElem h]
end Go.Proofs.YtjopendipackpaaDoor.Pure
