/- Strings as lists of numbers below 256. -/
import Derived.Lib.Strings
import Derived.Laws.BytesArg
import Derived.Laws.BitsAllLaws
import Derived.Test.YtjjmgpejlkggoaaDoorWMath
import Derived.Test.YtjjmgpejlkggoaaDoorWWords
import Derived.Test.YtjjmgpejlkggoaaDoorWMore
namespace Go.Proofs.YtjjmgpejlkggoaaDoor.BMath
open Go.RowKit Go.Proofs.YtjjmgpejlkggoaaDoorW.PrintWords Go.Proofs.YtjjmgpejlkggoaaDoorW.PrintMore WMath

def bl (s : ByteArray) : List Nat := s.data.toList.map (·.toNat)
theorem bl_bytes (s : ByteArray) : Bytes (bl s) := by
  intro x hx
  obtain ⟨c, _, rfl⟩ := List.mem_map.1 hx
  exact c.toNat_lt
theorem bl_length (s : ByteArray) : (bl s).length = s.size := by
  simp [bl]
theorem map_inj : ∀ l m : List UInt8, l.map (·.toNat) = m.map (·.toNat) → l = m
  | [], [], _ => rfl
  | [], _ :: _, h => by simp at h
  | _ :: _, [], h => by simp at h
  | a :: l, b :: m, h => by
    simp only [List.map_cons, List.cons.injEq] at h
    rw [UInt8.toNat_inj.1 h.1, map_inj l m h.2]
theorem bl_inj {s t : ByteArray} (h : bl s = bl t) : s = t := by
  have h1 : s.data.toList = t.data.toList := by
    unfold bl at h
    exact map_inj _ _ h
  cases s; cases t
  simp only at h1
  congr 1
  exact Array.toList_inj.1 h1
theorem toList_iff (s t : ByteArray) : s.toList = t.toList ↔ bl s = bl t := by
  rw [Lib.toList_data, Lib.toList_data]
  constructor
  · intro h; unfold bl; rw [h]
  · intro h; rw [bl_inj h]
theorem toList_eq (s t : ByteArray) : s.toList = t.toList ↔ s = t := ⟨fun h => bl_inj ((toList_iff s t).1 h), fun h => by rw [h]⟩
theorem toList_nil (s : ByteArray) : s.toList = [] ↔ bl s = [] := by
  rw [Lib.toList_data]
  unfold bl
  simp
theorem bl_empty : bl (⟨#[]⟩ : ByteArray) = [] := rfl
theorem bl_append (s t : ByteArray) : bl (s ++ t) = bl s ++ bl t := by
  simp [bl]
theorem bl_extract (s : ByteArray) (a b : Nat) : bl (s.extract a b) = ((bl s).take b).drop a := by
  unfold bl
  rw [Lib.extract_data, List.map_take, List.map_drop, List.drop_take]
theorem bl_extract_to (s : ByteArray) (b : Nat) : bl (s.extract 0 b) = (bl s).take b := by rw [bl_extract, List.drop_zero]
theorem bl_extract_from (s : ByteArray) (a : Nat) : bl (s.extract a s.size) = (bl s).drop a := by
  rw [bl_extract, List.take_of_length_le (by rw [bl_length]; exact Nat.le_refl _)]
theorem bl_nums (xs : List Int) (h : ∀ x ∈ xs, 0 ≤ x ∧ x < 256) : bl (strOfNums xs) = xs.map Int.toNat := by
  unfold bl strOfNums
  simp only [List.map_map]
  refine List.map_congr_left fun x hx => ?_
  have := h x hx
  simp only [Function.comp, UInt8.toNat_ofNat']
  omega
theorem size_nums (xs : List Int) : (strOfNums xs).size = xs.length := by
  show (strOfNums xs).data.size = _
  simp [strOfNums]
theorem bt_bl (s : ByteArray) (i : Int) : bt s i = (((bl s).getD i.toNat 0 : Nat) : Int) := by
  unfold bt bl
  split
  · rename_i h
    have h' : i.toNat < s.data.toList.length := by simpa using h
    simp [List.getD_eq_getElem?_getD, List.getElem?_eq_getElem h']
    rfl
  · rename_i h
    have h' : s.data.toList.length ≤ i.toNat := by simpa using h
    simp [List.getD_eq_getElem?_getD, List.getElem?_eq_none h']
theorem or_add (a c : Nat) (hc : c < 256) : a * 256 ||| c = a * 256 + c := by
  have := Nat.two_pow_add_eq_or_of_lt (i := 8) (b := c) hc a
  rw [Nat.mul_comm a 256]
  exact this.symm
theorem u64_or_add (a c : Nat) (hc : c < 256) (ha : a * 256 + c < 18446744073709551616) : Go.bits .or .u64 (IntKind.u64.wrap ((a : Int) * 256)) (c : Int) = ((a * 256 + c : Nat) : Int) := by
  have h1 : a * 256 < 18446744073709551616 := Nat.lt_of_le_of_lt (Nat.le_add_right _ _) ha
  have h2 : c < 18446744073709551616 := Nat.lt_of_le_of_lt (Nat.le_add_left _ _) ha
  have h := u64_or_nat (a * 256) c h1 h2
  rw [or_add a c hc] at h
  have e : IntKind.u64.wrap ((a : Int) * 256) = ((a * 256 : Nat) : Int) := by
    show ((a : Int) * 256) % 18446744073709551616 = _
    omega
  rw [e]
  exact h
theorem wrap_in {x : Int} (h0 : -9223372036854775808 ≤ x) (h1 : x ≤ 9223372036854775807) : wrap64 x = x := by
  unfold wrap64
  omega
end Go.Proofs.YtjjmgpejlkggoaaDoor.BMath
