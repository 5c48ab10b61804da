/- Of three texts of one length, laid over one another, the sum is the three sums laid over one another (bytes cut at 100). No condition but the program's own table. -/
import Derived.Test.YtjjmgpejlkggoaaDoorCFix
import Derived.Test.YtjjmgpejlkggoaaDoorQ6
namespace Go.Proofs.YtjjmgpejlkggoaaDoor.Pure
open Go.RowKit Go.Proofs.YtjjmgpejlkggoaaDoor.Q Go.Proofs.YtjjmgpejlkggoaaDoorW.PrintWords Go.Proofs.YtjjmgpejlkggoaaDoorW.PrintLast Go.Proofs.YtjjmgpejlkggoaaDoorW.PrintMore HOn CMath BMath CEq

theorem nums_data (l : List UInt8) : (strOfNums (l.map fun u => (u.toNat : Int))).data.toList = l := by
  unfold strOfNums
  simp only [List.map_map]
  conv => rhs; rw [← List.map_id l]
  exact List.map_congr_left fun x _ => by simp
theorem bt_data (s : ByteArray) (i : Nat) (h : i < s.data.toList.length) : bt s (i : Int) = ((s.data.toList[i]'h).toNat : Int) := by
  have h' : i < s.size := by simpa using h
  unfold bt
  rw [dif_pos (by rw [Int.toNat_natCast]; exact h')]
  simp only [Int.toNat_natCast]
  rfl
def three (a b c : ByteArray) (n : Nat) : List UInt8 := List.zipWith (fun x y => x ^^^ y) (List.zipWith (fun x y => x ^^^ y) (a.data.toList.take n) (b.data.toList.take n)) (c.data.toList.take n)
theorem three_loop (a b c : ByteArray) (n : Nat) (ha : n ≤ a.size) (hb : n ≤ b.size) (hc : n ≤ c.size) (hn : n ≤ 100) (d : Nat) : ∀ (k i : Nat), n - i = d → i ≤ n → d < k →
    clewlaw03_CrcLinear.l0 k a b c (n : Int) (((three a b c n).take i).map fun u => (u.toNat : Int)) (i : Int) = clewlaw03_CrcLinear.l0 (k - d) a b c (n : Int) ((three a b c n).map fun u => (u.toNat : Int)) (n : Int) := by
  have hla : n ≤ a.data.toList.length := by simpa using ha
  have hlb : n ≤ b.data.toList.length := by simpa using hb
  have hlc : n ≤ c.data.toList.length := by simpa using hc
  have hlen : (three a b c n).length = n := by simp [three]; omega
  induction d with
  | zero =>
    intro k i hd hi hk
    have : i = n := by omega
    subst this
    rw [List.take_of_length_le (by omega)]
    rfl
  | succ d ih =>
    intro k i hd hi hk
    obtain ⟨k, rfl⟩ : ∃ j, k = j + 1 := ⟨k - 1, by omega⟩
    rw [clewlaw03_CrcLinear.l0]
    rw [if_pos (by omega), if_pos (by omega), if_pos (by omega), if_pos (by omega), if_pos (by omega), if_pos (by rw [List.length_map, List.length_take]; omega)]
    have hx : Go.bits .xor .u8 (Go.bits .xor .u8 (bt a (i : Int)) (bt b (i : Int))) (bt c (i : Int)) = (((three a b c n)[i]'(by omega)).toNat : Int) := by
      rw [bt_data a i (by omega), bt_data b i (by omega), bt_data c i (by omega), u8_xor_nat _ _ (UInt8.toNat_lt _) (UInt8.toNat_lt _), u8_xor_nat _ _ (Nat.xor_lt_two_pow (n := 8) (UInt8.toNat_lt _) (UInt8.toNat_lt _)) (UInt8.toNat_lt _)]
      simp [three]
    have hl : (((three a b c n).take i).map fun u => (u.toNat : Int)) ++ [(((three a b c n)[i]'(by omega)).toNat : Int)] = ((three a b c n).take (i + 1)).map fun u => (u.toNat : Int) := by
      rw [List.take_add_one, List.getElem?_eq_getElem (by omega : i < (three a b c n).length), List.map_append]
      rfl
    rw [hx, hl, wrap_in (by omega) (by omega), show (i : Int) + 1 = ((i + 1 : Nat) : Int) by omega, ih k (i + 1) (by omega) (by omega) (by omega), show k + 1 - (d + 1) = k - d by omega]

theorem CrcLinear : clewlaw03_CrcLinear.Pure := by
  intro a b c ha hb hc
  refine ⟨102, ?_⟩
  unfold clewlaw03_CrcLinear.f
  rw [mn_nat, mn_nat, show (100 : Int) = ((100 : Nat) : Int) from rfl, mn_nat]
  generalize hn : min (min (min a.size b.size) c.size) 100 = n
  have h := three_loop a b c n (by omega) (by omega) (by omega) (by omega) n 102 0 (by omega) (by omega) (by omega)
  rw [List.take_zero] at h
  refine h.trans ?_
  obtain ⟨k, hk⟩ : ∃ j, 102 - n = j + 1 := ⟨102 - n - 1, by omega⟩
  rw [hk, clewlaw03_CrcLinear.l0]
  have hsz : (strOfNums ((three a b c n).map fun u => (u.toNat : Int))).size ≤ 100 := by
    rw [size_nums, List.length_map]
    simp [three]
    omega
  have la : n ≤ a.data.toList.length := by have : a.data.toList.length = a.size := by simp
                                           omega
  have lb : n ≤ b.data.toList.length := by have : b.data.toList.length = b.size := by simp
                                           omega
  have lc : n ≤ c.data.toList.length := by have : c.data.toList.length = c.size := by simp
                                           omega
  have f1 := of_eq (a.extract 0 n) (by simp; omega)
  have f2 := of_eq (b.extract 0 n) (by simp; omega)
  have f3 := of_eq (c.extract 0 n) (by simp; omega)
  have f4 := of_eq (strOfNums ((three a b c n).map fun u => (u.toNat : Int))) (by omega)
  have l1 := sum_lt (a.extract 0 n)
  have l2 := sum_lt (b.extract 0 n)
  have l3 := sum_lt (c.extract 0 n)
  have e : sum (strOfNums ((three a b c n).map fun u => (u.toNat : Int))) = sum (a.extract 0 n) ^^^ sum (b.extract 0 n) ^^^ sum (c.extract 0 n) := by
    unfold sum
    rw [nums_data, Lib.extract_data, Lib.extract_data, Lib.extract_data, List.drop_zero, List.drop_zero, List.drop_zero, Nat.sub_zero]
    have := on_three (a.data.toList.take n) (b.data.toList.take n) (c.data.toList.take n) 11994318 11994318 11994318 (by decide) (by decide) (by decide) (by simp; omega) (by simp; omega)
    rw [Nat.xor_self, Nat.zero_xor] at this
    exact this
  rw [if_neg (by omega), if_pos (by omega), if_pos (by omega), Int.toNat_natCast, f1, Option.bind_some, if_pos (by omega), f2, Option.bind_some, if_pos (by omega), f3, Option.bind_some, f4, Option.bind_some,
    xor_nat _ _ l1 l2, xor_nat _ _ (xor_lt l1 l2) l3, e, if_pos rfl, fixed_eq]
  rfl
end Go.Proofs.YtjjmgpejlkggoaaDoor.Pure
