/- What wire's printed functions compute, in WMath's words. -/
import Derived.Test.YtakibnkhfmneiaaDoorZ0
import Derived.Test.YtakibnkhfmneiaaDoorQ5
import Derived.Test.YtakibnkhfmneiaaDoorQ18
namespace Go.Proofs.YtakibnkhfmneiaaDoor.WEq
open Go.RowKit Go.Proofs.YtakibnkhfmneiaaDoorW.PrintWords Go.Proofs.YtakibnkhfmneiaaDoorW.PrintLast Go.Proofs.YtakibnkhfmneiaaDoorW.PrintMore Go.Proofs.YtakibnkhfmneiaaDoor.Q WMath BMath

theorem num_val (t : ByteArray) (m : Nat) (hm : m ≤ 8) (h : m + 1 ≤ t.size) : HGet.num t m = (val (((bl t).drop 1).take m) : Int) := by
  induction m with
  | zero => rfl
  | succ m ih =>
    have ih := ih (by omega) (by omega)
    have hl : m < ((bl t).drop 1).length := by rw [List.length_drop, bl_length]; omega
    have hg : (bl t).getD ((m : Int) + 1).toNat 0 = ((bl t).drop 1)[m]'hl := by
      rw [show ((m : Int) + 1).toNat = 1 + m by omega, List.getElem_drop, List.getD_eq_getElem?_getD, List.getElem?_eq_getElem]
      rfl
    have hb : Bytes (((bl t).drop 1).take m) := fun x hx => bl_bytes t x (List.mem_of_mem_drop (List.mem_of_mem_take hx))
    have hc : ((bl t).drop 1)[m]'hl < 256 := bl_bytes t _ (List.mem_of_mem_drop (List.getElem_mem hl))
    have hv : val (((bl t).drop 1).take m) < 256 ^ 7 := by
      refine Nat.lt_of_lt_of_le (val_lt _ hb) (Nat.pow_le_pow_right (by decide) ?_)
      rw [List.length_take]
      omega
    have e7 : (256 : Nat) ^ 7 = 72057594037927936 := by decide
    rw [e7] at hv
    rw [HGet.num, ih, bt_bl, hg, u64_or_add _ _ hc (by omega), List.take_succ_eq_append_getElem hl, val_snoc]

def tell (a : Nat) (g : Nat × Nat × Nat) : Int × Int × Int := ((g.1 : Int), (if g.2.2 = 0 then (a : Int) + (g.2.1 : Int) else 0), (g.2.2 : Int))
/-- wire.Get, at a place in the string -/
theorem get_eq (s : ByteArray) (a : Nat) (ha : a ≤ s.size) (hs : s.size ≤ 9000000000000000000) :
    wire_Get.f s (a : Int) = some (tell a (getN ((bl s).drop a))) := by
  unfold wire_Get.f
  rw [if_pos (by omega), if_neg (by omega), if_neg (by omega), Int.toNat_natCast]
  obtain ⟨t, ht⟩ : ∃ t, s.extract a s.size = t := ⟨_, rfl⟩
  have hb : bl t = (bl s).drop a := by rw [← ht, bl_extract_from]
  have hts : t.size = s.size - a := by rw [← bl_length, hb, List.length_drop, bl_length]
  rw [ht, ← hb]
  congr 1
  unfold HGet.get1
  match hl : bl t with
  | [] =>
    rw [if_pos ((toList_nil t).2 hl)]
    simp [getN, tell]
  | c :: r =>
    have hsz : t.size = r.length + 1 := by rw [← bl_length, hl]; rfl
    have hc : c < 256 := bl_bytes t c (by rw [hl]; simp)
    have h0 : bt t 0 = (c : Int) := by rw [bt_bl, hl]; rfl
    rw [if_neg (by rw [toList_nil, hl]; simp), h0]
    simp only [getN]
    by_cases h1 : 199 < c
    · rw [if_pos (by omega), if_pos h1]; simp [tell]
    rw [if_neg (by omega), if_neg h1]
    by_cases h2 : c < 192
    · rw [if_pos (by omega), if_pos h2, wrap_in (by omega) (by omega)]; simp [tell]
    rw [if_neg (by omega), if_neg h2]
    obtain ⟨m, rfl⟩ : ∃ m, c = m + 191 := ⟨c - 191, by omega⟩
    rw [Nat.add_sub_cancel, show ((m + 191 : Nat) : Int) - 191 = (m : Int) by omega, Int.toNat_natCast]
    by_cases h3 : r.length < m
    · rw [if_pos (by omega), if_pos h3]; simp [tell]
    rw [if_neg (by omega), if_neg h3, num_val t m (by omega) (by omega), hl, show ((m + 191) :: r).drop 1 = r from rfl]
    by_cases h4 : val (r.take m) < 192
    · rw [if_pos (by omega), if_pos (Or.inl h4)]; simp [tell]
    rw [if_neg (by omega)]
    have h5 : (bt t 1 = 0) ↔ r.head? = some 0 := by
      rw [bt_bl, hl]
      cases r with
      | nil => simp at h3; omega
      | cons d r => simp
    by_cases h6 : r.head? = some 0
    · rw [if_pos (h5.2 h6), if_pos (Or.inr h6)]; simp [tell]
    · rw [if_neg (fun h => h6 (h5.1 h)), if_neg (fun h => h.elim h4 h6), wrap_in (x := (a : Int) + 1) (by omega) (by omega), wrap_in (by omega) (by omega)]
      simp [tell]
      omega
theorem get_out (s : ByteArray) (a : Int) (ha : a < 0 ∨ (s.size : Int) < a) (hs : s.size ≤ 9000000000000000000) : wire_Get.f s a = some (0, 0, 1) := by
  unfold wire_Get.f
  rw [if_pos (by omega)]
  by_cases h : a < 0
  · rw [if_pos h]
  · rw [if_neg h, if_pos (by omega)]

theorem be_cons (d : Nat) : ∀ n, be (d + 1) n = (n / 256 ^ d % 256) :: be d n := by
  induction d with
  | zero => intro n; simp [be]
  | succ d ih =>
    intro n
    rw [be, ih (n / 256), be, List.cons_append, Nat.div_div_eq_div_mul, Nat.pow_succ, Nat.mul_comm 256]
theorem put_loop (n m : Nat) (hm : m ≤ 8) (d : Nat) : ∀ (k : Nat) (acc : List Int) (i : Nat), m - i = d → i ≤ m → d < k → acc.length ≤ 100 + i →
    wire_Put.l0 k (n : Int) (m : Int) acc (m : Int) (i : Int) = some (strOfNums (acc ++ ints (be d n))) := by
  induction d with
  | zero =>
    intro k acc i hd hi hk _
    obtain ⟨k, rfl⟩ : ∃ j, k = j + 1 := ⟨k - 1, by omega⟩
    simp only [wire_Put.l0]
    rw [if_neg (by omega)]
    simp [be, ints]
  | succ d ih =>
    intro k acc i hd hi hk hl
    obtain ⟨k, rfl⟩ : ∃ j, k = j + 1 := ⟨k - 1, by omega⟩
    have e1 : wrap64 (8 * (wrap64 ((wrap64 ((m : Int) - 1)) - (i : Int)))) = ((8 * d : Nat) : Int) := by
      rw [wrap_in (x := (m : Int) - 1) (by omega) (by omega), wrap_in (x := (m : Int) - 1 - i) (by omega) (by omega), wrap_in (by omega) (by omega)]
      omega
    have e2 : shr .u64 (n : Int) ((8 * d : Nat) : Int) % 256 = ((n / 256 ^ d % 256 : Nat) : Int) := by
      unfold shr
      rw [Int.toNat_natCast, Nat.min_eq_left (by show 8 * d ≤ 64; omega), p8]
      simp
    simp only [wire_Put.l0]
    rw [if_pos (by omega), e1, if_pos (by omega), if_pos (by omega), e2, wrap_in (x := (i : Int) + 1) (by omega) (by omega), show (i : Int) + 1 = ((i + 1 : Nat) : Int) by omega,
      ih k (acc ++ [((n / 256 ^ d % 256 : Nat) : Int)]) (i + 1) (by omega) (by omega) (by omega) (by simp; omega), be_cons]
    simp [ints]
theorem map_toNat (l : List Nat) : (ints l).map Int.toNat = l := by
  simp [ints, List.map_map, Function.comp_def]
theorem bl_of (l : List Nat) (h : Bytes l) : bl (strOfNums (ints l)) = l := by
  rw [bl_nums, map_toNat]
  intro x hx
  obtain ⟨y, hy, rfl⟩ := List.mem_map.1 hx
  have := h y hy
  omega
/-- the string of a number's bytes -/
def putS (n : Nat) : ByteArray := strOfNums (ints (put n))
theorem bl_putS {n : Nat} (h : n < 2 ^ 64) : bl (putS n) = put n := bl_of _ (put_bytes h)
theorem putS_size {n : Nat} (h : n < 2 ^ 64) : (putS n).size = (put n).length := by rw [← bl_length, bl_putS h]
theorem put_eq (k n : Nat) (hk : 10 ≤ k) (hn : n < 2 ^ 64) : wire_Put.f k (n : Int) = some (putS n) := by
  have hn' : n < 18446744073709551616 := hn
  unfold wire_Put.f putS put
  by_cases h : n < 192
  · rw [if_pos (by omega), if_pos h]
    rw [show (n : Int) % 256 = n by omega]
    rfl
  · rw [if_neg (by omega), if_neg h]
    have h8 := blen_8 hn
    have hb := blen_192 hn (by omega)
    have hbd : blen n = (Lib.bitLen n + 7) / 8 := rfl
    unfold bits_Len64.f
    rw [if_pos (by omega), if_pos (by omega), Option.bind_some, Int.toNat_natCast]
    have e1 : wrap64 (Int.tdiv (wrap64 ((wrap64 (((Lib.bitLen n : Nat) : Int) + 8)) - 1)) 8) = (blen n : Int) := by
      rw [wrap_in (x := ((Lib.bitLen n : Nat) : Int) + 8) (by omega) (by omega), wrap_in (x := ((Lib.bitLen n : Nat) : Int) + 8 - 1) (by omega) (by omega), Int.tdiv_eq_ediv_of_nonneg (by omega), wrap_in (by omega) (by omega)]
      omega
    rw [e1]
    have e2 : (wrap64 ((wrap64 (192 + (blen n : Int))) - 1)) % 256 = ((191 + blen n : Nat) : Int) := by
      rw [wrap_in (x := 192 + (blen n : Int)) (by omega) (by omega), wrap_in (by omega) (by omega)]
      omega
    rw [e2]
    have := put_loop n (blen n) h8 (blen n) k [((191 + blen n : Nat) : Int)] 0 (by omega) (by omega) (by omega) (by simp)
    rw [show ((0 : Nat) : Int) = 0 from rfl] at this
    rw [this]
    simp [ints]
theorem size_eq (k n : Nat) (hk : 10 ≤ k) (hn : n < 2 ^ 64) : wire_Size.f k (n : Int) = some ((put n).length : Int) := by
  unfold wire_Size.f
  rw [put_eq k n hk hn, Option.bind_some, putS_size hn]

end Go.Proofs.YtakibnkhfmneiaaDoor.WEq
