/- What crc's printed functions compute, in CMath's words. -/
import Derived.Test.YtjjmgpejlkggoaaDoorCMath
import Derived.Test.YtjjmgpejlkggoaaDoorBMath
import Derived.Test.YtjjmgpejlkggoaaDoorQ1
import Derived.Test.YtjjmgpejlkggoaaDoorQ2
import Derived.Test.YtjjmgpejlkggoaaDoorQ3
namespace Go.Proofs.YtjjmgpejlkggoaaDoor.CEq
open Go.RowKit Go.Proofs.YtjjmgpejlkggoaaDoorW.PrintWords Go.Proofs.YtjjmgpejlkggoaaDoorW.PrintLast Go.Proofs.YtjjmgpejlkggoaaDoorW.PrintMore Go.Proofs.YtjjmgpejlkggoaaDoor.Q HOn CMath BMath

theorem u32_of {a : Int} (h : (Lit.int .u32 a).wf = true) : ∃ n : Nat, a = n ∧ n < 4294967296 := by
  simp [Lit.wf, IntKind.min, IntKind.max, IntKind.signed, IntKind.bits] at h
  exact ⟨a.toNat, by omega, by omega⟩
theorem mn_nat (a b : Nat) : mn (a : Int) (b : Int) = ((min a b : Nat) : Int) := by
  unfold mn
  split <;> omega
theorem cut_size (s : ByteArray) (b : Nat) : (s.extract 0 (min s.size b)).size = min s.size b := by simp
def sum (s : ByteArray) : Nat := on 11994318 s.data.toList
theorem sum_lt (s : ByteArray) : sum s < 16777216 := on_lt (by decide) _
def tailB (n : Nat) : ByteArray := strOfNums [((n / 65536 % 256 : Nat) : Int), ((n / 256 % 256 : Nat) : Int), ((n % 256 : Nat) : Int)]
theorem tailB_size (n : Nat) : (tailB n).size = 3 := by unfold tailB; rw [size_nums]; rfl
def sealB (s : ByteArray) : ByteArray := s ++ tailB (sum s)
theorem sealB_size (s : ByteArray) : (sealB s).size = s.size + 3 := by unfold sealB; rw [ByteArray.size_append, tailB_size]
def openB (s : ByteArray) : ByteArray × Nat :=
  if s.size < 3 then (⟨#[]⟩, 2) else if sealB (s.extract 0 (s.size - 3)) = s then (s.extract 0 (s.size - 3), 0) else (⟨#[]⟩, 8)

theorem on_eq (n : Nat) (s : ByteArray) (hn : n < 4294967296) (hs : s.size ≤ 9000000000000000000) : crc_On.f (n : Int) s = some ((on (n % 16777216) s.data.toList : Nat) : Int) := by
  unfold crc_On.f
  rw [if_pos (by omega), if_pos (by omega), if_pos (by omega), Int.toNat_natCast]
theorem of_eq (s : ByteArray) (hs : s.size ≤ 9000000000000000000) : crc_Of.f s = some (sum s : Int) := by
  unfold crc_Of.f
  rw [show (11994318 : Int) = ((11994318 : Nat) : Int) from rfl, on_eq _ s (by decide) hs]
  rfl
theorem seal_eq (s : ByteArray) (hs : s.size ≤ 8000000000000000000) : crc_Seal.f s = some (sealB s) := by
  have h := sum_lt s
  unfold crc_Seal.f
  rw [of_eq s (by omega), Option.bind_some, Option.bind_some, if_pos (by rw [size_nums]; simp; omega)]
  rfl
theorem open_eq (s : ByteArray) (hs : s.size ≤ 8000000000000000000) : crc_Open.f s = some ((openB s).1, ((openB s).2 : Int)) := by
  unfold crc_Open.f openB
  rw [wrap_in (by omega) (by omega)]
  by_cases h : s.size < 3
  · rw [if_pos (by omega), if_pos h]; rfl
  · rw [if_neg (by omega), if_neg h, if_pos (by omega), if_pos (by omega), show ((s.size : Int) - 3).toNat = s.size - 3 by omega, seal_eq _ (by simp; omega), Option.bind_some]
    by_cases hc : sealB (s.extract 0 (s.size - 3)) = s
    · rw [if_pos ((toList_eq _ _).2 hc), if_pos hc]; rfl
    · rw [if_neg (fun hh => hc ((toList_eq _ _).1 hh)), if_neg hc]; rfl

theorem xor_cast (a b : Nat) (ha : a < 4294967296) (hb : b < 4294967296) : Go.bits .xor .u32 (a : Int) (b : Int) = ((a ^^^ b : Nat) : Int) := u32_xor_nat a b ha hb
theorem ref_bits (s : ByteArray) (i : Nat) (d : Nat) : ∀ (k n j : Nat), 8 - j = d → j ≤ 8 → d < k → n < 16777216 →
    clewref03_On.l1 k s (n : Int) (i : Int) (j : Int) = clewref03_On.l0 (k - d - 1) s (steps d n : Nat) (wrap64 ((i : Int) + 1)) := by
  induction d with
  | zero =>
    intro k n j hd hj hk hn
    obtain ⟨k, rfl⟩ : ∃ m, k = m + 1 := ⟨k - 1, by omega⟩
    simp only [clewref03_On.l1]
    rw [if_neg (by omega)]
    rfl
  | succ d ih =>
    intro k n j hd hj hk hn
    obtain ⟨k, rfl⟩ : ∃ m, k = m + 1 := ⟨k - 1, by omega⟩
    have e : ((n : Int) * 2) % 4294967296 = ((n * 2 : Nat) : Int) := by omega
    simp only [clewref03_On.l1]
    rw [if_pos (by omega), e, wrap_in (x := (j : Int) + 1) (by omega) (by omega), show (j : Int) + 1 = ((j + 1 : Nat) : Int) by omega, show k + 1 - (d + 1) - 1 = k - d - 1 by omega, steps]
    by_cases hc : n * 2 ≥ 16777216
    · rw [if_pos (by omega), show (25578747 : Int) = ((25578747 : Nat) : Int) from rfl, xor_cast _ _ (by omega) (by decide), show n * 2 ^^^ 25578747 = CMath.step n by unfold CMath.step; rw [if_pos hc]]
      exact ih k (CMath.step n) (j + 1) (by omega) (by omega) (by omega) (step_lt hn)
    · rw [if_neg (by omega), show n * 2 = CMath.step n by unfold CMath.step; rw [if_neg hc]]
      exact ih k (CMath.step n) (j + 1) (by omega) (by omega) (by omega) (step_lt hn)
theorem ref_loop (s : ByteArray) (hs : s.size ≤ 1000000000) (d : Nat) : ∀ (k n i : Nat), s.size - i = d → i ≤ s.size → d * 10 < k → n < 16777216 →
    clewref03_On.l0 k s (n : Int) (i : Int) = some ((on n (s.data.toList.drop i) : Nat) : Int) := by
  induction d with
  | zero =>
    intro k n i hd hi hk hn
    obtain ⟨k, rfl⟩ : ∃ m, k = m + 1 := ⟨k - 1, by omega⟩
    simp only [clewref03_On.l0]
    rw [if_neg (by omega), List.drop_eq_nil_of_le (by simp; omega)]
    rfl
  | succ d ih =>
    intro k n i hd hi hk hn
    obtain ⟨k, rfl⟩ : ∃ m, k = m + 1 := ⟨k - 1, by omega⟩
    have hl : i < s.data.toList.length := by simp; omega
    have hb : bt s (i : Int) = ((s.data.toList[i]'hl).toNat : Int) := by
      rw [bt_bl, Int.toNat_natCast]
      simp [bl, List.getD_eq_getElem?_getD, List.getElem?_eq_getElem hl]
    have hc : (s.data.toList[i]'hl).toNat < 256 := (s.data.toList[i]'hl).toNat_lt
    have e : (((s.data.toList[i]'hl).toNat : Int) % 4294967296 * 65536) % 4294967296 = (((s.data.toList[i]'hl).toNat * 65536 : Nat) : Int) := by omega
    simp only [clewref03_On.l0]
    rw [if_pos (by omega), if_pos (by omega), hb, e, xor_cast _ _ (by omega) (by omega), show (0 : Int) = ((0 : Nat) : Int) from rfl, ref_bits s i 8 k _ 0 (by omega) (by omega) (by omega) (xor_lt hn (by omega)), wrap_in (x := (i : Int) + 1) (by omega) (by omega), show (i : Int) + 1 = ((i + 1 : Nat) : Int) by omega, ← byte_steps hn hc]
    rw [ih (k - 8 - 1) _ (i + 1) (by omega) (by omega) (by omega) (byte_lt _ _), List.drop_eq_getElem_cons hl, on_cons]
theorem refon_eq (k n : Nat) (s : ByteArray) (hs : s.size ≤ 1000000000) (hk : s.size * 10 < k) : clewref03_On.f k (n : Int) s = some ((on (n % 16777216) s.data.toList : Nat) : Int) := by
  unfold clewref03_On.f
  rw [Int.tmod_eq_emod_of_nonneg (by omega), show (n : Int) % 16777216 = ((n % 16777216 : Nat) : Int) by omega]
  have := ref_loop s hs s.size k (n % 16777216) 0 (by omega) (by omega) hk (by omega)
  rw [List.drop_zero] at this
  exact this
theorem refof_eq (k : Nat) (s : ByteArray) (hs : s.size ≤ 1000000000) (hk : s.size * 10 < k) : clewref03_Of.f k s = some (sum s : Int) := by
  unfold clewref03_Of.f
  rw [show (11994318 : Int) = ((11994318 : Nat) : Int) from rfl, refon_eq k _ s hs hk]
  rfl
theorem refseal_eq (k : Nat) (s : ByteArray) (hs : s.size ≤ 1000000000) (hk : s.size * 10 < k) : clewref03_Seal.f k s = some (sealB s) := by
  have h := sum_lt s
  unfold clewref03_Seal.f
  have e1 : (Int.tdiv (sum s : Int) 65536) % 4294967296 % 256 = ((sum s / 65536 % 256 : Nat) : Int) := by rw [Int.tdiv_eq_ediv_of_nonneg (by omega)]; omega
  have e2 : (Int.tdiv (sum s : Int) 256) % 4294967296 % 256 = ((sum s / 256 % 256 : Nat) : Int) := by rw [Int.tdiv_eq_ediv_of_nonneg (by omega)]; omega
  have e3 : (Int.tmod (sum s : Int) 256) % 256 = ((sum s % 256 : Nat) : Int) := by rw [Int.tmod_eq_emod_of_nonneg (by omega)]; omega
  rw [refof_eq k s hs hk, Option.bind_some, Option.bind_some, e1, e2, e3, if_pos (by rw [size_nums]; simp; omega)]
  rfl
theorem refopen_eq (k : Nat) (s : ByteArray) (hs : s.size ≤ 1000000000) (hk : s.size * 10 < k) : clewref03_Open.f k s = some ((openB s).1, ((openB s).2 : Int)) := by
  unfold clewref03_Open.f openB
  by_cases h : s.size < 3
  · rw [if_pos (by omega), if_pos h]; rfl
  · rw [if_neg (by omega), if_neg h, wrap_in (by omega) (by omega), if_pos (by omega), if_pos (by omega), show ((s.size : Int) - 3).toNat = s.size - 3 by omega, refseal_eq k _ (by simp; omega) (by simp; omega), Option.bind_some]
    by_cases hc : sealB (s.extract 0 (s.size - 3)) = s
    · rw [if_pos ((toList_eq _ _).2 hc), if_pos hc]; rfl
    · rw [if_neg (fun hh => hc ((toList_eq _ _).1 hh)), if_neg hc]; rfl

theorem tail_data (n : Nat) (hn : n < 16777216) : (tailB n).data.toList = [UInt8.ofNat (n / 65536), UInt8.ofNat (n / 256 % 256), UInt8.ofNat (n % 256)] := by
  unfold tailB strOfNums
  simp only [List.map_cons, List.map_nil, Int.toNat_natCast]
  rw [show n / 65536 % 256 = n / 65536 by omega]
theorem seal_data (s : ByteArray) : (sealB s).data.toList = s.data.toList ++ (tailB (sum s)).data.toList := by
  unfold sealB
  simp
/-- the sum of what is sealed is 0 -/
theorem sum_seal (s : ByteArray) : sum (sealB s) = 0 := by
  have h := sum_lt s
  have e : ∀ m, m < 256 → (UInt8.ofNat m).toNat = m := fun m hm => by simp; omega
  show on 11994318 (sealB s).data.toList = 0
  rw [seal_data, on_append, tail_data _ h, on_cons, on_cons, on_cons, e _ (by omega), e _ (by omega), e _ (by omega)]
  exact own_bytes h
theorem extract_seal (s : ByteArray) : (sealB s).extract 0 s.size = s := by
  apply bl_inj
  rw [bl_extract_to]
  unfold sealB
  rw [bl_append, List.take_append_of_le_length (by rw [bl_length]; omega), List.take_of_length_le (by rw [bl_length]; omega)]
/-- what is sealed is opened -/
theorem open_seal (s : ByteArray) : openB (sealB s) = (s, 0) := by
  unfold openB
  rw [sealB_size, if_neg (by omega), Nat.add_sub_cancel, extract_seal, if_pos rfl]
theorem open_zero {s : ByteArray} (h : (openB s).2 = 0) : sealB (openB s).1 = s ∧ (openB s).1.size + 3 = s.size ∧ sum s = 0 := by
  unfold openB at h ⊢
  by_cases h1 : s.size < 3
  · rw [if_pos h1] at h; simp at h
  rw [if_neg h1] at h ⊢
  by_cases h2 : sealB (s.extract 0 (s.size - 3)) = s
  · rw [if_pos h2]
    refine ⟨h2, by simp; omega, ?_⟩
    rw [← h2]
    exact sum_seal _
  · rw [if_neg h2] at h; simp at h
/-- what has the sum 0 is sealed -/
theorem zero_open {s : ByteArray} (h3 : 3 ≤ s.size) (h : sum s = 0) : (openB s).2 = 0 := by
  unfold openB
  rw [if_neg (by omega)]
  obtain ⟨t, ht⟩ : ∃ t, s.extract 0 (s.size - 3) = t := ⟨_, rfl⟩
  rw [ht]
  have hts : t.data.toList = s.data.toList.take (s.size - 3) := by rw [← ht, Lib.extract_data]; simp
  suffices hh : sealB t = s by rw [if_pos hh]
  have hl : (s.data.toList.drop (s.size - 3)).length = 3 := by simp; omega
  have hsp : s.data.toList = t.data.toList ++ s.data.toList.drop (s.size - 3) := by rw [hts, List.take_append_drop]
  match hd : s.data.toList.drop (s.size - 3), hl with
  | [a, b, c], _ =>
    rw [hd] at hsp
    have hn := sum_lt t
    have e : ∀ m, m < 256 → (UInt8.ofNat m).toNat = m := fun m hm => by simp; omega
    have z1 : on (sum t) [a, b, c] = 0 := by
      rw [← h]
      show _ = on 11994318 s.data.toList
      rw [hsp, on_append]
      rfl
    have z2 : on (sum t) [UInt8.ofNat (sum t / 65536), UInt8.ofNat (sum t / 256 % 256), UInt8.ofNat (sum t % 256)] = 0 := by
      rw [on_cons, on_cons, on_cons, e _ (by omega), e _ (by omega), e _ (by omega)]
      exact own_bytes hn
    have hu := three_bytes hn a b c _ _ _ (z1.trans z2.symm)
    have hf : (sealB t).data.toList = s.data.toList := by rw [seal_data, tail_data _ hn, hsp, hu.1, hu.2.1, hu.2.2]
    cases hx : sealB t
    cases s
    rw [hx] at hf
    congr 1
    exact Array.toList_inj.1 hf
end Go.Proofs.YtjjmgpejlkggoaaDoor.CEq
