import Derived.Test.YtakibnkhfmneiaaDoorZ0
import Derived.Test.YtakibnkhfmneiaaDoorQ5
import Derived.Test.YtakibnkhfmneiaaDoorQ11
import Derived.Test.YtakibnkhfmneiaaDoorQ13
import Derived.Test.YtakibnkhfmneiaaDoorWEq
import Derived.Test.YtakibnkhfmneiaaDoorQ16
import Derived.Test.YtakibnkhfmneiaaDoorQ4
import Derived.Test.YtakibnkhfmneiaaDoorQ17
import Derived.Lib.ItoaMem
import Derived.Test.YtakibnkhfmneiaaDoorQ9
import Derived.Test.YtakibnkhfmneiaaDoorQ7
import Derived.Test.YtakibnkhfmneiaaDoorQ12
import Derived.Test.YtakibnkhfmneiaaDoorQ15
import Derived.Test.YtakibnkhfmneiaaDoorWRef
import Derived.Test.YtakibnkhfmneiaaDoorQ18
section
/- What crc's printed functions compute, in CMath's words. -/
namespace Go.Proofs.YtakibnkhfmneiaaDoor.CEq
open Go.RowKit Go.Proofs.YtakibnkhfmneiaaDoorW.PrintWords Go.Proofs.YtakibnkhfmneiaaDoorW.PrintLast Go.Proofs.YtakibnkhfmneiaaDoorW.PrintMore Go.Proofs.YtakibnkhfmneiaaDoor.Q HOn CMath BMath

theorem u32_of {a : Int} (h : (Lit.int .u32 a).wf = true) : ∃ n : Nat, a = n ∧ n < 4294967296 := by
  simp [Lit.wf, IntKind.min, IntKind.max, IntKind.signed, IntKind.bits] at h
  exact ⟨a.toNat, by omega, by omega⟩
theorem mn_nat (a b : Nat) : mn (a : Int) (b : Int) = ((min a b : Nat) : Int) := by
  unfold mn
  split <;> omega
theorem cut_size (s : ByteArray) (b : Nat) : (s.extract 0 (min s.size b)).size = min s.size b := by simp
def sum (s : ByteArray) : Nat := on 11994318 s.data.toList
theorem sum_lt (s : ByteArray) : sum s < 16777216 := on_lt (by decide) _
def tailB (n : Nat) : ByteArray := strOfNums [((n / 65536 % 256 : Nat) : Int), ((n / 256 % 256 : Nat) : Int), ((n % 256 : Nat) : Int)]
theorem tailB_size (n : Nat) : (tailB n).size = 3 := by unfold tailB; rw [size_nums]; rfl
def sealB (s : ByteArray) : ByteArray := s ++ tailB (sum s)
theorem sealB_size (s : ByteArray) : (sealB s).size = s.size + 3 := by unfold sealB; rw [ByteArray.size_append, tailB_size]
def openB (s : ByteArray) : ByteArray × Nat :=
  if s.size < 3 then (⟨#[]⟩, 2) else if sealB (s.extract 0 (s.size - 3)) = s then (s.extract 0 (s.size - 3), 0) else (⟨#[]⟩, 8)

theorem on_eq (n : Nat) (s : ByteArray) (hn : n < 4294967296) (hs : s.size ≤ 9000000000000000000) : crc_On.f (n : Int) s = some ((on (n % 16777216) s.data.toList : Nat) : Int) := by
  unfold crc_On.f
  rw [if_pos (by omega), if_pos (by omega), if_pos (by omega), Int.toNat_natCast]
theorem of_eq (s : ByteArray) (hs : s.size ≤ 9000000000000000000) : crc_Of.f s = some (sum s : Int) := by
  unfold crc_Of.f
  rw [show (11994318 : Int) = ((11994318 : Nat) : Int) from rfl, on_eq _ s (by decide) hs]
  rfl
theorem seal_eq (s : ByteArray) (hs : s.size ≤ 8000000000000000000) : crc_Seal.f s = some (sealB s) := by
  have h := sum_lt s
  unfold crc_Seal.f
  rw [of_eq s (by omega), Option.bind_some, Option.bind_some, if_pos (by rw [size_nums]; simp; omega)]
  rfl
theorem open_eq (s : ByteArray) (hs : s.size ≤ 8000000000000000000) : crc_Open.f s = some ((openB s).1, ((openB s).2 : Int)) := by
  unfold crc_Open.f openB
  rw [wrap_in (by omega) (by omega)]
  by_cases h : s.size < 3
  · rw [if_pos (by omega), if_pos h]; rfl
  · rw [if_neg (by omega), if_neg h, if_pos (by omega), if_pos (by omega), show ((s.size : Int) - 3).toNat = s.size - 3 by omega, seal_eq _ (by simp; omega), Option.bind_some]
    by_cases hc : sealB (s.extract 0 (s.size - 3)) = s
    · rw [if_pos ((toList_eq _ _).2 hc), if_pos hc]; rfl
    · rw [if_neg (fun hh => hc ((toList_eq _ _).1 hh)), if_neg hc]; rfl

theorem xor_cast (a b : Nat) (ha : a < 4294967296) (hb : b < 4294967296) : Go.bits .xor .u32 (a : Int) (b : Int) = ((a ^^^ b : Nat) : Int) := u32_xor_nat a b ha hb
theorem ref_bits (s : ByteArray) (i : Nat) (d : Nat) : ∀ (k n j : Nat), 8 - j = d → j ≤ 8 → d < k → n < 16777216 →
    clewref03_On.l1 k s (n : Int) (i : Int) (j : Int) = clewref03_On.l0 (k - d - 1) s (steps d n : Nat) (wrap64 ((i : Int) + 1)) := by
  induction d with
  | zero =>
    intro k n j hd hj hk hn
    obtain ⟨k, rfl⟩ : ∃ m, k = m + 1 := ⟨k - 1, by omega⟩
    simp only [clewref03_On.l1]
    rw [if_neg (by omega)]
    rfl
  | succ d ih =>
    intro k n j hd hj hk hn
    obtain ⟨k, rfl⟩ : ∃ m, k = m + 1 := ⟨k - 1, by omega⟩
    have e : ((n : Int) * 2) % 4294967296 = ((n * 2 : Nat) : Int) := by omega
    simp only [clewref03_On.l1]
    rw [if_pos (by omega), e, wrap_in (x := (j : Int) + 1) (by omega) (by omega), show (j : Int) + 1 = ((j + 1 : Nat) : Int) by omega, show k + 1 - (d + 1) - 1 = k - d - 1 by omega, steps]
    by_cases hc : n * 2 ≥ 16777216
    · rw [if_pos (by omega), show (25578747 : Int) = ((25578747 : Nat) : Int) from rfl, xor_cast _ _ (by omega) (by decide), show n * 2 ^^^ 25578747 = CMath.step n by unfold CMath.step; rw [if_pos hc]]
      exact ih k (CMath.step n) (j + 1) (by omega) (by omega) (by omega) (step_lt hn)
    · rw [if_neg (by omega), show n * 2 = CMath.step n by unfold CMath.step; rw [if_neg hc]]
      exact ih k (CMath.step n) (j + 1) (by omega) (by omega) (by omega) (step_lt hn)
theorem ref_loop (s : ByteArray) (hs : s.size ≤ 1000000000) (d : Nat) : ∀ (k n i : Nat), s.size - i = d → i ≤ s.size → d * 10 < k → n < 16777216 →
    clewref03_On.l0 k s (n : Int) (i : Int) = some ((on n (s.data.toList.drop i) : Nat) : Int) := by
  induction d with
  | zero =>
    intro k n i hd hi hk hn
    obtain ⟨k, rfl⟩ : ∃ m, k = m + 1 := ⟨k - 1, by omega⟩
    simp only [clewref03_On.l0]
    rw [if_neg (by omega), List.drop_eq_nil_of_le (by simp; omega)]
    rfl
  | succ d ih =>
    intro k n i hd hi hk hn
    obtain ⟨k, rfl⟩ : ∃ m, k = m + 1 := ⟨k - 1, by omega⟩
    have hl : i < s.data.toList.length := by simp; omega
    have hb : bt s (i : Int) = ((s.data.toList[i]'hl).toNat : Int) := by
      rw [bt_bl, Int.toNat_natCast]
      simp [bl, List.getD_eq_getElem?_getD, List.getElem?_eq_getElem hl]
    have hc : (s.data.toList[i]'hl).toNat < 256 := (s.data.toList[i]'hl).toNat_lt
    have e : (((s.data.toList[i]'hl).toNat : Int) % 4294967296 * 65536) % 4294967296 = (((s.data.toList[i]'hl).toNat * 65536 : Nat) : Int) := by omega
    simp only [clewref03_On.l0]
    rw [if_pos (by omega), if_pos (by omega), hb, e, xor_cast _ _ (by omega) (by omega), show (0 : Int) = ((0 : Nat) : Int) from rfl, ref_bits s i 8 k _ 0 (by omega) (by omega) (by omega) (xor_lt hn (by omega)), wrap_in (x := (i : Int) + 1) (by omega) (by omega), show (i : Int) + 1 = ((i + 1 : Nat) : Int) by omega, ← byte_steps hn hc]
    rw [ih (k - 8 - 1) _ (i + 1) (by omega) (by omega) (by omega) (byte_lt _ _), List.drop_eq_getElem_cons hl, on_cons]
theorem refon_eq (k n : Nat) (s : ByteArray) (hs : s.size ≤ 1000000000) (hk : s.size * 10 < k) : clewref03_On.f k (n : Int) s = some ((on (n % 16777216) s.data.toList : Nat) : Int) := by
  unfold clewref03_On.f
  rw [Int.tmod_eq_emod_of_nonneg (by omega), show (n : Int) % 16777216 = ((n % 16777216 : Nat) : Int) by omega]
  have := ref_loop s hs s.size k (n % 16777216) 0 (by omega) (by omega) hk (by omega)
  rw [List.drop_zero] at this
  exact this
theorem refof_eq (k : Nat) (s : ByteArray) (hs : s.size ≤ 1000000000) (hk : s.size * 10 < k) : clewref03_Of.f k s = some (sum s : Int) := by
  unfold clewref03_Of.f
  rw [show (11994318 : Int) = ((11994318 : Nat) : Int) from rfl, refon_eq k _ s hs hk]
  rfl
theorem refseal_eq (k : Nat) (s : ByteArray) (hs : s.size ≤ 1000000000) (hk : s.size * 10 < k) : clewref03_Seal.f k s = some (sealB s) := by
  have h := sum_lt s
  unfold clewref03_Seal.f
  have e1 : (Int.tdiv (sum s : Int) 65536) % 4294967296 % 256 = ((sum s / 65536 % 256 : Nat) : Int) := by rw [Int.tdiv_eq_ediv_of_nonneg (by omega)]; omega
  have e2 : (Int.tdiv (sum s : Int) 256) % 4294967296 % 256 = ((sum s / 256 % 256 : Nat) : Int) := by rw [Int.tdiv_eq_ediv_of_nonneg (by omega)]; omega
  have e3 : (Int.tmod (sum s : Int) 256) % 256 = ((sum s % 256 : Nat) : Int) := by rw [Int.tmod_eq_emod_of_nonneg (by omega)]; omega
  rw [refof_eq k s hs hk, Option.bind_some, Option.bind_some, e1, e2, e3, if_pos (by rw [size_nums]; simp; omega)]
  rfl
theorem refopen_eq (k : Nat) (s : ByteArray) (hs : s.size ≤ 1000000000) (hk : s.size * 10 < k) : clewref03_Open.f k s = some ((openB s).1, ((openB s).2 : Int)) := by
  unfold clewref03_Open.f openB
  by_cases h : s.size < 3
  · rw [if_pos (by omega), if_pos h]; rfl
  · rw [if_neg (by omega), if_neg h, wrap_in (by omega) (by omega), if_pos (by omega), if_pos (by omega), show ((s.size : Int) - 3).toNat = s.size - 3 by omega, refseal_eq k _ (by simp; omega) (by simp; omega), Option.bind_some]
    by_cases hc : sealB (s.extract 0 (s.size - 3)) = s
    · rw [if_pos ((toList_eq _ _).2 hc), if_pos hc]; rfl
    · rw [if_neg (fun hh => hc ((toList_eq _ _).1 hh)), if_neg hc]; rfl

theorem tail_data (n : Nat) (hn : n < 16777216) : (tailB n).data.toList = [UInt8.ofNat (n / 65536), UInt8.ofNat (n / 256 % 256), UInt8.ofNat (n % 256)] := by
  unfold tailB strOfNums
  simp only [List.map_cons, List.map_nil, Int.toNat_natCast]
  rw [show n / 65536 % 256 = n / 65536 by omega]
theorem seal_data (s : ByteArray) : (sealB s).data.toList = s.data.toList ++ (tailB (sum s)).data.toList := by
  unfold sealB
  simp
/-- the sum of what is sealed is 0 -/
theorem sum_seal (s : ByteArray) : sum (sealB s) = 0 := by
  have h := sum_lt s
  have e : ∀ m, m < 256 → (UInt8.ofNat m).toNat = m := fun m hm => by simp; omega
  show on 11994318 (sealB s).data.toList = 0
  rw [seal_data, on_append, tail_data _ h, on_cons, on_cons, on_cons, e _ (by omega), e _ (by omega), e _ (by omega)]
  exact own_bytes h
theorem extract_seal (s : ByteArray) : (sealB s).extract 0 s.size = s := by
  apply bl_inj
  rw [bl_extract_to]
  unfold sealB
  rw [bl_append, List.take_append_of_le_length (by rw [bl_length]; omega), List.take_of_length_le (by rw [bl_length]; omega)]
/-- what is sealed is opened -/
theorem open_seal (s : ByteArray) : openB (sealB s) = (s, 0) := by
  unfold openB
  rw [sealB_size, if_neg (by omega), Nat.add_sub_cancel, extract_seal, if_pos rfl]
theorem open_zero {s : ByteArray} (h : (openB s).2 = 0) : sealB (openB s).1 = s ∧ (openB s).1.size + 3 = s.size ∧ sum s = 0 := by
  unfold openB at h ⊢
  by_cases h1 : s.size < 3
  · rw [if_pos h1] at h; simp at h
  rw [if_neg h1] at h ⊢
  by_cases h2 : sealB (s.extract 0 (s.size - 3)) = s
  · rw [if_pos h2]
    refine ⟨h2, by simp; omega, ?_⟩
    rw [← h2]
    exact sum_seal _
  · rw [if_neg h2] at h; simp at h
/-- what has the sum 0 is sealed -/
theorem zero_open {s : ByteArray} (h3 : 3 ≤ s.size) (h : sum s = 0) : (openB s).2 = 0 := by
  unfold openB
  rw [if_neg (by omega)]
  obtain ⟨t, ht⟩ : ∃ t, s.extract 0 (s.size - 3) = t := ⟨_, rfl⟩
  rw [ht]
  have hts : t.data.toList = s.data.toList.take (s.size - 3) := by rw [← ht, Lib.extract_data]; simp
  suffices hh : sealB t = s by rw [if_pos hh]
  have hl : (s.data.toList.drop (s.size - 3)).length = 3 := by simp; omega
  have hsp : s.data.toList = t.data.toList ++ s.data.toList.drop (s.size - 3) := by rw [hts, List.take_append_drop]
  match hd : s.data.toList.drop (s.size - 3), hl with
  | [a, b, c], _ =>
    rw [hd] at hsp
    have hn := sum_lt t
    have e : ∀ m, m < 256 → (UInt8.ofNat m).toNat = m := fun m hm => by simp; omega
    have z1 : on (sum t) [a, b, c] = 0 := by
      rw [← h]
      show _ = on 11994318 s.data.toList
      rw [hsp, on_append]
      rfl
    have z2 : on (sum t) [UInt8.ofNat (sum t / 65536), UInt8.ofNat (sum t / 256 % 256), UInt8.ofNat (sum t % 256)] = 0 := by
      rw [on_cons, on_cons, on_cons, e _ (by omega), e _ (by omega), e _ (by omega)]
      exact own_bytes hn
    have hu := three_bytes hn a b c _ _ _ (z1.trans z2.symm)
    have hf : (sealB t).data.toList = s.data.toList := by rw [seal_data, tail_data _ hn, hsp, hu.1, hu.2.1, hu.2.2]
    cases hx : sealB t
    cases s
    rw [hx] at hf
    congr 1
    exact Array.toList_inj.1 hf
end Go.Proofs.YtakibnkhfmneiaaDoor.CEq
end
section
/- Certificates as bytes, plain: what they are, and what bytes are. -/
namespace Go.Proofs.YtakibnkhfmneiaaDoor.PSpec
open Go.RowKit WMath BMath CEq WEq HSpec HAppd HAppC
set_option linter.unusedVariables false
def B (l : List Nat) : ByteArray := strOfNums (ints l)
theorem bl_B {l : List Nat} (h : Bytes l) : bl (B l) = l := bl_of l h
theorem B_bl (s : ByteArray) : B (bl s) = s := bl_inj (bl_B (bl_bytes s))
theorem B_putS (n : Nat) : B (put n) = putS n := rfl
theorem B_app {l m : List Nat} (hl : Bytes l) (hm : Bytes m) : B l ++ B m = B (l ++ m) := by
  apply bl_inj
  rw [bl_append, bl_B hl, bl_B hm, bl_B]
  intro x hx
  rcases List.mem_append.1 hx with h | h
  · exact hl x h
  · exact hm x h
theorem B_size {l : List Nat} (h : Bytes l) : (B l).size = l.length := by rw [← bl_length, bl_B h]
def code (t : P) : Nat := (6 * t.2 + t.1).toNat
def tokT (g : Nat) : P := (((g % 6 : Nat) : Int), ((g / 6 : Nat) : Int))
/-- a token of a certificate -/
def Good (t : P) : Prop := 0 ≤ t.1 ∧ t.1 ≤ 5 ∧ 0 ≤ t.2 ∧ t.2 ≤ 715827882
theorem code_good {t : P} (h : Good t) : tokT (code t) = t ∧ code t ≤ 4294967297 := by
  obtain ⟨a, b⟩ := t
  obtain ⟨h0, h1, h2, h3⟩ := h
  unfold tokT code
  simp only [] at *
  constructor
  · congr 1 <;> omega
  · omega
theorem code_tokT (g : Nat) : code (tokT g) = g := by
  unfold code tokT
  simp only []
  omega
theorem good_tokT {g : Nat} (h : g ≤ 4294967296) : Good (tokT g) := by
  unfold Good tokT
  simp only []
  omega
def cat : List P → List Nat
  | [] => []
  | t :: L => put (code t) ++ cat L
theorem cat_append (L M : List P) : cat (L ++ M) = cat L ++ cat M := by
  induction L with
  | nil => rfl
  | cons t L ih => simp only [List.cons_append, cat, ih, List.append_assoc]
def mark : List Nat := [67, 76, 69, 87]
def body (L : List P) : List Nat := mark ++ (put L.length ++ cat L)
theorem cat_bytes {L : List P} (h : ∀ t ∈ L, Good t) : Bytes (cat L) := by
  induction L with
  | nil => intro x hx; cases hx
  | cons t L ih =>
    intro x hx
    rcases List.mem_append.1 hx with hx | hx
    · exact put_bytes (by have := (code_good (h t List.mem_cons_self)).2; omega) x hx
    · exact ih (fun u hu => h u (List.mem_cons_of_mem _ hu)) x hx
theorem body_bytes {L : List P} (h : ∀ t ∈ L, Good t) (hl : L.length ≤ 1048576) : Bytes (body L) := by
  intro x hx
  rcases List.mem_append.1 hx with hx | hx
  · simp [mark] at hx; omega
  · rcases List.mem_append.1 hx with hx | hx
    · exact put_bytes (by omega) x hx
    · exact cat_bytes h x hx
def enc (L : List P) : ByteArray := if right L = true then sealB (B (body L)) else ⟨#[]⟩
/-- so many tokens at the head of bytes -/
def tokN : Nat → List P → List Nat → List P × List Nat × Nat
  | 0, L, r => (L, r, 0)
  | m + 1, L, r =>
    if (getN r).2.2 ≠ 0 then (L, r, (getN r).2.2) else if 4294967296 < (getN r).1 then (L, r, 3)
    else tokN m (L ++ [tokT (getN r).1]) (r.drop (getN r).2.1)
/-- the certificate that bytes without their sum are -/
def dec1 (x : List Nat) : List P × Nat :=
  if x.take 4 ≠ mark then ([], 3) else if (getN (x.drop 4)).2.2 ≠ 0 then ([], (getN (x.drop 4)).2.2) else if 1048576 < (getN (x.drop 4)).1 then ([], 4)
  else if (tokN (getN (x.drop 4)).1 [] ((x.drop 4).drop (getN (x.drop 4)).2.1)).2.2 ≠ 0 then ([], (tokN (getN (x.drop 4)).1 [] ((x.drop 4).drop (getN (x.drop 4)).2.1)).2.2)
  else if (tokN (getN (x.drop 4)).1 [] ((x.drop 4).drop (getN (x.drop 4)).2.1)).2.1 = [] ∧ right (tokN (getN (x.drop 4)).1 [] ((x.drop 4).drop (getN (x.drop 4)).2.1)).1 = true then ((tokN (getN (x.drop 4)).1 [] ((x.drop 4).drop (getN (x.drop 4)).2.1)).1, 0)
  else ([], 3)
def dec (s : ByteArray) : List P × Nat := if (openB s).2 ≠ 0 then ([], (openB s).2) else dec1 (bl (openB s).1)
theorem tokN_cat (L : List P) (h : ∀ t ∈ L, Good t) (h2 : ∀ t ∈ L, code t ≤ 4294967296) : ∀ (A : List P) (r : List Nat), tokN L.length A (cat L ++ r) = (A ++ L, r, 0) := by
  induction L with
  | nil => intro A r; simp [tokN, cat]
  | cons t L ih =>
    intro A r
    have hg := code_good (h t List.mem_cons_self)
    have hc := h2 t List.mem_cons_self
    have hp := getN_put (n := code t) (by omega) (cat L ++ r)
    rw [List.length_cons, cat, List.append_assoc]
    unfold tokN
    rw [hp]
    simp only []
    rw [if_neg (by simp), if_neg (by omega), hg.1, List.drop_left, ih (fun u hu => h u (List.mem_cons_of_mem _ hu)) (fun u hu => h2 u (List.mem_cons_of_mem _ hu))]
    simp
theorem tokN_ok (m : Nat) : ∀ (A L : List P) (r r' : List Nat), Bytes r → tokN m A r = (L, r', 0) → ∃ L0, L = A ++ L0 ∧ L0.length = m ∧ r = cat L0 ++ r' ∧ (∀ t ∈ L0, Good t ∧ code t ≤ 4294967296) := by
  induction m with
  | zero =>
    intro A L r r' hb h
    unfold tokN at h
    simp only [Prod.mk.injEq, and_true] at h
    exact ⟨[], by rw [h.1]; simp, rfl, by rw [h.2]; rfl, fun t ht => by cases ht⟩
  | succ m ih =>
    intro A L r r' hb h
    unfold tokN at h
    by_cases h1 : (getN r).2.2 ≠ 0
    · rw [if_pos h1] at h
      simp only [Prod.mk.injEq] at h
      exact absurd h.2.2 h1
    · rw [if_neg h1] at h
      by_cases h2 : 4294967296 < (getN r).1
      · rw [if_pos h2] at h
        simp at h
      · rw [if_neg h2] at h
        obtain ⟨g1, g2, g3, g4⟩ := put_getN hb (by omega : (getN r).2.2 = 0)
        obtain ⟨L0, e1, e2, e3, e4⟩ := ih _ _ _ _ (fun x hx => hb x (List.mem_of_mem_drop hx)) h
        refine ⟨tokT (getN r).1 :: L0, by rw [e1]; simp, by rw [List.length_cons, e2], ?_, ?_⟩
        · rw [cat, code_tokT, g4, List.append_assoc, ← e3, List.take_append_drop]
        · intro t ht
          rcases List.mem_cons.1 ht with rfl | ht
          · exact ⟨good_tokT (by omega), by rw [code_tokT]; omega⟩
          · exact e4 t ht
theorem put_pos (n : Nat) : 1 ≤ (put n).length := by
  have := put_ne_nil n
  cases h : put n with
  | nil => exact absurd h this
  | cons a l => simp
theorem cat_len (L : List P) : L.length ≤ (cat L).length := by
  induction L with
  | nil => simp [cat]
  | cons t L ih =>
    have := put_pos (code t)
    simp only [cat, List.length_append, List.length_cons]
    omega
/-- what the bytes are, if they are a certificate -/
theorem dec1_ok {x : List Nat} (hb : Bytes x) (h : (dec1 x).2 = 0) : right (dec1 x).1 = true ∧ x = body (dec1 x).1 ∧ (∀ t ∈ (dec1 x).1, Good t ∧ code t ≤ 4294967296) ∧ (dec1 x).1.length ≤ 1048576 := by
  unfold dec1 at h ⊢
  by_cases h1 : x.take 4 ≠ mark
  · rw [if_pos h1] at h; simp at h
  rw [if_neg h1] at h ⊢
  by_cases h2 : (getN (x.drop 4)).2.2 ≠ 0
  · rw [if_pos h2] at h; exact absurd h h2
  rw [if_neg h2] at h ⊢
  by_cases h3 : 1048576 < (getN (x.drop 4)).1
  · rw [if_pos h3] at h; simp at h
  rw [if_neg h3] at h ⊢
  by_cases h4 : (tokN (getN (x.drop 4)).1 [] ((x.drop 4).drop (getN (x.drop 4)).2.1)).2.2 ≠ 0
  · rw [if_pos h4] at h; exact absurd h h4
  rw [if_neg h4] at h ⊢
  by_cases h5 : (tokN (getN (x.drop 4)).1 [] ((x.drop 4).drop (getN (x.drop 4)).2.1)).2.1 = [] ∧ right (tokN (getN (x.drop 4)).1 [] ((x.drop 4).drop (getN (x.drop 4)).2.1)).1 = true
  · rw [if_pos h5]
    simp only []
    have hb4 : Bytes (x.drop 4) := fun y hy => hb y (List.mem_of_mem_drop hy)
    obtain ⟨g1, g2, g3, g4⟩ := put_getN hb4 (by omega : (getN (x.drop 4)).2.2 = 0)
    obtain ⟨L0, e1, e2, e3, e4⟩ := tokN_ok _ [] _ _ _ (fun y hy => hb4 y (List.mem_of_mem_drop hy)) (show tokN (getN (x.drop 4)).1 [] ((x.drop 4).drop (getN (x.drop 4)).2.1) = (_, [], 0) from by
      have e : ∀ q : List P × List Nat × Nat, q.2.1 = [] → q.2.2 = 0 → q = (q.1, [], 0) := fun q a b => by obtain ⟨q1, q2, q3⟩ := q; simp only [] at a b; rw [a, b]
      exact e _ h5.1 (by omega))
    rw [List.nil_append] at e1
    rw [e1]
    refine ⟨by rw [← e1]; exact h5.2, ?_, e4, by omega⟩
    unfold body
    rw [List.append_nil] at e3
    rw [e2, g4, ← e3, List.take_append_drop, ← (Classical.not_not.1 h1), List.take_append_drop]
  · rw [if_neg h5] at h; simp at h
theorem dec1_body {L : List P} (hr : right L = true) (h : ∀ t ∈ L, Good t) (h2 : ∀ t ∈ L, code t ≤ 4294967296) (hl : L.length ≤ 1048576) : dec1 (body L) = (L, 0) := by
  have e1 : (body L).take 4 = mark := rfl
  have e2 : (body L).drop 4 = put L.length ++ cat L := rfl
  have e3 := getN_put (n := L.length) (by omega) (cat L)
  have e4 := tokN_cat L h h2 [] []
  unfold dec1
  rw [e1, e2, e3]
  simp only []
  rw [List.append_nil, List.nil_append] at e4
  rw [if_neg (by simp), if_neg (by simp), if_neg (by omega), List.drop_left, e4]
  simp only []
  rw [if_neg (by simp), if_pos ⟨trivial, hr⟩]
theorem ok_small (L : List P) : ∀ (f : Bool) (m : Int) (last : P), ok L f m last = true → 0 ≤ m → m + L.length ≤ 10001 → ∀ t ∈ L, 0 ≤ t.1 ∧ t.1 ≤ 5 ∧ 0 ≤ t.2 ∧ t.2 ≤ 10001 := by
  induction L with
  | nil => intro f m last _ _ _ t ht; cases ht
  | cons a L ih =>
    intro f m last h h0 h1 t ht
    unfold ok here at h
    rw [Bool.and_eq_true, Bool.and_eq_true] at h
    rw [List.length_cons] at h1
    rcases List.mem_cons.1 ht with rfl | ht
    · have hf := h.1.1
      unfold fitsB at hf
      split at hf
      · have := (skp_iff _).1 hf
        omega
      · split at hf
        · simp at hf
          omega
        · simp at hf
          omega
    · have := mk_le a
      exact ih _ _ _ h.2 (by omega) (by omega) t ht
theorem right_small {L : List P} (h : right L = true) (hl : L.length ≤ 1000) : ∀ t ∈ L, 0 ≤ t.1 ∧ t.1 ≤ 5 ∧ 0 ≤ t.2 ∧ t.2 ≤ 10001 := by
  unfold right at h
  rw [Bool.and_eq_true] at h
  exact ok_small L _ _ _ h.1 (by omega) (by omega)
theorem right_good {L : List P} (h : right L = true) (hl : L.length ≤ 1000) : (∀ t ∈ L, Good t) ∧ (∀ t ∈ L, code t ≤ 4294967296) := by
  have hs := right_small h hl
  refine ⟨fun t ht => ?_, fun t ht => ?_⟩
  · have := hs t ht
    unfold Good
    omega
  · have := hs t ht
    unfold code
    omega
/-- WHAT MAY BE IS ENCODED, AND DECODED AS IT WAS. -/
theorem dec_enc {L : List P} (h : right L = true) (hl : L.length ≤ 1000) : dec (enc L) = (L, 0) := by
  obtain ⟨g1, g2⟩ := right_good h hl
  unfold enc dec
  rw [if_pos h, open_seal]
  simp only []
  rw [if_neg (by simp), bl_B (body_bytes g1 (by omega)), dec1_body h g1 g2 (by omega)]
/-- WHAT IS DECODED MAY BE, AND HAS JUST THESE BYTES. -/
theorem enc_dec {s : ByteArray} (h : (dec s).2 = 0) : right (dec s).1 = true ∧ enc (dec s).1 = s := by
  unfold dec at h ⊢
  by_cases h1 : (openB s).2 ≠ 0
  · rw [if_pos h1] at h; exact absurd h h1
  rw [if_neg h1] at h ⊢
  obtain ⟨e1, e2, e3⟩ := dec1_ok (bl_bytes _) h
  refine ⟨e1, ?_⟩
  unfold enc
  rw [if_pos e1, ← e2, B_bl]
  exact (open_zero (by omega)).1
theorem dec_nil {s : ByteArray} (h : (dec s).2 ≠ 0) : (dec s).1 = [] := by
  unfold dec at h ⊢
  by_cases h1 : (openB s).2 ≠ 0
  · rw [if_pos h1]
  · rw [if_neg h1] at h ⊢
    unfold dec1 at h ⊢
    split
    · rfl
    · rename_i q1
      rw [if_neg q1] at h
      split
      · rfl
      · rename_i q2
        rw [if_neg q2] at h
        split
        · rfl
        · rename_i q3
          rw [if_neg q3] at h
          split
          · rfl
          · rename_i q4
            rw [if_neg q4] at h
            split
            · rename_i q5
              rw [if_pos q5] at h
              exact absurd rfl h
            · rfl
theorem dec_len (s : ByteArray) : (dec s).1.length ≤ s.size := by
  by_cases h : (dec s).2 = 0
  · unfold dec at h ⊢
    by_cases h1 : (openB s).2 ≠ 0
    · rw [if_pos h1]; simp
    · rw [if_neg h1] at h ⊢
      obtain ⟨e1, e2, e3⟩ := dec1_ok (bl_bytes _) h
      have h2 := (open_zero (by omega : (openB s).2 = 0)).2.1
      have h3 := cat_len (dec1 (bl (openB s).1)).1
      have h4 := congrArg List.length e2
      rw [bl_length] at h4
      unfold body at h4
      simp only [List.length_append] at h4
      omega
  · rw [dec_nil h]; simp
theorem enc_empty (L : List P) : enc L = ⟨#[]⟩ ↔ right L = false := by
  unfold enc
  cases h : right L with
  | true =>
    rw [if_pos rfl]
    constructor
    · intro e
      have := congrArg ByteArray.size e
      rw [sealB_size] at this
      have : (⟨#[]⟩ : ByteArray).size = 0 := rfl
      omega
    · intro e; cases e
  | false => rw [if_neg (by decide)]; simp
/-! cut off, or sealed anew -/
/-- no certificate's bytes without their sum begin with those of another one -/
theorem body_prefix {L M : List P} (hL : (∀ t ∈ L, Good t) ∧ ∀ t ∈ L, code t ≤ 4294967296) (hM : (∀ t ∈ M, Good t) ∧ ∀ t ∈ M, code t ≤ 4294967296) (lL : L.length ≤ 1048576) (lM : M.length ≤ 1048576) {r : List Nat} (h : body L = body M ++ r) : r = [] := by
  unfold body at h
  rw [List.append_assoc] at h
  have h1 := List.append_cancel_left h
  rw [List.append_assoc] at h1
  have g1 := getN_put (n := L.length) (by omega) (cat L)
  rw [h1, getN_put (n := M.length) (by omega)] at g1
  simp only [Prod.mk.injEq] at g1
  rw [g1.1] at h1
  have h2 := List.append_cancel_left h1
  have t1 := tokN_cat L hL.1 hL.2 [] []
  rw [List.append_nil, h2, ← g1.1, tokN_cat M hM.1 hM.2] at t1
  simp only [Prod.mk.injEq] at t1
  exact t1.2.1
theorem not_ok_prefix {L : List P} (hr : right L = true) (hl : L.length ≤ 1000) {x r : List Nat} (h : body L = x ++ r) (hne : r ≠ []) : (dec1 x).2 ≠ 0 := by
  intro h0
  obtain ⟨g1, g2⟩ := right_good hr hl
  have hb := body_bytes g1 (by omega)
  obtain ⟨e1, e2, e3, e4⟩ := dec1_ok (x := x) (fun y hy => hb y (by rw [h]; exact List.mem_append_left _ hy)) h0
  rw [e2] at h
  exact hne (body_prefix ⟨g1, g2⟩ ⟨fun t ht => (e3 t ht).1, fun t ht => (e3 t ht).2⟩ (by omega) e4 h)
theorem bl_seal_take {L : List P} (hr : right L = true) (hl : L.length ≤ 1000) {j : Nat} (hj : j ≤ (body L).length) : (bl (enc L)).take j = (body L).take j := by
  obtain ⟨g1, g2⟩ := right_good hr hl
  unfold enc
  rw [if_pos hr]
  unfold sealB
  rw [bl_append, bl_B (body_bytes g1 (by omega)), List.take_append_of_le_length hj]
theorem enc_size {L : List P} (hr : right L = true) (hl : L.length ≤ 1000) : (enc L).size = (body L).length + 3 := by
  obtain ⟨g1, g2⟩ := right_good hr hl
  unfold enc
  rw [if_pos hr, sealB_size, B_size (body_bytes g1 (by omega))]
theorem take_drop_ne {l : List Nat} {j : Nat} (h : j < l.length) : l = l.take j ++ l.drop j ∧ l.drop j ≠ [] := by
  refine ⟨(List.take_append_drop j l).symm, fun e => ?_⟩
  have := congrArg List.length e
  simp at this
  omega
/-- cut off anywhere they are none -/
theorem dec_cut {L : List P} (hr : right L = true) (hl : L.length ≤ 1000) {i : Nat} (hi : i < (enc L).size) : (dec ((enc L).extract 0 i)).2 ≠ 0 := by
  intro h0
  have hs := enc_size hr hl
  unfold dec at h0
  by_cases h1 : (openB ((enc L).extract 0 i)).2 ≠ 0
  · rw [if_pos h1] at h0; exact h1 h0
  rw [if_neg h1] at h0
  obtain ⟨q1, q2, _⟩ := open_zero (by omega : (openB ((enc L).extract 0 i)).2 = 0)
  have q3 : ((enc L).extract 0 i).size = i := by simp; omega
  have q4 : bl (openB ((enc L).extract 0 i)).1 = (body L).take (i - 3) := by
    have e := congrArg bl q1
    have e2 := congrArg (fun l : List Nat => l.take (i - 3)) e
    rw [bl_extract_to, List.take_take, show min (i - 3) i = i - 3 by omega, bl_seal_take hr hl (by omega)] at e2
    rw [← e2]
    unfold sealB
    rw [bl_append, List.take_append_of_le_length (by rw [bl_length]; omega), List.take_of_length_le (by rw [bl_length]; omega)]
  rw [q4] at h0
  obtain ⟨p1, p2⟩ := take_drop_ne (l := body L) (j := i - 3) (by omega)
  exact not_ok_prefix hr hl p1 p2 h0
/-- .. nor where what is left is sealed anew -/
theorem dec_reseal {L : List P} (hr : right L = true) (hl : L.length ≤ 1000) {j : Nat} (hj : j < (body L).length) : (dec (sealB ((enc L).extract 0 j))).2 ≠ 0 := by
  unfold dec
  rw [open_seal]
  simp only []
  rw [if_neg (by simp), bl_extract_to, bl_seal_take hr hl (by omega)]
  obtain ⟨p1, p2⟩ := take_drop_ne (l := body L) (j := j) (by omega)
  exact not_ok_prefix hr hl p1 p2
theorem dec_spoilt {s : ByteArray} (h3 : 3 ≤ s.size) (h : sum s ≠ 0) : dec s = ([], 8) := by
  have h0 : (openB s).2 ≠ 0 := fun e => h (open_zero e).2.2
  unfold dec
  rw [if_pos h0]
  unfold openB at h0 ⊢
  rw [if_neg (by omega)] at h0 ⊢
  split
  · rename_i q; rw [if_pos q] at h0; exact absurd rfl h0
  · rfl
theorem sum_enc {L : List P} (hr : right L = true) : sum (enc L) = 0 := by
  unfold enc
  rw [if_pos hr]
  exact sum_seal _
end Go.Proofs.YtakibnkhfmneiaaDoor.PSpec
end
section
/- What the program's functions over tokens answer: their contracts in the words of HSpec. -/
namespace Go.Proofs.YtakibnkhfmneiaaDoor.HCon
open Go.RowKit HAppd HAppC HShow HSpec Q Go.Proofs.YtakibnkhfmneiaaDoorW.PrintWords Go.Proofs.YtakibnkhfmneiaaDoorW.PrintLast Go.Proofs.YtakibnkhfmneiaaDoorW.PrintMore
set_option linter.unusedVariables false
set_option linter.unusedSimpArgs false
def T (L : List P) : List S43 := L.map fun p => ⟨p.1, p.2⟩
def U (L : List P) : List S52 := L.map fun p => ⟨p.1, p.2⟩
theorem T_len (L : List P) : (T L).length = L.length := List.length_map _
theorem U_len (L : List P) : (U L).length = L.length := List.length_map _
theorem rdT {L A B : List P} {t : P} (h : L = A ++ t :: B) : rd_T43 (T L) (A.length : Int) = ⟨t.1, t.2⟩ := by
  subst h
  unfold rd_T43 T
  rw [Int.toNat_natCast, List.getD_eq_getElem?_getD, List.getElem?_map, List.getElem?_append_right (Nat.le_refl _), Nat.sub_self]
  rfl
theorem rdU {L A B : List P} {t : P} (h : L = A ++ t :: B) : rd_T52 (U L) (A.length : Int) = ⟨t.1, t.2⟩ := by
  subst h
  unfold rd_T52 U
  rw [Int.toNat_natCast, List.getD_eq_getElem?_getD, List.getElem?_map, List.getElem?_append_right (Nat.le_refl _), Nat.sub_self]
  rfl
theorem skips_f (n : Int) : cert_skips.f n = some (skp n) := by
  unfold cert_skips.f skp
  by_cases h : n ≥ 1
  · rw [if_pos h, decide_eq_true (show 1 ≤ n from h), Bool.true_and]
  · rw [if_neg h, decide_eq_false (show ¬ 1 ≤ n from h), Bool.false_and]
theorem fits_f (a b m : Int) : cert_Token_fits.f a b m = some (fitsB (a, b) m) := by
  unfold cert_Token_fits.f fitsB
  simp only []
  by_cases h : a = 0
  · rw [if_pos h, if_pos h, skips_f]; rfl
  · rw [if_neg h, if_neg h]
    by_cases h5 : a = 5
    · rw [if_pos h5, if_pos h5]
      by_cases h6 : b ≥ 0
      · rw [if_pos h6, decide_eq_true h6, Bool.true_and]
      · rw [if_neg h6, decide_eq_false h6, Bool.false_and]
    · rw [if_neg h5, if_neg h5]
      by_cases h6 : a > 0
      · rw [if_pos h6, decide_eq_true h6, Bool.true_and]
        by_cases h7 : a < 6
        · rw [if_pos h7, decide_eq_true h7, Bool.true_and]
        · rw [if_neg h7, decide_eq_false h7, Bool.false_and]
      · rw [if_neg h6, decide_eq_false h6, Bool.false_and]
theorem fol_f (a b : P) : cert_follows.f a.1 a.2 b.1 b.2 = some (folB a b) := by
  unfold cert_follows.f folB
  by_cases h : a.1 = 0
  · rw [if_pos h, if_pos h]
  · rw [if_neg h, if_neg h]
    by_cases h4 : a.1 = 4
    · rw [if_pos h4, if_pos h4]
      by_cases h2 : b.1 = 2
      · rw [if_pos h2, h2]; rfl
      · rw [if_neg h2, show (b.1 == 2) = false by simpa using h2, Bool.false_or]
    · rw [if_neg h4, if_neg h4]
theorem wr {n : Nat} (h : n ≤ 1000) : wrap64 ((n : Int) + 1) = ((n + 1 : Nat) : Int) := by unfold wrap64; omega
theorem right_l0 (L : List P) (hL : L.length ≤ 1000) : ∀ (B A : List P) (k : Nat) (m : Int) (last : P), L = A ++ B → 2 * B.length < k → 0 ≤ m → m ≤ A.length →
    cert_Right.l0 k (T L) m (T L) (L.length : Int) (A.length : Int) last.1 last.2 = some (ok B A.isEmpty m last && (L.isEmpty || ((B.getLastD last).1 != 4))) := by
  intro B
  induction B with
  | nil =>
    intro A k m last h hk h0 h1
    obtain ⟨k, rfl⟩ : ∃ j, k = j + 1 := ⟨k - 1, by omega⟩
    simp only [cert_Right.l0]
    have hl : L.length = A.length := by rw [h]; simp
    rw [if_neg (by omega)]
    cases L with
    | nil => rfl
    | cons x L => rw [if_neg (by rw [T_len, List.length_cons]; omega)]; simp [ok]
  | cons t B ih =>
    intro A k m last h hk h0 h1
    rw [List.length_cons] at hk
    obtain ⟨k, rfl⟩ : ∃ j, k = j + 2 := ⟨k - 2, by omega⟩
    have hl : L.length = A.length + (B.length + 1) := by rw [h]; simp
    have hne : L.isEmpty = false := by cases L with
      | nil => simp at hl
      | cons x L => rfl
    have ihn := ih (A ++ [t]) k (m + mk t) t (by rw [h]; simp) (by omega) (by have := mk_le t; omega) (by have := mk_le t; simp; omega)
    rw [show (A ++ [t]).isEmpty = false by cases A <;> rfl, hne, Bool.false_or] at ihn
    rw [hne, Bool.false_or, List.getLastD_cons]
    rw [show (((A ++ [t]).length : Nat) : Int) = ((A.length + 1 : Nat) : Int) by simp, ← wr (by omega)] at ihn
    have j1 : ∀ b : Bool, cert_Right.j1 (k + 1) (T L) m (T L) (L.length : Int) (A.length : Int) b t.1 t.2 = some (!b && (ok B false (m + mk t) t && ((B.getLastD t).1 != 4))) := by
      intro b
      simp only [cert_Right.j1]
      cases b with
      | true => rw [if_pos rfl]; rfl
      | false =>
        rw [if_neg (by decide)]
        by_cases h4 : t.1 = 4
        · rw [if_pos h4]
          rw [show mk t = 1 by unfold mk; rw [if_pos h4]] at ihn ⊢
          rw [show wrap64 (m + 1) = m + 1 by unfold wrap64; omega, ihn]
          rfl
        · rw [if_neg h4]
          rw [show mk t = 0 by unfold mk; rw [if_neg h4], Int.add_zero] at ihn ⊢
          rw [ihn]
          rfl
    simp only [cert_Right.l0]
    rw [if_pos (by omega), if_pos (by omega), if_pos (by rw [T_len]; omega), rdT h]
    simp only []
    rw [fits_f]
    simp only [Option.bind_some]
    unfold ok here
    cases hf : fitsB (t.1, t.2) m with
    | false => rw [if_neg (by decide)]; simp
    | true =>
      rw [if_pos rfl]
      cases A with
      | nil =>
        rw [if_pos (by rfl)]
        by_cases ht : t.1 > 1
        · rw [if_pos ht, j1]; simp [ht]
        · rw [if_neg ht, if_neg (by simp), j1]; simp [ht]
      | cons a A =>
        rw [if_neg (by rw [List.length_cons]; omega), if_pos (by rw [List.length_cons]; omega), fol_f last t]
        simp only [Option.bind_some]
        rw [j1]
        simp [Bool.and_assoc]
theorem right_f (L : List P) (hL : L.length ≤ 1000) : cert_Right.f 2001 (T L) = some (right L) := by
  unfold cert_Right.f
  rw [if_neg (by rw [T_len]; omega), T_len]
  have := right_l0 L hL L [] 2001 0 (4, 0) rfl (by omega) (by omega) (by simp)
  rw [show (0 : Int) = (([] : List P).length : Int) from rfl]
  exact this
theorem U_snoc (A : List P) (t : P) : U (A ++ [t]) = U A ++ [⟨t.1, t.2⟩] := by simp [U]
theorem ref_l0 (L : List P) (hL : L.length ≤ 1000) (most : Nat) : ∀ (B A : List P) (k : Nat), L = A ++ B → B.length < k → A.length ≤ most → clewlaw15_Ref.l0 k (T L) (most : Int) (U A) (A.length : Int) = some (U (L.take most)) := by
  intro B
  induction B with
  | nil =>
    intro A k h hk hm
    obtain ⟨k, rfl⟩ : ∃ j, k = j + 1 := ⟨k - 1, by omega⟩
    rw [List.append_nil] at h
    subst h
    simp only [clewlaw15_Ref.l0]
    rw [if_neg (by rw [T_len]; omega), List.take_of_length_le hm]
  | cons t B ih =>
    intro A k h hk hm
    rw [List.length_cons] at hk
    obtain ⟨k, rfl⟩ : ∃ j, k = j + 1 := ⟨k - 1, by omega⟩
    have hl : L.length = A.length + (B.length + 1) := by rw [h]; simp
    simp only [clewlaw15_Ref.l0]
    rw [if_pos (by rw [T_len]; omega)]
    by_cases hlt : A.length < most
    · rw [if_pos (by omega), if_pos (by omega), if_pos (by rw [U_len]; omega), rdT h]
      simp only []
      rw [← U_snoc, wr (by omega)]
      have := ih (A ++ [t]) k (by rw [h]; simp) (by omega) (by simp; omega)
      rw [show (((A ++ [t]).length : Nat) : Int) = ((A.length + 1 : Nat) : Int) by simp] at this
      exact this
    · obtain rfl : most = A.length := by omega
      rw [if_neg (by omega), h]
      simp
theorem ref_f (L : List P) (hL : L.length ≤ 1000) (most : Nat) : clewlaw15_Ref.f 1001 (T L) (most : Int) = some (U (L.take most)) :=
  ref_l0 L hL most L [] 1001 rfl (by omega) (by simp)
theorem same_l0 (L M : List P) (hL : L.length ≤ 1000) (hLM : L.length = M.length) : ∀ (B D A C : List P) (k : Nat), L = A ++ B → M = C ++ D → A.length = C.length → B.length < k → clewref15_Same.l0 k (U L) (U M) (A.length : Int) = some (decide (B = D)) := by
  intro B
  induction B with
  | nil =>
    intro D A C k h h' hAC hk
    obtain ⟨k, rfl⟩ : ∃ j, k = j + 1 := ⟨k - 1, by omega⟩
    have hl : L.length = A.length := by rw [h]; simp
    have hm : M.length = C.length + D.length := by rw [h']; simp
    obtain rfl : D = [] := List.length_eq_zero_iff.1 (by omega)
    simp only [clewref15_Same.l0]
    rw [if_neg (by rw [U_len]; omega)]
    simp
  | cons t B ih =>
    intro D A C k h h' hAC hk
    rw [List.length_cons] at hk
    obtain ⟨k, rfl⟩ : ∃ j, k = j + 1 := ⟨k - 1, by omega⟩
    have hl : L.length = A.length + (B.length + 1) := by rw [h]; simp
    have hm : M.length = C.length + D.length := by rw [h']; simp
    cases D with
    | nil => simp at hm; omega
    | cons u D =>
      simp only [clewref15_Same.l0]
      have rM := rdU h'
      rw [← hAC] at rM
      rw [if_pos (by rw [U_len]; omega), if_pos (by omega), if_pos (by rw [U_len]; omega), rdU h, rM]
      simp only []
      by_cases e : t = u
      · subst e
        rw [if_neg (by simp), wr (by omega)]
        have := ih D (A ++ [t]) (C ++ [t]) k (by rw [h]; simp) (by rw [h']; simp) (by simp; omega) (by omega)
        rw [show (((A ++ [t]).length : Nat) : Int) = ((A.length + 1 : Nat) : Int) by simp] at this
        rw [this]
        simp
      · rw [if_pos (by
          obtain ⟨a, b⟩ := t
          obtain ⟨c, d⟩ := u
          simp at e ⊢
          by_cases h1 : a = c
          · exact .inr (e h1)
          · exact .inl h1)]
        simp [e]
theorem same_f (L M : List P) (hL : L.length ≤ 1000) (hM : M.length ≤ 1000) : clewref15_Same.f 1001 (U L) (U M) = some (decide (L = M)) := by
  unfold clewref15_Same.f
  rw [U_len, U_len]
  by_cases h : L.length = M.length
  · rw [if_pos (by omega)]
    exact same_l0 L M hL h L M [] [] 1001 rfl rfl rfl (by omega)
  · rw [if_neg (by omega), decide_eq_false (fun e => h (by rw [e]))]
/-! the contracts -/
/-- the tokens L lie at A -/
def Ro (w : World) (A : Option Addr) (L : List P) : Prop := 0 < L.length → ∃ ad, A = some ad ∧ ∀ q p, L[q]? = some p → w.cell? (ad.add (q * 2)) = some (.int .i64 p.1) ∧ w.cell? (ad.add (q * 2 + 1)) = some (.int .i64 p.2)
theorem Ro.below {w w' : World} {A : Option Addr} {L : List P} (h : Ro w A L) (hb : Below w.heap.size w w') : Ro w' A L := fun hl => by
  obtain ⟨ad, e, hc⟩ := h hl
  exact ⟨ad, e, fun q p hq => ⟨CMem.below_of hb (hc q p hq).1, CMem.below_of hb (hc q p hq).2⟩⟩
theorem Ro.take {w : World} {A : Option Addr} {L : List P} (h : Ro w A L) (n : Nat) : Ro w A (L.take n) := fun hl => by
  obtain ⟨ad, e, hc⟩ := h (by rw [List.length_take] at hl; omega)
  refine ⟨ad, e, fun q p hq => hc q p ?_⟩
  rw [List.getElem?_take] at hq
  split at hq
  · exact hq
  · cases hq
theorem Ro.nil (w : World) (A : Option Addr) : Ro w A [] := fun h => absurd h (by simp)
theorem Ro.c24 {w : World} {A : Option Addr} {L : List P} (h : Ro w A L) (hl : L.length ≤ 1000) : Kd.C k43 w A (T L).length (T L) := by
  refine ⟨rfl, by rw [T_len]; omega, fun h0 => ?_⟩
  obtain ⟨ad, e, hc⟩ := h (by rw [T_len] at h0; exact h0)
  refine ⟨ad, e, fun j x hj => ⟨[.int .i64 x.f0, .int .i64 x.f1], rfl, k43_mk _ _, fun i u hi => ?_⟩⟩
  unfold T at hj
  rw [List.getElem?_map, Option.map_eq_some_iff] at hj
  obtain ⟨p, hp, rfl⟩ := hj
  match i, hi with
  | 0, hi => simp at hi; subst hi; exact (hc j p hp).1
  | 1, hi => simp at hi; subst hi; exact (hc j p hp).2
  | i + 2, hi => simp at hi
theorem Ro.c36 {w : World} {A : Option Addr} {L : List P} (h : Ro w A L) (hl : L.length ≤ 1000) : Kd.C k52 w A (U L).length (U L) := by
  refine ⟨rfl, by rw [U_len]; omega, fun h0 => ?_⟩
  obtain ⟨ad, e, hc⟩ := h (by rw [U_len] at h0; exact h0)
  refine ⟨ad, e, fun j x hj => ⟨[.int .i64 x.f0, .int .i64 x.f1], rfl, k52_mk _ _, fun i u hi => ?_⟩⟩
  unfold U at hj
  rw [List.getElem?_map, Option.map_eq_some_iff] at hj
  obtain ⟨p, hp, rfl⟩ := hj
  match i, hi with
  | 0, hi => simp at hi; subst hi; exact (hc j p hp).1
  | 1, hi => simp at hi; subst hi; exact (hc j p hp).2
  | i + 2, hi => simp at hi
theorem Ro.of24 {w : World} {A : Option Addr} {n : Nat} {L : List P} (h : Kd.C k43 w A n (T L)) : Ro w A L := fun hl => by
  obtain ⟨ad, e, hc⟩ := h.2.2 (by rw [← h.1, T_len]; exact hl)
  refine ⟨ad, e, fun q p hq => ?_⟩
  obtain ⟨c, _, hk, hcell⟩ := hc q ⟨p.1, p.2⟩ (by unfold T; rw [List.getElem?_map, hq]; rfl)
  obtain rfl := k43_open hk
  exact ⟨hcell 0 _ rfl, hcell 1 _ rfl⟩
theorem Ro.of36 {w : World} {A : Option Addr} {n : Nat} {L : List P} (h : Kd.C k52 w A n (U L)) : Ro w A L := fun hl => by
  obtain ⟨ad, e, hc⟩ := h.2.2 (by rw [← h.1, U_len]; exact hl)
  refine ⟨ad, e, fun q p hq => ?_⟩
  obtain ⟨c, _, hk, hcell⟩ := hc q ⟨p.1, p.2⟩ (by unfold U; rw [List.getElem?_map, hq]; rfl)
  obtain rfl := k52_open hk
  exact ⟨hcell 0 _ rfl, hcell 1 _ rfl⟩
section
variable {w : World} {A : Option Addr} {L : List P} (h : Ro w A L) {n c : Nat} (hn : L.length = n) (hl : n ≤ 1000) (hc : n ≤ c)
include h hn hl hc
theorem c_right : Calls Tryd.prog 15 #[.slice A n c] w fun e w' => e = .returned (.bool (right L)) ∧ Below w.heap.size w w' := by
  subst hn
  have := cert_Right.calls 2001 A c (T L) (right L) w (h.c24 hl) (by rw [T_len]; exact hc) (right_f L hl)
  rw [T_len] at this
  exact this
theorem c_ref (most : Nat) : Calls Tryd.prog 12 #[.slice A n c, .int .i64 (most : Int)] w fun e w' => (∃ B d, e = .returned (.slice B (L.take most).length d) ∧ (L.take most).length ≤ d ∧ Ro w' B (L.take most)) ∧ Below w.heap.size w w' := by
  subst hn
  have := clewlaw15_Ref.calls 1001 A c (T L) (most : Int) _ w (h.c24 hl) (by rw [T_len]; exact hc) (ref_f L hl most)
  rw [T_len] at this
  refine this.mono ?_
  rintro e w' ⟨v, rfl, hr, hb⟩
  obtain ⟨B, d, rfl, hd⟩ := hr.2.slice_
  obtain ⟨B', d', e', hd', hrd⟩ := hr.2.reads
  obtain ⟨rfl, _, rfl⟩ : B = B' ∧ _ ∧ d = d' := by injection e' with e1 e2 e3; exact ⟨e1, trivial, e3⟩
  rw [U_len] at hd
  refine ⟨⟨B, d, by rw [U_len], hd, Ro.of36 (w := w') (n := (U (L.take most)).length) ?_⟩, hb⟩
  exact ⟨hrd.1, hrd.2.1, fun h0 => by
    obtain ⟨ad, ea, hx⟩ := hrd.2.2 h0
    exact ⟨ad, ea, fun j p hp => by
      obtain ⟨cc, h1, h2, h3⟩ := hx j p hp
      exact ⟨cc, h1, k52.K_of_M h2, h3⟩⟩⟩
theorem c_add (t1 t2 : Int) (h0 : t1 ≠ 0) : Calls Tryd.prog 17 #[.slice A n c, .agg #[.int .i64 t1, .int .i64 t2]] w fun e w' => (∃ B d, e = .returned (.slice B (n + 1) d) ∧ n + 1 ≤ d ∧ Ro w' B (L ++ [(t1, t2)])) ∧ Below w.heap.size w w' := by
  subst hn
  have := add_calls A c L t1 t2 h0 L.length rfl hl w (fun h0 => by
    obtain ⟨ad, e, hx⟩ := h h0
    exact ⟨ad, e, fun j u hj => cl_read hx j u hj⟩)
  refine this.mono ?_
  rintro e w' ⟨⟨v, rfl, ho⟩, hb⟩
  refine ⟨?_, hb⟩
  rcases ho.2 with ⟨q2, q3⟩ | ⟨g, cap, cur, q2, q3, q4, q5, q6, q7, q8⟩
  · omega
  · refine ⟨some ⟨g, 0, none⟩, cap, by rw [q2], q5, fun _ => ⟨_, rfl, fun q p hq => ?_⟩⟩
    obtain ⟨c0, c1⟩ := cl_cells _ q p hq
    have hql : q < L.length + 1 := by have := (List.getElem?_eq_some_iff.1 hq).1; rw [List.length_append] at this; exact this
    subst q2
    have e0 := ho.cellAt (q * 2) (by omega)
    have e1 := ho.cellAt (q * 2 + 1) (by omega)
    rw [c0] at e0
    rw [c1] at e1
    exact ⟨by rw [Go.Lib.add_plain, Nat.zero_add]; exact e0, by rw [Go.Lib.add_plain, Nat.zero_add]; exact e1⟩
end
theorem c_same {w : World} {A B : Option Addr} {L M : List P} (h : Ro w A L) (h' : Ro w B M) {n m c d : Nat} (hn : L.length = n) (hl : n ≤ 1000) (hc : n ≤ c) (hm : M.length = m) (hl' : m ≤ 1000) (hd : m ≤ d) :
    Calls Tryd.prog 13 #[.slice A n c, .slice B m d] w fun e w' => e = .returned (.bool (decide (L = M))) ∧ Below w.heap.size w w' := by
  subst hn
  subst hm
  have := clewref15_Same.calls 1001 A c (U L) B d (U M) (decide (L = M)) w (h.c36 hl) (by rw [U_len]; exact hc) (h'.c36 hl') (by rw [U_len]; exact hd) (same_f L M hl hl')
  rw [U_len, U_len] at this
  exact this.mono fun e w' hx => ⟨hx.1, hx.2.below⟩
end Go.Proofs.YtakibnkhfmneiaaDoor.HCon
end
section
/- What the document's functions over tokens answer: their contracts in the words of HSpec. -/
namespace Go.Proofs.YtakibnkhfmneiaaDoor.HRef
open Go.RowKit HAppd HAppC HShow HSpec HCon Q Go.Proofs.YtakibnkhfmneiaaDoorW.PrintWords Go.Proofs.YtakibnkhfmneiaaDoorW.PrintLast Go.Proofs.YtakibnkhfmneiaaDoorW.PrintMore
set_option linter.unusedVariables false
set_option linter.unusedSimpArgs false
/-- what stands behind t fits it -/
def nxt (t : P) : List P → Bool
  | [] => t.1 != 4
  | u :: _ => folB t u
/-- as the document tells it: each token with the one behind it -/
def rr : List P → Bool → Int → Bool
  | [], _, _ => true
  | t :: B, f, m => fitsB t m && (!(f && decide (t.1 > 1)) && (nxt t B && rr B false (m + mk t)))
theorem rr_next (B : List P) : ∀ (t : P) (m : Int), (nxt t B && rr B false m) = (ok B false m t && ((B.getLastD t).1 != 4)) := by
  induction B with
  | nil => intro t m; simp [nxt, rr, ok]
  | cons u B ih =>
    intro t m
    have h := ih u (m + mk u)
    simp only [rr, ok, here, List.getLastD_cons, Bool.false_and, Bool.not_false, Bool.true_and]
    rw [h]
    show (folB t u && _) = _
    cases fitsB u m <;> cases folB t u <;> simp
theorem rr_right (L : List P) : rr L true 0 = right L := by
  cases L with
  | nil => rfl
  | cons t B =>
    simp only [rr, Bool.true_and]
    rw [rr_next B t]
    unfold right
    simp only [ok, here, List.getLastD_cons, List.isEmpty_cons, Bool.false_or, if_true]
    rw [← Bool.and_assoc, ← Bool.and_assoc]
theorem skipsR_f (n : Int) : clewref15_skips.f n = some (skp n) := by
  unfold clewref15_skips.f skp
  by_cases h : n ≥ 1
  · rw [if_pos h, decide_eq_true (show 1 ≤ n from h), Bool.true_and]
  · rw [if_neg h, decide_eq_false (show ¬ 1 ≤ n from h), Bool.false_and]
theorem right_l0 (L : List P) (hL : L.length ≤ 1000) : ∀ (B A : List P) (k : Nat) (m : Int), L = A ++ B → 5 * B.length < k → 0 ≤ m → m ≤ A.length →
    clewref15_Right.l0 k (U L) m (A.length : Int) = some (rr B A.isEmpty m) := by
  intro B
  induction B with
  | nil =>
    intro A k m h hk h0 h1
    obtain ⟨k, rfl⟩ : ∃ j, k = j + 1 := ⟨k - 1, by omega⟩
    simp only [clewref15_Right.l0]
    have hl : L.length = A.length := by rw [h]; simp
    rw [if_neg (by rw [U_len]; omega)]
    rfl
  | cons t B ih =>
    intro A k m h hk h0 h1
    rw [List.length_cons] at hk
    obtain ⟨k, rfl⟩ : ∃ j, k = j + 5 := ⟨k - 5, by omega⟩
    have hl : L.length = A.length + (B.length + 1) := by rw [h]; simp
    have ihn := ih (A ++ [t]) k (m + mk t) (by rw [h]; simp) (by omega) (by have := mk_le t; omega) (by have := mk_le t; simp; omega)
    rw [show (A ++ [t]).isEmpty = false by cases A <;> rfl, show (((A ++ [t]).length : Nat) : Int) = ((A.length + 1 : Nat) : Int) by simp, ← wr (by omega)] at ihn
    have j4 : ∀ b : Bool, clewref15_Right.j4 (k + 1) (U L) m (A.length : Int) b t.1 t.2 = some (!b && rr B false (m + mk t)) := by
      intro b
      simp only [clewref15_Right.j4]
      cases b with
      | true => rw [if_pos rfl]; rfl
      | false =>
        rw [if_neg (by decide)]
        by_cases h4 : t.1 = 4
        · rw [if_pos h4]
          rw [show mk t = 1 by unfold mk; rw [if_pos h4]] at ihn ⊢
          rw [show wrap64 (m + 1) = m + 1 by unfold wrap64; omega, ihn]
          rfl
        · rw [if_neg h4]
          rw [show mk t = 0 by unfold mk; rw [if_neg h4], Int.add_zero] at ihn ⊢
          rw [ihn]
          rfl
    have hwl : wrap64 ((A.length : Int) + 1) = ((A.length + 1 : Nat) : Int) := wr (by omega)
    have j3 : ∀ b : Bool, clewref15_Right.j3 (k + 2) (U L) m (A.length : Int) b t.1 t.2 = some (!b && ((if t.1 = 4 then nxt t B else true) && rr B false (m + mk t))) := by
      intro b
      simp only [clewref15_Right.j3]
      cases b with
      | true => rw [if_pos rfl]; rfl
      | false =>
        rw [if_neg (by decide)]
        by_cases h4 : t.1 = 4
        · rw [if_pos h4, if_pos h4, hwl]
          cases B with
          | nil =>
            rw [if_pos (by rw [U_len]; simp at hl; omega), j4]
            simp [nxt, h4]
          | cons u B =>
            have hu : L = (A ++ [t]) ++ u :: B := by rw [h]; simp
            have ru := rdU hu
            rw [show (((A ++ [t]).length : Nat) : Int) = ((A.length + 1 : Nat) : Int) by simp] at ru
            rw [if_neg (by rw [U_len]; simp at hl; omega), if_pos (by omega), if_pos (by rw [U_len]; simp at hl; omega), ru]
            simp only []
            by_cases h2 : u.1 = 2
            · rw [if_pos h2, j4]
              simp [nxt, folB, h4, h2]
            · rw [if_neg h2, j4]
              have : (u.1 == 2) = false := by simpa using h2
              simp [nxt, folB, h4, this, bne]
        · rw [if_neg h4, if_neg h4, j4]
          simp
    have j2 : ∀ b : Bool, clewref15_Right.j2 (k + 3) (U L) m (A.length : Int) b t.1 t.2 = some (!b && (nxt t B && rr B false (m + mk t))) := by
      intro b
      simp only [clewref15_Right.j2]
      cases b with
      | true => rw [if_pos rfl]; rfl
      | false =>
        rw [if_neg (by decide)]
        by_cases h0 : t.1 = 0
        · rw [if_pos h0, hwl]
          cases B with
          | nil =>
            rw [if_neg (by rw [U_len]; simp at hl; omega), j3]
            simp [nxt, h0]
          | cons u B =>
            have hu : L = (A ++ [t]) ++ u :: B := by rw [h]; simp
            have ru := rdU hu
            rw [show (((A ++ [t]).length : Nat) : Int) = ((A.length + 1 : Nat) : Int) by simp] at ru
            rw [if_pos (by rw [U_len]; simp at hl; omega), if_pos (by omega), ru, j3]
            simp [nxt, folB, h0, bne]
        · rw [if_neg h0, j3]
          by_cases h4 : t.1 = 4
          · rw [if_pos h4]
          · rw [if_neg h4]
            have : nxt t B = true := by
              cases B with
              | nil => simp [nxt, h4]
              | cons u B => simp [nxt, folB, h0, h4]
            rw [this]
    have j1 : ∀ b : Bool, clewref15_Right.j1 (k + 4) (U L) m (A.length : Int) b t.1 t.2 = some (!b && (!(A.isEmpty && decide (t.1 > 1)) && (nxt t B && rr B false (m + mk t)))) := by
      intro b
      simp only [clewref15_Right.j1]
      cases b with
      | true => rw [if_pos rfl]; rfl
      | false =>
        rw [if_neg (by decide)]
        cases A with
        | nil =>
          rw [if_pos (by rfl), j2]
          simp
        | cons a A =>
          rw [if_neg (by rw [List.length_cons]; omega), j2]
          simp
    simp only [clewref15_Right.l0]
    rw [if_pos (by rw [U_len]; omega), if_pos (by omega), rdU h]
    simp only []
    simp only [rr]
    obtain ⟨t1, t2⟩ := t
    simp only [] at j1 ⊢
    simp only [j1, skipsR_f, Option.bind_some]
    unfold fitsB
    simp only []
    by_cases q1 : t1 < 0
    · rw [if_pos q1, if_neg (by omega), if_neg (by omega)]; simp [q1]; omega
    · rw [if_neg q1]
      by_cases q2 : t1 > 5
      · rw [if_pos q2, if_neg (by omega), if_neg (by omega)]; simp; omega
      · rw [if_neg q2]
        by_cases q3 : t1 = 0
        · rw [if_pos q3, if_pos q3]
          cases hs : skp t2 with
          | true => rw [if_pos rfl, if_neg (by omega), if_neg (by omega)]; rfl
          | false => rw [if_neg (by decide)]; rfl
        · rw [if_neg q3, if_neg q3]
          by_cases q5 : t1 = 5
          · rw [if_pos q5, if_pos q5]
            by_cases q6 : t2 < 0
            · rw [if_pos q6]; simp; omega
            · rw [if_neg q6]
              by_cases q7 : t2 ≥ m
              · rw [if_pos q7]; simp; omega
              · rw [if_neg q7, if_pos (by omega), if_neg (by omega)]
                have : (decide (t2 ≥ 0) && decide (t2 < m)) = true := by simp; omega
                rw [this]
                rfl
          · rw [if_neg q5, if_neg q5, if_pos (by omega), if_pos (by omega)]
            have : (decide (t1 > 0) && (decide (t1 < 6) && (t2 == 0))) = (t2 == 0) := by
              rw [decide_eq_true (show t1 > 0 by omega), decide_eq_true (show t1 < 6 by omega)]; simp
            rw [this]
            simp [bne]
theorem right_f (L : List P) (hL : L.length ≤ 1000) : clewref15_Right.f 5001 (U L) = some (right L) := by
  unfold clewref15_Right.f
  rw [if_neg (by rw [U_len]; omega), ← rr_right]
  have := right_l0 L hL L [] 5001 0 rfl (by omega) (by omega) (by simp)
  rw [show (([] : List P).length : Int) = 0 from rfl] at this
  exact this
end Go.Proofs.YtakibnkhfmneiaaDoor.HRef
end
section
/- What pack's and the document's functions compute, in PSpec's words. -/
namespace Go.Proofs.YtakibnkhfmneiaaDoor.PDec
open Go.RowKit Go.Proofs.YtakibnkhfmneiaaDoorW.PrintWords Go.Proofs.YtakibnkhfmneiaaDoorW.PrintLast Go.Proofs.YtakibnkhfmneiaaDoorW.PrintMore Go.Proofs.YtakibnkhfmneiaaDoor.Q WMath BMath CEq WEq HSpec HCon HAppd HAppC PSpec
set_option linter.unusedVariables false
theorem get1_eq (s : ByteArray) (a : Nat) (ha : a ≤ s.size) (hs : s.size ≤ 1000) : HGet.get1 (s.extract a s.size) (a : Int) = tell a (getN ((bl s).drop a)) := by
  have h := get_eq s a ha (by omega)
  unfold wire_Get.f at h
  rw [if_pos (by omega), if_neg (by omega), if_neg (by omega), Int.toNat_natCast] at h
  exact Option.some.inj h
theorem toks_eq (s : ByteArray) (hs : s.size ≤ 1000) (m : Nat) : ∀ (L : List P) (a : Nat), a ≤ s.size →
    ∃ b : Nat, b ≤ s.size ∧ PTok.toks s m L (a : Int) = ((tokN m L ((bl s).drop a)).1, ((b : Int), ((tokN m L ((bl s).drop a)).2.2 : Int))) ∧ (tokN m L ((bl s).drop a)).2.1 = (bl s).drop b := by
  induction m with
  | zero => intro L a ha; exact ⟨a, ha, rfl, rfl⟩
  | succ m ih =>
    intro L a ha
    have hg := get1_eq s a ha hs
    unfold PTok.toks tokN
    rw [Int.toNat_natCast, hg]
    unfold tell
    simp only []
    by_cases h1 : (getN ((bl s).drop a)).2.2 ≠ 0
    · rw [if_pos h1, if_pos (by omega)]
      exact ⟨a, ha, rfl, rfl⟩
    · rw [if_neg h1, if_neg (by omega)]
      by_cases h2 : 4294967296 < (getN ((bl s).drop a)).1
      · rw [if_pos h2, if_pos (by omega)]
        exact ⟨a, ha, rfl, rfl⟩
      · have hb : Bytes ((bl s).drop a) := fun x hx => bl_bytes s x (List.mem_of_mem_drop hx)
        obtain ⟨g1, g2, g3, g4⟩ := put_getN hb (by omega : (getN ((bl s).drop a)).2.2 = 0)
        rw [List.length_drop, bl_length] at g3
        obtain ⟨b, b1, b2, b3⟩ := ih (L ++ [tokT (getN ((bl s).drop a)).1]) (a + (getN ((bl s).drop a)).2.1) (by omega)
        rw [if_neg h2, if_neg (by omega), if_pos (by omega), List.drop_drop]
        refine ⟨b, b1, ?_, b3⟩
        rw [← b2]
        congr 1
theorem T_map (L : List P) : L.map (fun p => (⟨p.1, p.2⟩ : S43)) = T L := rfl
theorem prefix_eq (x : ByteArray) (hx : x.size ≤ 1000) : strings_HasPrefix.f x (⟨#[67, 76, 69, 87]⟩ : ByteArray) = some (decide ((bl x).take 4 = PSpec.mark)) := by
  unfold strings_HasPrefix.f stringslite_HasPrefix.f
  rw [show ((⟨#[67, 76, 69, 87]⟩ : ByteArray).size : Int) = 4 from rfl]
  by_cases h : (x.size : Int) ≥ 4
  · rw [if_pos h, if_pos (by decide), if_pos h, Option.bind_some]
    congr 1
    show ((x.extract 0 (4 : Int).toNat).toList == _) = _
    rw [show (4 : Int).toNat = 4 from rfl, Bool.eq_iff_iff, beq_iff_eq, decide_eq_true_iff, toList_eq, ← bl_extract_to x 4]
    constructor
    · intro e; rw [e]; rfl
    · intro e; apply bl_inj; rw [e]; rfl
  · rw [if_neg h, Option.bind_some]
    congr 1
    symm
    rw [decide_eq_false_iff_not]
    intro e
    have := congrArg List.length e
    rw [List.length_take, bl_length] at this
    simp [PSpec.mark] at this
    omega
theorem right_k (L : List P) (hL : L.length ≤ 1000) (k : Nat) (hk : 2000 < k) : cert_Right.f k (T L) = some (right L) := by
  unfold cert_Right.f
  rw [if_neg (by rw [T_len]; omega), T_len]
  have := right_l0 L hL L [] k 0 (4, 0) rfl (by omega) (by omega) (by simp)
  rw [show (0 : Int) = (([] : List P).length : Int) from rfl]
  exact this
theorem rright_k (L : List P) (hL : L.length ≤ 1000) (k : Nat) (hk : 5000 < k) : clewref15_Right.f k (U L) = some (right L) := by
  unfold clewref15_Right.f
  rw [if_neg (by rw [U_len]; omega), ← HRef.rr_right]
  have := HRef.right_l0 L hL L [] k 0 rfl (by omega) (by omega) (by simp)
  rw [show (([] : List P).length : Int) = 0 from rfl] at this
  exact this
theorem tokN_len (m : Nat) : ∀ (A : List P) (r : List Nat), Bytes r → (tokN m A r).1.length ≤ A.length + r.length := by
  induction m with
  | zero => intro A r _; unfold tokN; simp
  | succ m ih =>
    intro A r hb
    unfold tokN
    by_cases h1 : (getN r).2.2 ≠ 0
    · rw [if_pos h1]; simp
    · rw [if_neg h1]
      by_cases h2 : 4294967296 < (getN r).1
      · rw [if_pos h2]; simp
      · rw [if_neg h2]
        obtain ⟨g1, g2, g3, g4⟩ := put_getN hb (by omega : (getN r).2.2 = 0)
        have := ih (A ++ [tokT (getN r).1]) (r.drop (getN r).2.1) (fun x hx => hb x (List.mem_of_mem_drop hx))
        rw [List.length_append, List.length_drop] at this
        simp only [List.length_cons, List.length_nil] at this
        omega
theorem dec_eq (s : ByteArray) (hs : s.size ≤ 1000) : pack_Decode.f 2001 s = some (T (dec s).1, ((dec s).2 : Int)) := by
  unfold pack_Decode.f
  rw [open_eq s (by omega), Option.bind_some]
  simp only []
  unfold dec
  by_cases h1 : (openB s).2 ≠ 0
  · rw [if_pos h1, if_neg (by omega)]; rfl
  rw [if_neg h1, if_pos (by omega)]
  have hx : (openB s).1.size ≤ 1000 := by have := (open_zero (by omega : (openB s).2 = 0)).2.1; omega
  generalize (openB s).1 = x at hx ⊢
  rw [prefix_eq x hx, Option.bind_some]
  unfold dec1
  by_cases h2 : (bl x).take 4 = PSpec.mark
  · have h4 : 4 ≤ x.size := by
      have := congrArg List.length h2
      rw [List.length_take, bl_length] at this
      simp [PSpec.mark] at this
      omega
    rw [if_pos (decide_eq_true h2), if_neg (fun h => h h2), show (4 : Int) = ((4 : Nat) : Int) from rfl, get_eq x 4 h4 (by omega), Option.bind_some]
    unfold tell
    simp only []
    have hb : Bytes ((bl x).drop 4) := fun y hy => bl_bytes x y (List.mem_of_mem_drop hy)
    by_cases h3 : (getN ((bl x).drop 4)).2.2 ≠ 0
    · rw [if_pos h3, if_neg (by omega)]; rfl
    rw [if_neg h3, if_pos (by omega), if_pos (show (getN ((bl x).drop 4)).2.2 = 0 by omega)]
    obtain ⟨g1, g2, g3, g4⟩ := put_getN hb (by omega : (getN ((bl x).drop 4)).2.2 = 0)
    rw [List.length_drop, bl_length] at g3
    by_cases h5 : 1048576 < (getN ((bl x).drop 4)).1
    · rw [if_pos h5, if_pos (by omega)]; rfl
    rw [if_neg h5, if_neg (by omega)]
    unfold pack_tokens.f
    rw [if_pos (by omega), if_pos (by omega), if_pos hx, if_pos (by omega), if_pos (by omega), Option.bind_some]
    simp only []
    obtain ⟨b, b1, b2, b3⟩ := toks_eq x hx (getN ((bl x).drop 4)).1 [] (4 + (getN ((bl x).drop 4)).2.1) (by omega)
    rw [show ((4 : Nat) : Int) + ((getN ((bl x).drop 4)).2.1 : Int) = ((4 + (getN ((bl x).drop 4)).2.1 : Nat) : Int) by omega, Int.toNat_natCast, b2, List.drop_drop]
    have hln := tokN_len (getN ((bl x).drop 4)).1 [] ((bl x).drop (4 + (getN ((bl x).drop 4)).2.1)) (fun y hy => bl_bytes x y (List.mem_of_mem_drop hy))
    rw [List.length_drop, bl_length, List.length_nil] at hln
    generalize tokN (getN ((bl x).drop 4)).1 [] ((bl x).drop (4 + (getN ((bl x).drop 4)).2.1)) = q at *
    obtain ⟨L, r, e⟩ := q
    simp only [] at b3 hln ⊢
    have j0 : ∀ (y : Int) (M : List S43) (c : Bool), pack_Decode.j0 2001 y M c = if c = true then some ([], 3) else if y = 0 then some (M, 0) else some ([], y) := by
      intro y M c
      rw [show (2001 : Nat) = 2000 + 1 from rfl]
      simp only [pack_Decode.j0]
      cases c with
      | true => rfl
      | false => rw [if_neg (show ¬ (false = true) by decide)]; rfl
    by_cases h6 : e ≠ 0
    · rw [if_pos h6, if_neg (by omega), j0, if_neg (by decide), if_neg (by omega)]; rfl
    rw [if_neg h6, if_pos (by omega)]
    obtain rfl : e = 0 := by omega
    by_cases h7 : b < x.size
    · have hr : r ≠ [] := fun hr => by
        rw [hr] at b3
        have := congrArg List.length b3
        rw [List.length_drop, bl_length] at this
        simp at this
        omega
      rw [if_pos (by omega), j0, if_pos rfl, if_neg (fun h => hr h.1)]; rfl
    · have hr : r = [] := by rw [b3]; exact List.drop_of_length_le (by rw [bl_length]; omega)
      have hLl : L.length ≤ 1000 := by omega
      rw [if_neg (by omega)]
      have hrt : cert_Right.f 2001 (T L) = some (right L) := right_k L hLl 2001 (by omega)
      rw [T_map, hrt, Option.bind_some, j0]
      cases hR : right L with
      | true => rw [if_neg (show ¬ ((!true) = true) by decide), if_pos (show ((0 : Nat) : Int) = 0 from rfl), if_pos ⟨hr, rfl⟩]; rfl
      | false => rw [if_pos (show (!false) = true from rfl), if_neg (fun h => by cases h.2)]; rfl
  · rw [if_neg (by simpa using h2), if_pos h2]; rfl
/-! the document's -/
theorem Bapp (l m : List Nat) : B l ++ B m = B (l ++ m) := by
  unfold B strOfNums ints
  apply ByteArray.ext
  simp
theorem putS_le {n : Nat} (h : n < 2 ^ 64) : (putS n).size ≤ 9 := by rw [putS_size h]; exact (put_range h).2
theorem code_int (t : P) (h : PSpec.Good t) : IntKind.u64.wrap (wrap64 (wrap64 (6 * t.2) + t.1)) = (code t : Int) := by
  obtain ⟨h0, h1, h2, h3⟩ := h
  unfold code
  rw [show wrap64 (6 * t.2) = 6 * t.2 by unfold wrap64; omega, show wrap64 (6 * t.2 + t.1) = 6 * t.2 + t.1 by unfold wrap64; omega]
  simp [IntKind.wrap, IntKind.signed, IntKind.bits]
  omega
theorem renc_loop (L : List P) (hL : L.length ≤ 1000) (hg : ∀ t ∈ L, PSpec.Good t) : ∀ (C A : List P) (k : Nat) (x : List Nat), L = A ++ C → C.length + 200100 < k → x.length ≤ 100 + 9 * A.length →
    clewref16_Encode.l0 k (U L) (B x) (A.length : Int) = some (sealB (B (x ++ cat C))) := by
  intro C
  induction C with
  | nil =>
    intro A k x h hk hx
    obtain ⟨k, rfl⟩ : ∃ j, k = j + 1 := ⟨k - 1, by omega⟩
    have hl : L.length = A.length := by rw [h]; simp
    have hs : (B x).size = x.length := by unfold B; rw [size_nums, ints_length]
    simp only [clewref16_Encode.l0]
    rw [if_neg (by rw [U_len]; omega), refseal_eq k _ (by omega) (by omega), Option.bind_some, cat, List.append_nil]
  | cons t C ih =>
    intro A k x h hk hx
    rw [List.length_cons] at hk
    obtain ⟨k, rfl⟩ : ∃ j, k = j + 1 := ⟨k - 1, by omega⟩
    have hl : L.length = A.length + (C.length + 1) := by rw [h]; simp
    have hgt := hg t (by rw [h]; simp)
    have hc := (code_good hgt).2
    have hp := put_range (n := code t) (by omega)
    have hs : (B x).size = x.length := by unfold B; rw [size_nums, ints_length]
    simp only [clewref16_Encode.l0]
    rw [if_pos (by rw [U_len]; omega), if_pos (by omega), rdU h]
    simp only []
    rw [code_int t hgt, refput_eq k _ (by omega) (by omega), Option.bind_some, if_pos (by rw [hs, putS_size (by omega)]; omega), wr (by omega), ← B_putS, Bapp]
    have := ih (A ++ [t]) k (x ++ put (code t)) (by rw [h]; simp) (by omega) (by rw [List.length_append, List.length_append, List.length_singleton]; omega)
    rw [show (((A ++ [t]).length : Nat) : Int) = ((A.length + 1 : Nat) : Int) by simp] at this
    rw [this, cat, List.append_assoc]
theorem renc_eq (L : List P) (hL : L.length ≤ 1000) : clewref16_Encode.f 300000 (U L) = some (enc L) := by
  unfold clewref16_Encode.f
  rw [rright_k L hL 300000 (by omega), Option.bind_some]
  unfold enc
  cases hr : right L with
  | false => rw [if_neg (by decide), if_neg (by decide)]
  | true =>
    obtain ⟨g1, g2⟩ := right_good hr hL
    have hp := put_range (n := L.length) (by omega)
    rw [if_pos rfl, if_pos rfl, U_len, show IntKind.u64.wrap (L.length : Int) = (L.length : Int) by simp [IntKind.wrap, IntKind.signed, IntKind.bits]; omega, refput_eq _ _ (by omega) (by omega), Option.bind_some, if_pos (by rw [putS_size (by omega)]; omega)]
    rw [show (⟨#[67, 76, 69, 87]⟩ : ByteArray) = B PSpec.mark from rfl, ← B_putS, Bapp]
    have := renc_loop L hL g1 L [] 300000 (PSpec.mark ++ put L.length) rfl (by omega) (by rw [List.length_append]; simp [PSpec.mark]; omega)
    rw [List.append_assoc] at this
    exact this
theorem u64_id {x : Int} (h0 : 0 ≤ x) (h1 : x ≤ 18446744073709551615) : IntKind.u64.wrap x = x := by
  simp [IntKind.wrap, IntKind.signed, IntKind.bits]
  omega
theorem mod_int (g : Nat) (h : g ≤ 4294967296) : wrap64 (Int.tmod (g : Int) 6) = ((g % 6 : Nat) : Int) := by
  rw [Int.tmod_eq_emod_of_nonneg (by omega)]
  unfold wrap64
  omega
theorem div_int (g : Nat) (h : g ≤ 4294967296) : wrap64 (IntKind.u64.wrap (Int.tdiv (g : Int) 6)) = ((g / 6 : Nat) : Int) := by
  rw [Int.tdiv_eq_ediv_of_nonneg (by omega), u64_id (by omega) (by omega)]
  unfold wrap64
  omega
/-- how a reading of tokens ends -/
def fin (q : List P × List Nat × Nat) : List P × Nat := if q.2.2 ≠ 0 then ([], q.2.2) else if q.2.1 = [] ∧ right q.1 = true then (q.1, 0) else ([], 3)
theorem rdec_loop (x : ByteArray) (hx : x.size ≤ 1000) (many : Nat) (hm : many ≤ 1048576) : ∀ (d k i : Nat) (L : List P) (a : Nat), x.size - a = d → a ≤ x.size → i ≤ many → d + 6000 < k → L.length + (x.size - a) ≤ 1000 →
    clewref16_Decode.l0 k x (many : Int) (a : Int) (U L) (i : Int) = some (U (fin (tokN (many - i) L ((bl x).drop a))).1, ((fin (tokN (many - i) L ((bl x).drop a))).2 : Int)) := by
  intro d
  induction d using Nat.strongRecOn with
  | _ d ih =>
    intro k i L a hd ha hi hk hl
    obtain ⟨k, rfl⟩ : ∃ j, k = j + 1 := ⟨k - 1, by omega⟩
    simp only [clewref16_Decode.l0]
    by_cases h : i < many
    · rw [if_pos (by omega), refget_eq k x a (by omega) (by omega), get_eq x a ha (by omega), Option.bind_some]
      have hb : Bytes ((bl x).drop a) := fun y hy => bl_bytes x y (List.mem_of_mem_drop hy)
      have hsub : many - (i + 1) = many - i - 1 := by omega
      obtain ⟨m, hm2⟩ : ∃ m, many - i = m + 1 := ⟨many - i - 1, by omega⟩
      have hm3 : many - (i + 1) = m := by omega
      rw [hm2]
      have hgood := fun h0 : (getN ((bl x).drop a)).2.2 = 0 => put_getN hb h0
      have ihm := fun (n : Nat) (hn : 1 ≤ n ∧ n ≤ x.size - a) (t : P) => ih (x.size - (a + n)) (by omega) k (i + 1) (L ++ [t]) (a + n) rfl (by omega) (by omega) (by omega) (by rw [List.length_append]; simp; omega)
      rw [hm3] at ihm
      unfold tokN tell
      simp only []
      clear ih
      have hU : (U L).length < 8796093022208 := by rw [U_len]; omega
      have hi1 : IntKind.u64.wrap ((i : Int) + 1) = ((i + 1 : Nat) : Int) := by rw [u64_id (by omega) (by omega)]; rfl
      clear hd hk hl hx hm hm2 hm3 hsub h hi ha
      generalize hg : getN ((bl x).drop a) = g at *
      obtain ⟨g1, g2, g3⟩ := g
      simp only [] at hgood ⊢
      by_cases h1 : g3 ≠ 0
      · rw [if_pos h1, if_neg (by omega)]
        unfold fin
        simp only []
        rw [if_pos h1]
        rfl
      · rw [if_neg h1, if_pos (by omega), if_pos (show g3 = 0 by omega)]
        by_cases h2 : 4294967296 < g1
        · rw [if_pos h2, if_pos (by omega)]
          rfl
        · obtain ⟨p1, p2, p3, p4⟩ := hgood (by omega)
          rw [List.length_drop, bl_length] at p3
          have := ihm g2 ⟨p2, p3⟩ (tokT g1)
          rw [if_neg h2, if_neg (by omega), if_pos hU, hi1, mod_int g1 (by omega), div_int g1 (by omega), show ((a : Int) + (g2 : Int)) = ((a + g2 : Nat) : Int) by omega, List.drop_drop, ← this, U_snoc]
          rfl
    · obtain rfl : i = many := by omega
      have hdr : ((bl x).drop a = []) ↔ a = x.size := by
        rw [List.drop_eq_nil_iff, bl_length]
        omega
      rw [if_neg (by omega), Nat.sub_self]
      show _ = some (U (fin (L, (bl x).drop a, 0)).1, ((fin (L, (bl x).drop a, 0)).2 : Int))
      have hf : fin (L, (bl x).drop a, 0) = if (bl x).drop a = [] ∧ right L = true then (L, 0) else ([], 3) := rfl
      rw [hf]
      by_cases h1 : a = x.size
      · rw [if_pos (show (a : Int) = (x.size : Int) by omega), rright_k L (by omega) k (by omega), Option.bind_some]
        cases hR : right L with
        | true => rw [if_pos rfl, if_pos ⟨hdr.2 h1, rfl⟩]; rfl
        | false => rw [if_neg (by decide), if_neg (fun h => by cases h.2)]; rfl
      · rw [if_neg (show ¬ (a : Int) = (x.size : Int) by omega), if_neg (fun h => h1 (hdr.1 h.1))]; rfl
theorem rdec_eq (s : ByteArray) (hs : s.size ≤ 1000) : clewref16_Decode.f 20000 s = some (U (dec s).1, ((dec s).2 : Int)) := by
  unfold clewref16_Decode.f
  rw [refopen_eq 20000 s (by omega) (by omega), Option.bind_some]
  simp only []
  unfold dec
  by_cases h1 : (openB s).2 ≠ 0
  · rw [if_pos h1, if_neg (by omega)]; rfl
  rw [if_neg h1, if_pos (by omega)]
  have hx : (openB s).1.size ≤ 1000 := by have := (open_zero (by omega : (openB s).2 = 0)).2.1; omega
  generalize (openB s).1 = x at hx ⊢
  have j0 : ∀ c : Bool, clewref16_Decode.j0 20000 x c = if c = true then some ([], 3) else clewref16_Decode.j0 20000 x false := by
    intro c
    cases c with
    | true => rw [if_pos rfl, show (20000 : Nat) = 19999 + 1 from rfl]; simp only [clewref16_Decode.j0]; rw [if_pos trivial]
    | false => rw [if_neg (by decide)]
  unfold dec1
  by_cases h4 : x.size < 4
  · rw [if_pos (by omega), j0, if_pos rfl, if_pos (fun e => by
      have := congrArg List.length e
      rw [List.length_take, bl_length] at this
      simp [PSpec.mark] at this
      omega)]
    rfl
  rw [if_neg (by omega), if_pos (by decide), if_pos (by omega), j0]
  have hmk : ((x.extract 0 4).toList != ([67, 76, 69, 87] : List UInt8)) = !decide ((bl x).take 4 = PSpec.mark) := by
    rw [show ([67, 76, 69, 87] : List UInt8) = (⟨#[67, 76, 69, 87]⟩ : ByteArray).toList by rw [Lib.toList_data], bne, Bool.eq_iff_iff, Bool.not_eq_true', Bool.not_eq_true', beq_eq_false_iff_ne, decide_eq_false_iff_not, ne_eq, toList_eq, ← bl_extract_to x 4]
    constructor
    · intro e e2; exact e (bl_inj (by rw [e2]; rfl))
    · intro e e2; exact e (by rw [e2]; rfl)
  rw [hmk]
  by_cases h2 : (bl x).take 4 = PSpec.mark
  · rw [decide_eq_true h2, if_neg (by decide), if_neg (fun h => h h2)]
    rw [show (20000 : Nat) = 19999 + 1 from rfl]
    simp only [clewref16_Decode.j0]
    have hg4 : clewref02_Get.f 19999 x 4 = some (tell 4 (getN ((bl x).drop 4))) := by
      have := refget_eq 19999 x ((4 : Nat) : Int) (by omega) (by omega)
      rw [get_eq x 4 (by omega) (by omega)] at this
      exact this
    rw [if_neg (show ¬ (false = true) by decide), hg4, Option.bind_some]
    unfold tell
    simp only []
    have hb : Bytes ((bl x).drop 4) := fun y hy => bl_bytes x y (List.mem_of_mem_drop hy)
    by_cases h3 : (getN ((bl x).drop 4)).2.2 ≠ 0
    · rw [if_pos h3, if_neg (by omega)]; rfl
    rw [if_neg h3, if_pos (by omega), if_pos (show (getN ((bl x).drop 4)).2.2 = 0 by omega)]
    obtain ⟨g1, g2, g3, g4⟩ := put_getN hb (by omega : (getN ((bl x).drop 4)).2.2 = 0)
    rw [List.length_drop, bl_length] at g3
    by_cases h5 : 1048576 < (getN ((bl x).drop 4)).1
    · rw [if_pos h5, if_pos (by omega)]; rfl
    rw [if_neg h5, if_neg (by omega)]
    have := rdec_loop x hx (getN ((bl x).drop 4)).1 (by omega) (x.size - (4 + (getN ((bl x).drop 4)).2.1)) 19999 0 [] (4 + (getN ((bl x).drop 4)).2.1) rfl (by omega) (by omega) (by omega) (by simp; omega)
    rw [Nat.sub_zero] at this
    show _ = some (U (fin (tokN (getN ((bl x).drop 4)).1 [] (((bl x).drop 4).drop (getN ((bl x).drop 4)).2.1))).1, ((fin (tokN (getN ((bl x).drop 4)).1 [] (((bl x).drop 4).drop (getN ((bl x).drop 4)).2.1))).2 : Int))
    rw [List.drop_drop, show ((4 : Nat) : Int) + ((getN ((bl x).drop 4)).2.1 : Int) = ((4 + (getN ((bl x).drop 4)).2.1 : Nat) : Int) by omega]
    exact this
  · rw [decide_eq_false h2, if_pos (show (!false) = true from rfl), if_pos h2]; rfl
end Go.Proofs.YtakibnkhfmneiaaDoor.PDec
end
section
/- pack.Encode: its walk. -/
namespace Go.Proofs.YtakibnkhfmneiaaDoor.PEnc
open Go.RowKit CMem HShow HAppd HAppC HSpec HCon WMath BMath CEq WEq PSpec PDec PBuild Go.Proofs.YtakibnkhfmneiaaDoorW.PrintWords Go.Proofs.YtakibnkhfmneiaaDoorW.PrintLast Go.Proofs.YtakibnkhfmneiaaDoorW.PrintMore
set_option linter.unusedVariables false
set_option linter.unusedSimpArgs false
/-- the builder at b holds s -/
def Bd (B b : Nat) (s : ByteArray) (w : World) : Prop := Lib.IsBuilder 59 5 B b (Lib.strCells s) w
theorem at_below {T e : TypeId} {B b : Nat} {p : Value} {bs : List Value} {w w' : World} (h : Lib.BuilderAt T e B b p bs w) (hb : Below w.heap.size w w') : Lib.BuilderAt T e B b p bs w' := by
  obtain ⟨h1, v, h2, h3, h4⟩ := h
  exact ⟨h1, v, (hb.block _ (lt_of_blk h2)).trans h2, own_keep h3 hb, h4⟩
theorem Bd.below {B b : Nat} {s : ByteArray} {w w' : World} (h : Bd B b s w) (hb : Below w.heap.size w w') : Bd B b s w' := by
  rcases h with h | h
  · exact .inl (at_below h hb)
  · exact .inr (at_below h hb)
theorem strCells_app (s t : ByteArray) : Lib.strCells (s ++ t) = Lib.strCells s ++ Lib.strCells t := by simp [Lib.strCells]
theorem k_write {B b : Nat} {s : ByteArray} {w : World} (h : Bd B b s w) (t : ByteArray) (hl : s.size + t.size ≤ 1000000) (hB : B ≤ w.heap.size) :
    Calls Tryd.prog 26 #[.pointer (some ⟨b, 0, none⟩), .string t] w fun e w' => e = .returned (.tuple #[.int .i64 t.size, .nilIface]) ∧ Bd B b (s ++ t) w' ∧ Below B w w' :=
  (write B b _ t w h (by unfold Lib.strCells; rw [List.length_map, Array.length_toList]; show s.size + t.size ≤ _; omega) hB).mono fun e w' hx => ⟨hx.1, .inr (by rw [strCells_app]; exact hx.2.1), hx.2.2⟩
theorem k_string {B b : Nat} {s : ByteArray} {w : World} (h : Bd B b s w) (h0 : 0 < s.size) :
    Calls Tryd.prog 28 #[.pointer (some ⟨b, 0, none⟩)] w fun e w' => e = .returned (.string s) ∧ Below B w w' :=
  (Tryd.Builder_String B b s.data.toList w h (fun e => by
    have : s.data.toList.length = 0 := by rw [e]; rfl
    rw [Array.length_toList] at this
    have : s.size = 0 := this
    omega)).mono fun e w' hx => ⟨by rw [hx.1], hx.2⟩
theorem k_put (n : Nat) (hn : n < 2 ^ 64) (w : World) : Calls Tryd.prog 27 #[.int .u64 (n : Int)] w fun e w' => e = .returned (.string (putS n)) ∧ Below w.heap.size w w' :=
  Q.wire_Put.calls 10 n (putS n) w (put_eq 10 n (by omega) hn)
theorem k_seal (s : ByteArray) (hs : s.size ≤ 1000000) (w : World) (hT : HOn.Tab w) : Calls Tryd.prog 9 #[.string s] w fun e w' => e = .returned (.string (sealB s)) ∧ Below w.heap.size w w' :=
  Q.crc_Seal.calls s (sealB s) w hT (seal_eq s (by omega))
theorem B_sz (l : List Nat) : (PSpec.B l).size = l.length := by unfold PSpec.B; rw [size_nums, ints_length]
theorem k_writeB {B b : Nat} {l : List Nat} {w : World} (h : Bd B b (PSpec.B l) w) (m : List Nat) (t : ByteArray) (ht : t = PSpec.B m) (hl : l.length + m.length ≤ 1000000) (hB : B ≤ w.heap.size) :
    Calls Tryd.prog 26 #[.pointer (some ⟨b, 0, none⟩), .string t] w fun e w' => e = .returned (.tuple #[.int .i64 m.length, .nilIface]) ∧ Bd B b (PSpec.B (l ++ m)) w' ∧ Below B w w' := by
  subst ht
  have := k_write h (PSpec.B m) (by rw [B_sz, B_sz]; exact hl) hB
  rw [Bapp, B_sz] at this
  exact this
theorem cat_le {L : List P} (h : ∀ t ∈ L, PSpec.Good t) : (cat L).length ≤ 9 * L.length := by
  induction L with
  | nil => decide
  | cons t L ih =>
    have h1 := (code_good (h t List.mem_cons_self)).2
    have h2 := put_range (n := code t) (by omega)
    have h3 := ih (fun u hu => h u (List.mem_cons_of_mem _ hu))
    simp only [cat, List.length_append, List.length_cons]
    omega
set_option maxRecDepth 100000 in
set_option maxHeartbeats 4000000 in
theorem walk_no (A : Option Addr) (n cap : Nat) (L : List P) (w : World) (hR : Ro w A L) (hn : L.length = n) (hl : n ≤ 1000) (hc : n ≤ cap) (hr : right L = false) :
    Calls Tryd.prog 10 #[.slice A n cap] w fun e w' => e = .returned (.string ⟨#[]⟩) ∧ Below w.heap.size w w' := by
  have HR := Lib.hid hR
  have HN := Lib.hid hn
  have HRR := Lib.hid hr
  clear hR hn hr
  go_enter Tryd.func10, Tryd.ntmps10
  go_wp2_with fail
  refine (c_right HR.out HN.out hl hc).mono ?_
  rintro e w1 ⟨rfl, hb⟩
  rw [HRR.out]
  go_wp2
  go_ret
  exact ⟨rfl, hb⟩
set_option maxRecDepth 100000 in
set_option maxHeartbeats 4000000 in
theorem walk_yes (A : Option Addr) (n cap : Nat) (L : List P) (w : World) (hT : HOn.Tab w) (hR : Ro w A L) (hn : L.length = n) (hl : n ≤ 1000) (hc : n ≤ cap) (hcm : cap ≤ 9223372036854775807) (hr : right L = true) :
    Calls Tryd.prog 10 #[.slice A n cap] w fun e w' => e = .returned (.string (enc L)) ∧ Below w.heap.size w w' := by
  have HE : Hid (sealB (PSpec.B (PSpec.mark ++ put n ++ cat L)) = enc L) := by
    unfold Hid enc
    rw [if_pos hr]
    unfold body
    rw [hn, List.append_assoc]
  obtain ⟨hg, hg2⟩ := right_good hr (by omega)
  have HG := Lib.hid hg
  have HG2 := Lib.hid hg2
  have HR := Lib.hid hR
  have HT := Lib.hid hT
  have HN := Lib.hid hn
  have HRR := Lib.hid hr
  have HP := Lib.hid (put_range (n := n) (by omega))
  clear hR hn hr hg hg2 hT
  obtain ⟨q, hq⟩ : ∃ q, enc L = q := ⟨_, rfl⟩
  rw [hq] at HE ⊢
  clear hq
  go_enter Tryd.func10, Tryd.ntmps10
  go_wp2_with fail
  refine (c_right HR.out HN.out hl hc).mono ?_
  rintro e w1 ⟨rfl, hb⟩
  rw [HRR.out]
  have HT1 := Lib.hid (HT.out.below hb)
  have HB1 := Lib.hid hb
  clear hb HRR
  go_wp2_with fail
  have hF := Lib.fresh_isBuilder 59 5 w1
  have hb := below1 w1 (.cells #[.pointer none, .slice none 0 0] 59)
  have HBd := Lib.hid (show Bd w1.heap.size w1.heap.size ⟨#[]⟩ (w1.alloc (.cells #[.pointer none, .slice none 0 0] 59)) from hF)
  have HB2 := Lib.hid (below_step HB1.out hb)
  have HSZ := Lib.hid HB1.out.size
  have HSW := Lib.hid hb.size
  clear hF hb
  generalize hW : w1.alloc (.cells #[.pointer none, .slice none 0 0] 59) = w2 at *
  clear hW
  generalize hb0 : w1.heap.size = b at *
  clear hb0
  have HBd := Lib.hid (show Bd b b (PSpec.B []) w2 from HBd.out)
  refine (k_writeB HBd.out PSpec.mark _ rfl (by simp [PSpec.mark]) HSW.out).mono ?_
  rintro e w3 ⟨rfl, hbd, hb⟩
  have HBd := Lib.hid hbd
  have HB3 := Lib.hid (HB2.out.trans (hb.mono HSZ.out))
  have HS3 := Lib.hid (Nat.le_trans HSW.out hb.size)
  have HT3 := Lib.hid (HT.out.below HB3.out)
  clear hbd hb HB2 HSW HT1
  go_wp2_with fail
  refine (k_put n (by omega) _).mono ?_
  rintro e w4 ⟨rfl, hb⟩
  have HBd := Lib.hid (HBd.out.below hb)
  have HB4 := Lib.hid (below_step HB3.out hb)
  have HS4 := Lib.hid (Nat.le_trans HS3.out hb.size)
  clear hb HB3 HS3 HT3
  go_wp2_with fail
  refine (k_writeB HBd.out (put n) _ rfl (by have := HP.out; simp [PSpec.mark]; omega) HS4.out).mono ?_
  rintro e w5 ⟨rfl, hbd, hb⟩
  have HBd := Lib.hid hbd
  have HB5 := Lib.hid (HB4.out.trans (hb.mono HSZ.out))
  have HS5 := Lib.hid (Nat.le_trans HS4.out hb.size)
  clear hbd hb HB4 HS4
  go_wp2
  go_loopw [17] (fun t wr => ∃ i : Nat, i ≤ n ∧ t = .int .i64 (i : Nat) ∧ Hid (Bd b b (PSpec.B (PSpec.mark ++ put n ++ cat (L.take i))) wr) ∧ Hid (Below w.heap.size w wr) ∧ Hid (b ≤ wr.heap.size)) (fun t _ => n - (intOf t).toNat)
  case atStart =>
    refine ⟨0, by omega, rfl, ?_, HB5, HS5⟩
    have := HBd.out
    rw [List.nil_append] at this
    unfold Hid
    rw [List.take_zero]
    unfold cat
    rw [List.append_nil]
    exact this
  case round =>
    obtain ⟨i, hi, rfl, HD, HB, HS⟩ := hrel
    clear HBd HB5 HS5
    by_cases h : i < n
    · have hi2 : i < L.length := by have := HN.out; omega
      obtain ⟨ad, rfl, hcell⟩ := (HR.out.below HB.out) (by omega)
      obtain ⟨c0, c1⟩ := hcell i _ (List.getElem?_eq_getElem hi2)
      have hgt := HG.out _ (List.getElem_mem hi2)
      have hg2 := HG2.out _ (List.getElem_mem hi2)
      have htk : L.take (i + 1) = L.take i ++ [L[i]'hi2] := (List.take_append_getElem hi2).symm
      have hcl := cat_le (L := L.take i) (fun t ht => HG.out t (List.mem_of_mem_take ht))
      rw [List.length_take] at hcl
      generalize L[i]'hi2 = p at *
      obtain ⟨p1, p2⟩ := p
      have hct : cat (L.take (i + 1)) = cat (L.take i) ++ put (code (p1, p2)) := by rw [htk, cat_append]; simp [cat]
      have hcd : p2 * 6 + p1 = (code (p1, p2) : Int) := by
        obtain ⟨q0, q1, q2, q3⟩ := hgt
        unfold code
        simp only [] at *
        omega
      have hpr := put_range (n := code (p1, p2)) (by omega)
      obtain ⟨q0, q1, q2, q3⟩ := hgt
      simp only [] at c0 c1 q0 q1 q2 q3
      have HCT := Lib.hid hct
      generalize code (p1, p2) = c at *
      have hc6 : (c : Int) ≤ 4294967296 := by omega
      have HPR := Lib.hid hpr
      have HCL := Lib.hid hcl
      have c2 : wr.cell? ⟨(ad.add (i * 2)).block, (ad.add (i * 2)).off + 1, none⟩ = some (.int .i64 p2) := by rw [← add_field _ _ 1 (by omega)]; exact c1
      have hbx := below1 wr (.cells #[.int .i64 p1, .int .i64 p2] 43)
      have HD2 := Lib.hid (HD.out.below hbx)
      have HB2 := Lib.hid (below_step HB.out hbx)
      have HS2 := Lib.hid (Nat.le_trans HS.out hbx.size)
      clear hcell hct htk hpr hcl c1 hg2 HD HB HS hbx
      go_wp2_with fail
      refine (k_put c (by omega) _).mono ?_
      rintro e w6 ⟨rfl, hb⟩
      have HD3 := Lib.hid (HD2.out.below hb)
      have HB3 := Lib.hid (below_step HB2.out hb)
      have HS3 := Lib.hid (Nat.le_trans HS2.out hb.size)
      clear hb HD2 HB2 HS2 c0 c2
      go_wp2_with fail
      refine (k_writeB HD3.out (put c) _ rfl (by have := HP.out; have := HPR.out; have := HCL.out; simp [PSpec.mark]; omega) HS3.out).mono ?_
      rintro e w7 ⟨rfl, hbd, hb⟩
      have HD4 := Lib.hid hbd
      have HB4 := Lib.hid (HB3.out.trans (hb.mono HSZ.out))
      have HS4 := Lib.hid (Nat.le_trans HS3.out hb.size)
      clear hbd hb HD3 HB3 HS3
      go_wp2
      go_roundw
      case rel =>
        refine ⟨i + 1, by omega, by go_num, ?_, HB4, HS4⟩
        unfold Hid
        rw [HCT.out, ← List.append_assoc]
        exact HD4.out
      case measure => simp [intOf] <;> omega
    · obtain rfl : i = n := by omega
      have hd := HD.out
      have hcl := cat_le (L := L) HG.out
      rw [HN.out] at hcl
      rw [List.take_of_length_le (by have := HN.out; omega)] at hd
      have HD := Lib.hid hd
      clear hd
      have hxl : (PSpec.mark ++ put i ++ cat L).length ≤ 10000 := by have := HP.out; simp [PSpec.mark]; omega
      have hx0 : 0 < (PSpec.mark ++ put i ++ cat L).length := by simp [PSpec.mark]
      generalize PSpec.mark ++ put i ++ cat L = X at *
      have HXL := Lib.hid hxl
      have HX0 := Lib.hid hx0
      clear hxl hx0 hcl
      go_wp2_with fail
      refine (k_string HD.out (by rw [B_sz]; exact HX0.out)).mono ?_
      rintro e w8 ⟨rfl, hb⟩
      have HB8 := Lib.hid (HB.out.trans (hb.mono HSZ.out))
      have HT8 := Lib.hid (HT.out.below HB8.out)
      clear hb HB HD
      go_wp2_with fail
      refine (k_seal _ (by rw [B_sz]; have := HXL.out; omega) _ HT8.out).mono ?_
      rintro e w9 ⟨rfl, hb⟩
      rw [HE.out]
      go_wp2
      go_ret
      exact ⟨rfl, below_step HB8.out hb⟩
theorem c_encode {A : Option Addr} {n cap : Nat} {L : List P} {w : World} (hT : HOn.Tab w) (hR : Ro w A L) (hn : L.length = n) (hl : n ≤ 1000) (hc : n ≤ cap) (hcm : cap ≤ 9223372036854775807) :
    Calls Tryd.prog 10 #[.slice A n cap] w fun e w' => e = .returned (.string (enc L)) ∧ Below w.heap.size w w' := by
  cases hr : right L with
  | true => exact walk_yes A n cap L w hT hR hn hl hc hcm hr
  | false =>
    rw [(enc_empty L).2 hr]
    exact walk_no A n cap L w hR hn hl hc hr
end Go.Proofs.YtakibnkhfmneiaaDoor.PEnc
end
section
/- The contracts of pack and of the document's pack. -/
namespace Go.Proofs.YtakibnkhfmneiaaDoor.PCon
open Go.RowKit CMem HShow HAppd HAppC HSpec HCon WMath BMath CEq WEq PSpec PDec PEnc Q Go.Proofs.YtakibnkhfmneiaaDoorW.PrintWords Go.Proofs.YtakibnkhfmneiaaDoorW.PrintLast Go.Proofs.YtakibnkhfmneiaaDoorW.PrintMore
set_option linter.unusedVariables false
set_option linter.unusedSimpArgs false
theorem row_T {w : World} {b : Nat} {v : Value} {L : List P} (h : Kd.R k43 43 w b (fun _ => True) v (T L)) : ∃ B d, v = .slice B L.length d ∧ L.length ≤ d ∧ Ro w B L := by
  obtain ⟨B, d, rfl, hd⟩ := h.2.slice_
  obtain ⟨B', d', e', hd', hrd⟩ := h.2.reads
  obtain ⟨rfl, _, rfl⟩ : B = B' ∧ _ ∧ d = d' := by injection e' with e1 e2 e3; exact ⟨e1, trivial, e3⟩
  rw [T_len] at hd
  refine ⟨B, d, by rw [T_len], hd, Ro.of24 (w := w) (n := (T L).length) ⟨hrd.1, hrd.2.1, fun h0 => ?_⟩⟩
  obtain ⟨ad, ea, hx⟩ := hrd.2.2 h0
  exact ⟨ad, ea, fun j p hp => by
    obtain ⟨cc, h1, h2, h3⟩ := hx j p hp
    exact ⟨cc, h1, Kd.K_of_M _ h2, h3⟩⟩
theorem row_U {w : World} {b : Nat} {v : Value} {L : List P} (h : Kd.R k52 52 w b (fun _ => True) v (U L)) : ∃ B d, v = .slice B L.length d ∧ L.length ≤ d ∧ Ro w B L := by
  obtain ⟨B, d, rfl, hd⟩ := h.2.slice_
  obtain ⟨B', d', e', hd', hrd⟩ := h.2.reads
  obtain ⟨rfl, _, rfl⟩ : B = B' ∧ _ ∧ d = d' := by injection e' with e1 e2 e3; exact ⟨e1, trivial, e3⟩
  rw [U_len] at hd
  refine ⟨B, d, by rw [U_len], hd, Ro.of36 (w := w) (n := (U L).length) ⟨hrd.1, hrd.2.1, fun h0 => ?_⟩⟩
  obtain ⟨ad, ea, hx⟩ := hrd.2.2 h0
  exact ⟨ad, ea, fun j p hp => by
    obtain ⟨cc, h1, h2, h3⟩ := hx j p hp
    exact ⟨cc, h1, Kd.K_of_M _ h2, h3⟩⟩
theorem c_decode {s : ByteArray} (hs : s.size ≤ 1000) {w : World} (hT : HOn.Tab w) : Calls Tryd.prog 7 #[.string s] w fun e w' =>
    (∃ B d, e = .returned (.tuple #[.slice B (dec s).1.length d, .int .i64 ((dec s).2 : Int)]) ∧ (dec s).1.length ≤ d ∧ Ro w' B (dec s).1) ∧ Below w.heap.size w w' := by
  refine (pack_Decode.calls 2001 s _ _ w hT (dec_eq s hs)).mono ?_
  rintro e w' ⟨v, rfl, hr, hb⟩
  obtain ⟨B, d, rfl, h1, h2⟩ := row_T hr
  exact ⟨⟨B, d, rfl, h1, h2⟩, hb⟩
theorem r_decode {s : ByteArray} (hs : s.size ≤ 1000) (w : World) : Calls Tryd.prog 8 #[.string s] w fun e w' =>
    (∃ B d, e = .returned (.tuple #[.slice B (dec s).1.length d, .int .i64 ((dec s).2 : Int)]) ∧ (dec s).1.length ≤ d ∧ Ro w' B (dec s).1) ∧ Below w.heap.size w w' := by
  refine (clewref16_Decode.calls 20000 s _ _ w (rdec_eq s hs)).mono ?_
  rintro e w' ⟨v, rfl, hr, hb⟩
  obtain ⟨B, d, rfl, h1, h2⟩ := row_U hr
  exact ⟨⟨B, d, rfl, h1, h2⟩, hb⟩
theorem r_encode {A : Option Addr} {n c : Nat} {L : List P} {w : World} (hR : Ro w A L) (hn : L.length = n) (hl : n ≤ 1000) (hc : n ≤ c) : Calls Tryd.prog 11 #[.slice A n c] w fun e w' => e = .returned (.string (enc L)) ∧ Below w.heap.size w w' := by
  subst hn
  have := clewref16_Encode.calls 300000 A c (U L) (enc L) w (hR.c36 hl) (by rw [U_len]; exact hc) (renc_eq L hl)
  rw [U_len] at this
  exact this
theorem c_size (n : Nat) (hn : n < 2 ^ 64) (w : World) : Calls Tryd.prog 16 #[.int .u64 (n : Int)] w fun e w' => e = .returned (.int .i64 ((put n).length : Int)) ∧ Below w.heap.size w w' :=
  wire_Size.calls 10 n _ w (size_eq 10 n (by omega) hn)
end Go.Proofs.YtakibnkhfmneiaaDoor.PCon
end
section
/- The calls whose answers the document fixes: the walk. -/
namespace Go.Proofs.YtakibnkhfmneiaaDoor.PFix
open Go.RowKit CMem HShow HAppd HAppC HSpec HCon WMath BMath CEq WEq PSpec PDec PEnc PCon Q Go.Proofs.YtakibnkhfmneiaaDoorW.PrintWords Go.Proofs.YtakibnkhfmneiaaDoorW.PrintLast Go.Proofs.YtakibnkhfmneiaaDoorW.PrintMore
set_option linter.unusedVariables false
set_option linter.unusedSimpArgs false
theorem Ro_blk {W : World} {g : Nat} {cs : Array Value} {t : TypeId} (hb : W.heap[g]? = some (.cells cs t (0, 0))) (o : Nat) (L : List P) (hx : (cs.toList.drop o).take (L.length * 2) = cl L) : Ro W (some ⟨g, o, none⟩) L := by
  refine fun _ => ⟨_, rfl, fun q p hq => ?_⟩
  have hql : q < L.length := (List.getElem?_eq_some_iff.1 hq).1
  obtain ⟨c0, c1⟩ := cl_cells L q p hq
  rw [← hx] at c0 c1
  have key : ∀ m, m < L.length * 2 → ∀ v, ((cs.toList.drop o).take (L.length * 2))[m]? = some v → W.cell? ((⟨g, o, none⟩ : Addr).add m) = some v := fun m hm v hv => by
    rw [List.getElem?_take, if_pos hm, List.getElem?_drop] at hv
    rw [Go.Lib.add_plain]
    exact blk_cell (p := (0, 0)) hb (o + m) v (by simpa using hv)
  exact ⟨key _ (by omega) _ c0, key _ (by omega) _ c1⟩
theorem plain_of_cell {w : World} {a : Addr} {v : Value} (h : w.cell? a = some v) : a = ⟨a.block, a.off, none⟩ := by
  obtain ⟨b, o, sp⟩ := a
  cases sp with
  | none => rfl
  | some x =>
    exfalso
    unfold World.cell? at h
    simp at h
    split at h <;> simp at h
theorem Ro.plain {w : World} {A : Option Addr} {L : List P} (h : Ro w A L) (h0 : 0 < L.length) : ∃ b o, A = some ⟨b, o, none⟩ ∧ ∀ q p, L[q]? = some p → w.cell? ⟨b, o + q * 2, none⟩ = some (.int .i64 p.1) ∧ w.cell? ⟨b, o + q * 2 + 1, none⟩ = some (.int .i64 p.2) := by
  obtain ⟨ad, rfl, hc⟩ := h h0
  have h1 := (hc 0 _ (List.getElem?_eq_getElem h0)).1
  rw [show ad.add (0 * 2) = ad by simp [Addr.add]] at h1
  have h2 := plain_of_cell h1
  refine ⟨ad.block, ad.off, by rw [← h2], fun q p hq => ?_⟩
  have h3 := hc q p hq
  rw [h2, Go.Lib.add_plain, Go.Lib.add_plain] at h3
  exact h3
theorem c_dec {s : ByteArray} (hs : s.size ≤ 1000) {L : List P} {n x : Nat} {y : Int} (hd : dec s = (L, x)) (hn : L.length = n) (hy : (x : Int) = y) {w : World} (hT : HOn.Tab w) : Calls Tryd.prog 7 #[.string s] w fun e w' =>
    (∃ B d, e = .returned (.tuple #[.slice B n d, .int .i64 y]) ∧ n ≤ d ∧ Ro w' B L) ∧ Below w.heap.size w w' := by
  have := c_decode hs hT
  rw [hd] at this
  simp only [] at this
  rw [hn, hy] at this
  exact this
theorem dec_seal (s : ByteArray) {r : List P × Nat} (h : dec1 (bl s) = r) : dec (sealB s) = r := by
  unfold dec
  rw [open_seal]
  simp only []
  rw [if_neg (by simp), h]
theorem d_ab : dec ⟨#[97, 98]⟩ = ([], 2) := by kernel_rfl
theorem d_abcd : dec ⟨#[97, 98, 99, 100]⟩ = ([], 8) := by kernel_rfl
theorem d_clow : dec (sealB ⟨#[67, 76, 79, 87, 0]⟩) = ([], 3) := dec_seal _ (by kernel_rfl)
theorem d_one : dec (sealB ⟨#[67, 76, 69, 87, 1]⟩) = ([], 2) := dec_seal _ (by kernel_rfl)
theorem d_x : dec (sealB ⟨#[67, 76, 69, 87, 0, 120]⟩) = ([], 3) := dec_seal _ (by kernel_rfl)
theorem d_big : dec (sealB ⟨#[67, 76, 69, 87, 194, 16, 0, 1]⟩) = ([], 4) := dec_seal _ (by kernel_rfl)
theorem d_two : dec (sealB ⟨#[67, 76, 69, 87, 1, 2]⟩) = ([], 3) := dec_seal _ (by kernel_rfl)
abbrev L3 : List P := [(0, 3), (1, 0), (3, 0)]
theorem e_3 : enc L3 = sealB ⟨#[67, 76, 69, 87, 3, 18, 1, 3]⟩ := by
  unfold enc
  rw [if_pos (by kernel_rfl), show PSpec.B (body L3) = ⟨#[67, 76, 69, 87, 3, 18, 1, 3]⟩ by kernel_rfl]
theorem e_0 : enc [] = sealB ⟨#[67, 76, 69, 87, 0]⟩ := by
  unfold enc
  rw [if_pos (by kernel_rfl), show PSpec.B (body []) = ⟨#[67, 76, 69, 87, 0]⟩ by kernel_rfl]
theorem e_no : enc [(3, 0)] = ⟨#[]⟩ := (enc_empty _).2 (by kernel_rfl)
theorem d_3 : dec (enc L3) = (L3, 0) := dec_enc (by kernel_rfl) (by decide)
set_option maxRecDepth 100000 in
set_option maxHeartbeats 6400000 in
theorem fixed_walk (w : World) (hT : HOn.Tab w) : Calls Tryd.prog 14 #[] w fun e w' => e = .returned (.bool true) ∧ Below w.heap.size w w' := by
  have HT := Lib.hid hT
  clear hT
  obtain ⟨q, hq⟩ : ∃ q, sealB ⟨#[67, 76, 69, 87, 3, 18, 1, 3]⟩ = q := ⟨_, rfl⟩
  have HQ := Lib.hid hq
  have HE : Hid (enc L3 = q) := e_3.trans hq
  have HD : Hid (dec q = (L3, 0)) := by unfold Hid; rw [← HE.out]; exact d_3
  have HQS : Hid (q.size ≤ 1000) := by unfold Hid; rw [← hq, sealB_size]; decide
  clear hq
  obtain ⟨q0, hq0⟩ : ∃ q, sealB ⟨#[67, 76, 69, 87, 0]⟩ = q := ⟨_, rfl⟩
  have HQ0 := Lib.hid hq0
  have HE0 : Hid (enc [] = q0) := e_0.trans hq0
  clear hq0
  go_enter Tryd.func14, Tryd.ntmps14
  go_wp2_with fail
  have BB := Lib.hid (heap_alloc_new w (.cells #[.int .i64 0, .int .i64 3, .int .i64 1, .int .i64 0, .int .i64 3, .int .i64 0] 43))
  have hb := below1 w (.cells #[.int .i64 0, .int .i64 3, .int .i64 1, .int .i64 0, .int .i64 3, .int .i64 0] 43)
  have HT2 := Lib.hid (HT.out.below hb)
  have HB := Lib.hid hb
  clear hb HT
  generalize hW : w.alloc (.cells #[.int .i64 0, .int .i64 3, .int .i64 1, .int .i64 0, .int .i64 3, .int .i64 0] 43) = w1 at *
  clear hW
  obtain ⟨g, hg⟩ : ∃ g, w.heap.size = g := ⟨_, rfl⟩
  rw [hg] at BB ⊢
  clear hg
  refine (c_encode HT2.out (Ro_blk BB.out 0 L3 rfl) (n := 3) rfl (by decide) (by decide) (by decide)).mono ?_
  rintro e w2 ⟨rfl, hb⟩
  rw [HE.out]
  have HT_2 := Lib.hid (HT2.out.below hb)
  have HB_2 := Lib.hid (below_step HB.out hb)
  have BB_2 := Lib.hid ((hb.block _ (CMem.lt_of_blk BB.out)).trans BB.out)
  clear hb HT2 HB BB
  go_wp2_with fail
  refine (c_dec HQS.out HD.out (n := 3) (y := 0) rfl rfl HT_2.out).mono ?_
  rintro e w3 ⟨⟨B, d, rfl, hd, hRB⟩, hb⟩
  have HT_3 := Lib.hid (HT_2.out.below hb)
  have HB_3 := Lib.hid (below_step HB_2.out hb)
  have BB_3 := Lib.hid ((hb.block _ (CMem.lt_of_blk BB_2.out)).trans BB_2.out)
  clear hb HT_2 HB_2 BB_2
  have HRB_3 := Lib.hid hRB
  clear hRB
  go_wp2_with fail
  refine (c_dec (by decide) d_ab (n := 0) (y := 2) rfl rfl HT_3.out).mono ?_
  rintro e w4 ⟨⟨B_d_ab, d_d_ab_, rfl, hd_d_ab, _⟩, hb⟩
  have HT_4 := Lib.hid (HT_3.out.below hb)
  have HB_4 := Lib.hid (below_step HB_3.out hb)
  have BB_4 := Lib.hid ((hb.block _ (CMem.lt_of_blk BB_3.out)).trans BB_3.out)
  have HRB_4 := Lib.hid (HRB_3.out.below hb)
  clear hb HT_3 HB_3 BB_3 HRB_3
  go_wp2_with fail
  refine (c_dec (by decide) d_abcd (n := 0) (y := 8) rfl rfl HT_4.out).mono ?_
  rintro e w5 ⟨⟨B_d_abcd, d_d_abcd_, rfl, hd_d_abcd, _⟩, hb⟩
  have HT_5 := Lib.hid (HT_4.out.below hb)
  have HB_5 := Lib.hid (below_step HB_4.out hb)
  have BB_5 := Lib.hid ((hb.block _ (CMem.lt_of_blk BB_4.out)).trans BB_4.out)
  have HRB_5 := Lib.hid (HRB_4.out.below hb)
  clear hb HT_4 HB_4 BB_4 HRB_4
  go_wp2_with fail
  refine (k_seal ⟨#[67, 76, 79, 87, 0]⟩ (by decide) _ HT_5.out).mono ?_
  rintro e w6 ⟨rfl, hb⟩
  have HT_6 := Lib.hid (HT_5.out.below hb)
  have HB_6 := Lib.hid (below_step HB_5.out hb)
  have BB_6 := Lib.hid ((hb.block _ (CMem.lt_of_blk BB_5.out)).trans BB_5.out)
  have HRB_6 := Lib.hid (HRB_5.out.below hb)
  clear hb HT_5 HB_5 BB_5 HRB_5
  go_wp2_with fail
  refine (c_dec (by rw [sealB_size]; decide) d_clow (n := 0) (y := 3) rfl rfl HT_6.out).mono ?_
  rintro e w7 ⟨⟨B_d_clow, d_d_clow_, rfl, hd_d_clow, _⟩, hb⟩
  have HT_7 := Lib.hid (HT_6.out.below hb)
  have HB_7 := Lib.hid (below_step HB_6.out hb)
  have BB_7 := Lib.hid ((hb.block _ (CMem.lt_of_blk BB_6.out)).trans BB_6.out)
  have HRB_7 := Lib.hid (HRB_6.out.below hb)
  clear hb HT_6 HB_6 BB_6 HRB_6
  go_wp2_with fail
  refine (k_seal ⟨#[67, 76, 69, 87, 1]⟩ (by decide) _ HT_7.out).mono ?_
  rintro e w8 ⟨rfl, hb⟩
  have HT_8 := Lib.hid (HT_7.out.below hb)
  have HB_8 := Lib.hid (below_step HB_7.out hb)
  have BB_8 := Lib.hid ((hb.block _ (CMem.lt_of_blk BB_7.out)).trans BB_7.out)
  have HRB_8 := Lib.hid (HRB_7.out.below hb)
  clear hb HT_7 HB_7 BB_7 HRB_7
  go_wp2_with fail
  refine (c_dec (by rw [sealB_size]; decide) d_one (n := 0) (y := 2) rfl rfl HT_8.out).mono ?_
  rintro e w9 ⟨⟨B_d_one, d_d_one_, rfl, hd_d_one, _⟩, hb⟩
  have HT_9 := Lib.hid (HT_8.out.below hb)
  have HB_9 := Lib.hid (below_step HB_8.out hb)
  have BB_9 := Lib.hid ((hb.block _ (CMem.lt_of_blk BB_8.out)).trans BB_8.out)
  have HRB_9 := Lib.hid (HRB_8.out.below hb)
  clear hb HT_8 HB_8 BB_8 HRB_8
  go_wp2_with fail
  refine (k_seal ⟨#[67, 76, 69, 87, 0, 120]⟩ (by decide) _ HT_9.out).mono ?_
  rintro e w10 ⟨rfl, hb⟩
  have HT_10 := Lib.hid (HT_9.out.below hb)
  have HB_10 := Lib.hid (below_step HB_9.out hb)
  have BB_10 := Lib.hid ((hb.block _ (CMem.lt_of_blk BB_9.out)).trans BB_9.out)
  have HRB_10 := Lib.hid (HRB_9.out.below hb)
  clear hb HT_9 HB_9 BB_9 HRB_9
  go_wp2_with fail
  refine (c_dec (by rw [sealB_size]; decide) d_x (n := 0) (y := 3) rfl rfl HT_10.out).mono ?_
  rintro e w11 ⟨⟨B_d_x, d_d_x_, rfl, hd_d_x, _⟩, hb⟩
  have HT_11 := Lib.hid (HT_10.out.below hb)
  have HB_11 := Lib.hid (below_step HB_10.out hb)
  have BB_11 := Lib.hid ((hb.block _ (CMem.lt_of_blk BB_10.out)).trans BB_10.out)
  have HRB_11 := Lib.hid (HRB_10.out.below hb)
  clear hb HT_10 HB_10 BB_10 HRB_10
  go_wp2_with fail
  refine (k_seal ⟨#[67, 76, 69, 87, 194, 16, 0, 1]⟩ (by decide) _ HT_11.out).mono ?_
  rintro e w12 ⟨rfl, hb⟩
  have HT_12 := Lib.hid (HT_11.out.below hb)
  have HB_12 := Lib.hid (below_step HB_11.out hb)
  have BB_12 := Lib.hid ((hb.block _ (CMem.lt_of_blk BB_11.out)).trans BB_11.out)
  have HRB_12 := Lib.hid (HRB_11.out.below hb)
  clear hb HT_11 HB_11 BB_11 HRB_11
  go_wp2_with fail
  refine (c_dec (by rw [sealB_size]; decide) d_big (n := 0) (y := 4) rfl rfl HT_12.out).mono ?_
  rintro e w13 ⟨⟨B_d_big, d_d_big_, rfl, hd_d_big, _⟩, hb⟩
  have HT_13 := Lib.hid (HT_12.out.below hb)
  have HB_13 := Lib.hid (below_step HB_12.out hb)
  have BB_13 := Lib.hid ((hb.block _ (CMem.lt_of_blk BB_12.out)).trans BB_12.out)
  have HRB_13 := Lib.hid (HRB_12.out.below hb)
  clear hb HT_12 HB_12 BB_12 HRB_12
  go_wp2_with fail
  refine (k_seal ⟨#[67, 76, 69, 87, 1, 2]⟩ (by decide) _ HT_13.out).mono ?_
  rintro e w14 ⟨rfl, hb⟩
  have HT_14 := Lib.hid (HT_13.out.below hb)
  have HB_14 := Lib.hid (below_step HB_13.out hb)
  have BB_14 := Lib.hid ((hb.block _ (CMem.lt_of_blk BB_13.out)).trans BB_13.out)
  have HRB_14 := Lib.hid (HRB_13.out.below hb)
  clear hb HT_13 HB_13 BB_13 HRB_13
  go_wp2_with fail
  refine (c_dec (by rw [sealB_size]; decide) d_two (n := 0) (y := 3) rfl rfl HT_14.out).mono ?_
  rintro e w15 ⟨⟨B_d_two, d_d_two_, rfl, hd_d_two, _⟩, hb⟩
  have HT_15 := Lib.hid (HT_14.out.below hb)
  have HB_15 := Lib.hid (below_step HB_14.out hb)
  have BB_15 := Lib.hid ((hb.block _ (CMem.lt_of_blk BB_14.out)).trans BB_14.out)
  have HRB_15 := Lib.hid (HRB_14.out.below hb)
  clear hb HT_14 HB_14 BB_14 HRB_14
  obtain ⟨xb, xo, rfl, hc⟩ := Ro.plain HRB_15.out (by decide)
  have hc0 := hc 0 _ rfl
  have hc1 := hc 1 _ rfl
  have hc2 := hc 2 _ rfl
  have hbb := BB_15.out
  have hbl := HB_15.out
  have htb := HT_15.out
  clear hc BB_15 HB_15 HT_15 HRB_15
  generalize hWW : w15 = W0 at *
  clear hWW
  rw [show xo + 0 * 2 = xo by omega] at hc0
  rw [show xo + 1 * 2 = xo + 2 by omega, show xo + 2 + 1 = xo + 3 by omega] at hc1
  rw [show xo + 2 * 2 = xo + 4 by omega, show xo + 4 + 1 = xo + 5 by omega] at hc2
  have HC0 := Lib.hid hc0
  have HC1 := Lib.hid hc1
  have HC2 := Lib.hid hc2
  have HBB := Lib.hid hbb
  have HBL := Lib.hid hbl
  have HTB := Lib.hid htb
  clear hc0 hc1 hc2 hbb hbl htb
  go_wp2
  as_aux_lemma =>
    refine start_ (n := 74) (S := fun w' => w'.cell? ⟨xb, xo, none⟩ = some (.int .i64 0) ∧ w'.cell? ⟨xb, xo + 1, none⟩ = some (.int .i64 3) ∧ w'.cell? ⟨xb, xo + 2, none⟩ = some (.int .i64 1) ∧ w'.cell? ⟨xb, xo + 3, none⟩ = some (.int .i64 0) ∧ w'.cell? ⟨xb, xo + 4, none⟩ = some (.int .i64 3) ∧ w'.cell? ⟨xb, xo + 5, none⟩ = some (.int .i64 0) ∧ w'.cell? ⟨g, 0, none⟩ = some (.int .i64 0) ∧ w'.cell? ⟨g, 1, none⟩ = some (.int .i64 3) ∧ w'.cell? ⟨g, 2, none⟩ = some (.int .i64 1) ∧ w'.cell? ⟨g, 3, none⟩ = some (.int .i64 0) ∧ w'.cell? ⟨g, 4, none⟩ = some (.int .i64 3) ∧ w'.cell? ⟨g, 5, none⟩ = some (.int .i64 0) ∧ w'.heap[g]? = some (.cells #[.int .i64 0, .int .i64 3, .int .i64 1, .int .i64 0, .int .i64 3, .int .i64 0] 43 (0, 0)) ∧ HOn.Tab w' ∧ Below w.heap.size w w') (ds := []) #[false, false, false, false, false, false, false, false, false, false, false, false, false, false, false, false, false, false, false, false, false, false, false, false, false, false, false, false, false, false, false, false, false, false, false, false, false, false, false, false, false, false, false, false, false, false, false, false, false, false, false, false, false, false, false, false, false, false, false, false, false, false, false, false, false, false, false, false, false, false, false, false, false, false] (by kernel_rfl) rfl rfl ⟨HC0.out.1, HC0.out.2, HC1.out.1, HC1.out.2, HC2.out.1, HC2.out.2, (blk_cell (p := (0, 0)) HBB.out 0 _ rfl), (blk_cell (p := (0, 0)) HBB.out 1 _ rfl), (blk_cell (p := (0, 0)) HBB.out 2 _ rfl), (blk_cell (p := (0, 0)) HBB.out 3 _ rfl), (blk_cell (p := (0, 0)) HBB.out 4 _ rfl), (blk_cell (p := (0, 0)) HBB.out 5 _ rfl), HBB.out, (HTB.out.below ((Below.refl _ _).drew)), HBL.out.drew⟩ (fun hHeld => ?_)
    refine pure_ (i := 0) (N := some 66) (v := ?_) (a' := ?_) #[true, false, false, false, false, false, false, false, false, false, false, false, false, false, false, false, false, false, false, false, false, false, false, false, false, false, false, false, false, false, false, false, false, false, false, false, false, false, false, false, false, false, false, false, false, false, false, false, false, false, false, false, false, false, false, false, false, false, false, false, false, false, false, false, false, false, false, false, false, false, false, false, false, false] rfl rfl (by kernel_rfl) (fun _ _ _ h => h) (Or.inl ⟨by rfl, ?_⟩) ?_ ?_
    rotate_left
    · intro w'
      go_simp
      with_reducible rfl
    rotate_left
    · simp only [Act.put, List.setIfInBounds_toArray, List.set_cons_zero, List.set_cons_succ, i64_w, i32_w]
      rfl
    as_aux_lemma =>
      refine one_ (i := 1) (N := some 67) #[true, true, false, false, false, false, false, false, false, false, false, false, false, false, false, false, false, false, false, false, false, false, false, false, false, false, false, false, false, false, false, false, false, false, false, false, false, false, false, false, false, false, false, false, false, false, false, false, false, false, false, false, false, false, false, false, false, false, false, false, false, false, false, false, false, false, false, false, false, false, false, false, false, false] rfl rfl (by kernel_rfl) (by decide) (fun K hK => ?_)
      refine goes_ Tryd.func9 (by kernel_rfl) rfl #[.string ⟨#[67, 76, 69, 87, 3, 18, 1, 3]⟩] (by rfl) rfl rfl (by simp only [List.map_toArray, List.map_cons, List.map_nil]; rfl) ?_
      with_reducible refine ((HQ.out ▸ k_seal ⟨#[67, 76, 69, 87, 3, 18, 1, 3]⟩ (by decide) _ hHeld.2.2.2.2.2.2.2.2.2.2.2.2.2.1)).mono ?_
      rintro e X1 ⟨rfl, hb⟩
      refine ⟨_, rfl, ?_⟩
      refine hK.out _ _ ⟨(below_of hb hHeld.1), (below_of hb hHeld.2.1), (below_of hb hHeld.2.2.1), (below_of hb hHeld.2.2.2.1), (below_of hb hHeld.2.2.2.2.1), (below_of hb hHeld.2.2.2.2.2.1), (below_of hb hHeld.2.2.2.2.2.2.1), (below_of hb hHeld.2.2.2.2.2.2.2.1), (below_of hb hHeld.2.2.2.2.2.2.2.2.1), (below_of hb hHeld.2.2.2.2.2.2.2.2.2.1), (below_of hb hHeld.2.2.2.2.2.2.2.2.2.2.1), (below_of hb hHeld.2.2.2.2.2.2.2.2.2.2.2.1), ((hb.block _ (lt_of_blk hHeld.2.2.2.2.2.2.2.2.2.2.2.2.1)).trans hHeld.2.2.2.2.2.2.2.2.2.2.2.2.1), (HOn.Tab.below hHeld.2.2.2.2.2.2.2.2.2.2.2.2.2.1 hb), (below_step hHeld.2.2.2.2.2.2.2.2.2.2.2.2.2.2 hb)⟩ (fun hHeld => ?_)
      clear hK K
      refine norm_ (a' := ?_) ?_ ?_
      rotate_left
      · show Act.put _ (some 67) _ = _
        simp only [Act.put, List.setIfInBounds_toArray, List.set_cons_zero, List.set_cons_succ, i64_w, i32_w]
        rfl
      refine pure_ (i := 2) (N := some 68) (v := ?_) (a' := ?_) #[true, true, true, false, false, false, false, false, false, false, false, false, false, false, false, false, false, false, false, false, false, false, false, false, false, false, false, false, false, false, false, false, false, false, false, false, false, false, false, false, false, false, false, false, false, false, false, false, false, false, false, false, false, false, false, false, false, false, false, false, false, false, false, false, false, false, false, false, false, false, false, false, false, false] rfl rfl (by kernel_rfl) (fun _ _ _ h => h) (Or.inl ⟨by rfl, ?_⟩) ?_ ?_
      rotate_left
      · intro w'
        go_simp
        with_reducible rfl
      rotate_left
      · simp only [Act.put, List.setIfInBounds_toArray, List.set_cons_zero, List.set_cons_succ, i64_w, i32_w]
        rfl
      refine pure_ (i := 3) (N := some 69) (v := ?_) (a' := ?_) #[true, true, true, true, false, false, false, false, false, false, false, false, false, false, false, false, false, false, false, false, false, false, false, false, false, false, false, false, false, false, false, false, false, false, false, false, false, false, false, false, false, false, false, false, false, false, false, false, false, false, false, false, false, false, false, false, false, false, false, false, false, false, false, false, false, false, false, false, false, false, false, false, false, false] rfl rfl (by kernel_rfl) (fun _ _ _ h => h) (Or.inl ⟨by rfl, ?_⟩) ?_ ?_
      rotate_left
      · intro w'
        go_simp
        with_reducible rfl
      rotate_left
      · simp only [Act.put, List.setIfInBounds_toArray, List.set_cons_zero, List.set_cons_succ, i64_w, i32_w]
        rfl
      refine pure_ (i := 4) (N := some 70) (v := ?_) (a' := ?_) #[true, true, true, true, true, false, false, false, false, false, false, false, false, false, false, false, false, false, false, false, false, false, false, false, false, false, false, false, false, false, false, false, false, false, false, false, false, false, false, false, false, false, false, false, false, false, false, false, false, false, false, false, false, false, false, false, false, false, false, false, false, false, false, false, false, false, false, false, false, false, false, false, false, false] rfl rfl (by kernel_rfl) (fun _ _ _ h => h) (Or.inl ⟨by rfl, ?_⟩) ?_ ?_
      rotate_left
      · intro w'
        go_simp
        with_reducible rfl
      rotate_left
      · simp only [Act.put, List.setIfInBounds_toArray, List.set_cons_zero, List.set_cons_succ, i64_w, i32_w]
        rfl
      as_aux_lemma =>
        refine pure_ (i := 5) (N := some 71) (v := ?_) (a' := ?_) #[true, true, true, true, true, true, false, false, false, false, false, false, false, false, false, false, false, false, false, false, false, false, false, false, false, false, false, false, false, false, false, false, false, false, false, false, false, false, false, false, false, false, false, false, false, false, false, false, false, false, false, false, false, false, false, false, false, false, false, false, false, false, false, false, false, false, false, false, false, false, false, false, false, false] rfl rfl (by kernel_rfl) (fun _ _ _ h => h) (Or.inl ⟨by rfl, ?_⟩) ?_ ?_
        rotate_left
        · intro w'
          go_simp
          with_reducible rfl
        rotate_left
        · simp only [Act.put, List.setIfInBounds_toArray, List.set_cons_zero, List.set_cons_succ, i64_w, i32_w]
          rfl
        refine pure_ (i := 6) (N := some 72) (v := ?_) (a' := ?_) #[true, true, true, true, true, true, true, false, false, false, false, false, false, false, false, false, false, false, false, false, false, false, false, false, false, false, false, false, false, false, false, false, false, false, false, false, false, false, false, false, false, false, false, false, false, false, false, false, false, false, false, false, false, false, false, false, false, false, false, false, false, false, false, false, false, false, false, false, false, false, false, false, false, false] rfl rfl (by kernel_rfl) (fun _ _ _ h => h) (Or.inl ⟨by rfl, ?_⟩) ?_ ?_
        rotate_left
        · intro w'
          go_simp
          with_reducible rfl
        rotate_left
        · simp only [Act.put, List.setIfInBounds_toArray, List.set_cons_zero, List.set_cons_succ, i64_w, i32_w]
          rfl
        refine pure_ (i := 7) (N := some 73) (v := ?_) (a' := ?_) #[true, true, true, true, true, true, true, true, false, false, false, false, false, false, false, false, false, false, false, false, false, false, false, false, false, false, false, false, false, false, false, false, false, false, false, false, false, false, false, false, false, false, false, false, false, false, false, false, false, false, false, false, false, false, false, false, false, false, false, false, false, false, false, false, false, false, false, false, false, false, false, false, false, false] rfl rfl (by kernel_rfl) (fun _ _ _ h => h) (Or.inl ⟨by rfl, ?_⟩) ?_ ?_
        rotate_left
        · intro w'
          go_simp
          with_reducible rfl
        rotate_left
        · simp only [Act.put, List.setIfInBounds_toArray, List.set_cons_zero, List.set_cons_succ, i64_w, i32_w]
          rfl
        refine pure_ (i := 8) (N := some 74) (v := ?_) (a' := ?_) #[true, true, true, true, true, true, true, true, true, false, false, false, false, false, false, false, false, false, false, false, false, false, false, false, false, false, false, false, false, false, false, false, false, false, false, false, false, false, false, false, false, false, false, false, false, false, false, false, false, false, false, false, false, false, false, false, false, false, false, false, false, false, false, false, false, false, false, false, false, false, false, false, false, false] rfl rfl (by kernel_rfl) (fun _ _ _ h => h) (Or.inl ⟨by rfl, ?_⟩) ?_ ?_
        rotate_left
        · intro w'
          go_simp
          with_reducible rfl
        rotate_left
        · simp only [Act.put, List.setIfInBounds_toArray, List.set_cons_zero, List.set_cons_succ, i64_w, i32_w]
          rfl
        as_aux_lemma =>
          refine pure_ (i := 9) (N := some 75) (v := ?_) (a' := ?_) #[true, true, true, true, true, true, true, true, true, true, false, false, false, false, false, false, false, false, false, false, false, false, false, false, false, false, false, false, false, false, false, false, false, false, false, false, false, false, false, false, false, false, false, false, false, false, false, false, false, false, false, false, false, false, false, false, false, false, false, false, false, false, false, false, false, false, false, false, false, false, false, false, false, false] rfl rfl (by kernel_rfl) (fun _ _ _ h => h) (Or.inl ⟨by rfl, ?_⟩) ?_ ?_
          rotate_left
          · intro w'
            go_simp
            with_reducible rfl
          rotate_left
          · simp only [Act.put, List.setIfInBounds_toArray, List.set_cons_zero, List.set_cons_succ, i64_w, i32_w]
            rfl
          refine pure_ (i := 11) (N := some 77) (v := ?_) (a' := ?_) #[true, true, true, true, true, true, true, true, true, true, false, true, false, false, false, false, false, false, false, false, false, false, false, false, false, false, false, false, false, false, false, false, false, false, false, false, false, false, false, false, false, false, false, false, false, false, false, false, false, false, false, false, false, false, false, false, false, false, false, false, false, false, false, false, false, false, false, false, false, false, false, false, false, false] rfl rfl (by kernel_rfl) (fun _ _ _ h => h) (Or.inl ⟨by rfl, ?_⟩) ?_ ?_
          rotate_left
          · intro w'
            go_simp
            with_reducible rfl
          rotate_left
          · simp only [Act.put, List.setIfInBounds_toArray, List.set_cons_zero, List.set_cons_succ, i64_w, i32_w]
            rfl
          refine pure_ (i := 12) (N := some 78) (v := ?_) (a' := ?_) #[true, true, true, true, true, true, true, true, true, true, false, true, true, false, false, false, false, false, false, false, false, false, false, false, false, false, false, false, false, false, false, false, false, false, false, false, false, false, false, false, false, false, false, false, false, false, false, false, false, false, false, false, false, false, false, false, false, false, false, false, false, false, false, false, false, false, false, false, false, false, false, false, false, false] rfl rfl (by kernel_rfl) (fun _ _ _ h => h) (Or.inl ⟨by rfl, ?_⟩) ?_ ?_
          rotate_left
          · intro w'
            go_simp
            with_reducible rfl
          rotate_left
          · simp only [Act.put, List.setIfInBounds_toArray, List.set_cons_zero, List.set_cons_succ, i64_w, i32_w]
            rfl
          refine take_ (i := 10) (N := some 76) (v := ?_) (a' := ?_) #[true, true, true, true, true, true, true, true, true, true, true, true, true, false, false, false, false, false, false, false, false, false, false, false, false, false, false, false, false, false, false, false, false, false, false, false, false, false, false, false, false, false, false, false, false, false, false, false, false, false, false, false, false, false, false, false, false, false, false, false, false, false, false, false, false, false, false, false, false, false, false, false, false, false] rfl rfl (by kernel_rfl) (fun _ _ _ h => h) (Or.inl ⟨by rfl, ?_⟩) hHeld ?_ ?_
          rotate_left
          · rintro w' ⟨s0, s1, s2, s3, s4, s5, s6, s7, s8, s9, s10, s11, s12, s13, s14⟩
            go_simp
            with_reducible rfl
          rotate_left
          · simp only [Act.put, List.setIfInBounds_toArray, List.set_cons_zero, List.set_cons_succ, i64_w, i32_w]
            rfl
          refine take_ (i := 13) (N := some 79) (v := ?_) (a' := ?_) #[true, true, true, true, true, true, true, true, true, true, true, true, true, true, false, false, false, false, false, false, false, false, false, false, false, false, false, false, false, false, false, false, false, false, false, false, false, false, false, false, false, false, false, false, false, false, false, false, false, false, false, false, false, false, false, false, false, false, false, false, false, false, false, false, false, false, false, false, false, false, false, false, false, false] rfl rfl (by kernel_rfl) (fun _ _ _ h => h) (Or.inl ⟨by rfl, ?_⟩) hHeld ?_ ?_
          rotate_left
          · rintro w' ⟨s0, s1, s2, s3, s4, s5, s6, s7, s8, s9, s10, s11, s12, s13, s14⟩
            go_simp
            with_reducible rfl
          rotate_left
          · simp only [Act.put, List.setIfInBounds_toArray, List.set_cons_zero, List.set_cons_succ, i64_w, i32_w]
            rfl
          as_aux_lemma =>
            refine pure_ (i := 14) (N := some 80) (v := ?_) (a' := ?_) #[true, true, true, true, true, true, true, true, true, true, true, true, true, true, true, false, false, false, false, false, false, false, false, false, false, false, false, false, false, false, false, false, false, false, false, false, false, false, false, false, false, false, false, false, false, false, false, false, false, false, false, false, false, false, false, false, false, false, false, false, false, false, false, false, false, false, false, false, false, false, false, false, false, false] rfl rfl (by kernel_rfl) (fun _ _ _ h => h) (Or.inl ⟨by rfl, ?_⟩) ?_ ?_
            rotate_left
            · intro w'
              go_simp
              with_reducible rfl
            rotate_left
            · simp only [Act.put, List.setIfInBounds_toArray, List.set_cons_zero, List.set_cons_succ, i64_w, i32_w]
              rfl
            refine pure_ (i := 15) (N := some 81) (v := ?_) (a' := ?_) #[true, true, true, true, true, true, true, true, true, true, true, true, true, true, true, true, false, false, false, false, false, false, false, false, false, false, false, false, false, false, false, false, false, false, false, false, false, false, false, false, false, false, false, false, false, false, false, false, false, false, false, false, false, false, false, false, false, false, false, false, false, false, false, false, false, false, false, false, false, false, false, false, false, false] rfl rfl (by kernel_rfl) (fun _ _ _ h => h) (Or.inl ⟨by rfl, ?_⟩) ?_ ?_
            rotate_left
            · intro w'
              go_simp
              with_reducible rfl
            rotate_left
            · simp only [Act.put, List.setIfInBounds_toArray, List.set_cons_zero, List.set_cons_succ, i64_w, i32_w]
              rfl
            refine pure_ (i := 16) (N := some 82) (v := ?_) (a' := ?_) #[true, true, true, true, true, true, true, true, true, true, true, true, true, true, true, true, true, false, false, false, false, false, false, false, false, false, false, false, false, false, false, false, false, false, false, false, false, false, false, false, false, false, false, false, false, false, false, false, false, false, false, false, false, false, false, false, false, false, false, false, false, false, false, false, false, false, false, false, false, false, false, false, false, false] rfl rfl (by kernel_rfl) (fun _ _ _ h => h) (Or.inl ⟨by rfl, ?_⟩) ?_ ?_
            rotate_left
            · intro w'
              go_simp
              with_reducible rfl
            rotate_left
            · simp only [Act.put, List.setIfInBounds_toArray, List.set_cons_zero, List.set_cons_succ, i64_w, i32_w]
              rfl
            refine pure_ (i := 17) (N := some 83) (v := ?_) (a' := ?_) #[true, true, true, true, true, true, true, true, true, true, true, true, true, true, true, true, true, true, false, false, false, false, false, false, false, false, false, false, false, false, false, false, false, false, false, false, false, false, false, false, false, false, false, false, false, false, false, false, false, false, false, false, false, false, false, false, false, false, false, false, false, false, false, false, false, false, false, false, false, false, false, false, false, false] rfl rfl (by kernel_rfl) (fun _ _ _ h => h) (Or.inl ⟨by rfl, ?_⟩) ?_ ?_
            rotate_left
            · intro w'
              go_simp
              with_reducible rfl
            rotate_left
            · simp only [Act.put, List.setIfInBounds_toArray, List.set_cons_zero, List.set_cons_succ, i64_w, i32_w]
              rfl
            as_aux_lemma =>
              refine pure_ (i := 18) (N := some 84) (v := ?_) (a' := ?_) #[true, true, true, true, true, true, true, true, true, true, true, true, true, true, true, true, true, true, true, false, false, false, false, false, false, false, false, false, false, false, false, false, false, false, false, false, false, false, false, false, false, false, false, false, false, false, false, false, false, false, false, false, false, false, false, false, false, false, false, false, false, false, false, false, false, false, false, false, false, false, false, false, false, false] rfl rfl (by kernel_rfl) (fun _ _ _ h => h) (Or.inl ⟨by rfl, ?_⟩) ?_ ?_
              rotate_left
              · intro w'
                go_simp
                with_reducible rfl
              rotate_left
              · simp only [Act.put, List.setIfInBounds_toArray, List.set_cons_zero, List.set_cons_succ, i64_w, i32_w]
                rfl
              refine pure_ (i := 20) (N := some 86) (v := ?_) (a' := ?_) #[true, true, true, true, true, true, true, true, true, true, true, true, true, true, true, true, true, true, true, false, true, false, false, false, false, false, false, false, false, false, false, false, false, false, false, false, false, false, false, false, false, false, false, false, false, false, false, false, false, false, false, false, false, false, false, false, false, false, false, false, false, false, false, false, false, false, false, false, false, false, false, false, false, false] rfl rfl (by kernel_rfl) (fun _ _ _ h => h) (Or.inl ⟨by rfl, ?_⟩) ?_ ?_
              rotate_left
              · intro w'
                go_simp
                with_reducible rfl
              rotate_left
              · simp only [Act.put, List.setIfInBounds_toArray, List.set_cons_zero, List.set_cons_succ, i64_w, i32_w]
                rfl
              refine pure_ (i := 21) (N := some 87) (v := ?_) (a' := ?_) #[true, true, true, true, true, true, true, true, true, true, true, true, true, true, true, true, true, true, true, false, true, true, false, false, false, false, false, false, false, false, false, false, false, false, false, false, false, false, false, false, false, false, false, false, false, false, false, false, false, false, false, false, false, false, false, false, false, false, false, false, false, false, false, false, false, false, false, false, false, false, false, false, false, false] rfl rfl (by kernel_rfl) (fun _ _ _ h => h) (Or.inl ⟨by rfl, ?_⟩) ?_ ?_
              rotate_left
              · intro w'
                go_simp
                with_reducible rfl
              rotate_left
              · simp only [Act.put, List.setIfInBounds_toArray, List.set_cons_zero, List.set_cons_succ, i64_w, i32_w]
                rfl
              refine take_ (i := 19) (N := some 85) (v := ?_) (a' := ?_) #[true, true, true, true, true, true, true, true, true, true, true, true, true, true, true, true, true, true, true, true, true, true, false, false, false, false, false, false, false, false, false, false, false, false, false, false, false, false, false, false, false, false, false, false, false, false, false, false, false, false, false, false, false, false, false, false, false, false, false, false, false, false, false, false, false, false, false, false, false, false, false, false, false, false] rfl rfl (by kernel_rfl) (fun _ _ _ h => h) (Or.inl ⟨by rfl, ?_⟩) hHeld ?_ ?_
              rotate_left
              · rintro w' ⟨s0, s1, s2, s3, s4, s5, s6, s7, s8, s9, s10, s11, s12, s13, s14⟩
                go_simp
                with_reducible rfl
              rotate_left
              · simp only [Act.put, List.setIfInBounds_toArray, List.set_cons_zero, List.set_cons_succ, i64_w, i32_w]
                rfl
              refine take_ (i := 22) (N := some 88) (v := ?_) (a' := ?_) #[true, true, true, true, true, true, true, true, true, true, true, true, true, true, true, true, true, true, true, true, true, true, true, false, false, false, false, false, false, false, false, false, false, false, false, false, false, false, false, false, false, false, false, false, false, false, false, false, false, false, false, false, false, false, false, false, false, false, false, false, false, false, false, false, false, false, false, false, false, false, false, false, false, false] rfl rfl (by kernel_rfl) (fun _ _ _ h => h) (Or.inl ⟨by rfl, ?_⟩) hHeld ?_ ?_
              rotate_left
              · rintro w' ⟨s0, s1, s2, s3, s4, s5, s6, s7, s8, s9, s10, s11, s12, s13, s14⟩
                go_simp
                with_reducible rfl
              rotate_left
              · simp only [Act.put, List.setIfInBounds_toArray, List.set_cons_zero, List.set_cons_succ, i64_w, i32_w]
                rfl
              as_aux_lemma =>
                refine pure_ (i := 23) (N := some 89) (v := ?_) (a' := ?_) #[true, true, true, true, true, true, true, true, true, true, true, true, true, true, true, true, true, true, true, true, true, true, true, true, false, false, false, false, false, false, false, false, false, false, false, false, false, false, false, false, false, false, false, false, false, false, false, false, false, false, false, false, false, false, false, false, false, false, false, false, false, false, false, false, false, false, false, false, false, false, false, false, false, false] rfl rfl (by kernel_rfl) (fun _ _ _ h => h) (Or.inl ⟨by rfl, ?_⟩) ?_ ?_
                rotate_left
                · intro w'
                  go_simp
                  with_reducible rfl
                rotate_left
                · simp only [Act.put, List.setIfInBounds_toArray, List.set_cons_zero, List.set_cons_succ, i64_w, i32_w]
                  rfl
                refine pure_ (i := 24) (N := some 90) (v := ?_) (a' := ?_) #[true, true, true, true, true, true, true, true, true, true, true, true, true, true, true, true, true, true, true, true, true, true, true, true, true, false, false, false, false, false, false, false, false, false, false, false, false, false, false, false, false, false, false, false, false, false, false, false, false, false, false, false, false, false, false, false, false, false, false, false, false, false, false, false, false, false, false, false, false, false, false, false, false, false] rfl rfl (by kernel_rfl) (fun _ _ _ h => h) (Or.inl ⟨by rfl, ?_⟩) ?_ ?_
                rotate_left
                · intro w'
                  go_simp
                  with_reducible rfl
                rotate_left
                · simp only [Act.put, List.setIfInBounds_toArray, List.set_cons_zero, List.set_cons_succ, i64_w, i32_w]
                  rfl
                refine pure_ (i := 25) (N := some 91) (v := ?_) (a' := ?_) #[true, true, true, true, true, true, true, true, true, true, true, true, true, true, true, true, true, true, true, true, true, true, true, true, true, true, false, false, false, false, false, false, false, false, false, false, false, false, false, false, false, false, false, false, false, false, false, false, false, false, false, false, false, false, false, false, false, false, false, false, false, false, false, false, false, false, false, false, false, false, false, false, false, false] rfl rfl (by kernel_rfl) (fun _ _ _ h => h) (Or.inl ⟨by rfl, ?_⟩) ?_ ?_
                rotate_left
                · intro w'
                  go_simp
                  with_reducible rfl
                rotate_left
                · simp only [Act.put, List.setIfInBounds_toArray, List.set_cons_zero, List.set_cons_succ, i64_w, i32_w]
                  rfl
                refine pure_ (i := 26) (N := some 92) (v := ?_) (a' := ?_) #[true, true, true, true, true, true, true, true, true, true, true, true, true, true, true, true, true, true, true, true, true, true, true, true, true, true, true, false, false, false, false, false, false, false, false, false, false, false, false, false, false, false, false, false, false, false, false, false, false, false, false, false, false, false, false, false, false, false, false, false, false, false, false, false, false, false, false, false, false, false, false, false, false, false] rfl rfl (by kernel_rfl) (fun _ _ _ h => h) (Or.inl ⟨by rfl, ?_⟩) ?_ ?_
                rotate_left
                · intro w'
                  go_simp
                  with_reducible rfl
                rotate_left
                · simp only [Act.put, List.setIfInBounds_toArray, List.set_cons_zero, List.set_cons_succ, i64_w, i32_w]
                  rfl
                as_aux_lemma =>
                  refine pure_ (i := 27) (N := some 93) (v := ?_) (a' := ?_) #[true, true, true, true, true, true, true, true, true, true, true, true, true, true, true, true, true, true, true, true, true, true, true, true, true, true, true, true, false, false, false, false, false, false, false, false, false, false, false, false, false, false, false, false, false, false, false, false, false, false, false, false, false, false, false, false, false, false, false, false, false, false, false, false, false, false, false, false, false, false, false, false, false, false] rfl rfl (by kernel_rfl) (fun _ _ _ h => h) (Or.inl ⟨by rfl, ?_⟩) ?_ ?_
                  rotate_left
                  · intro w'
                    go_simp
                    with_reducible rfl
                  rotate_left
                  · simp only [Act.put, List.setIfInBounds_toArray, List.set_cons_zero, List.set_cons_succ, i64_w, i32_w]
                    rfl
                  refine pure_ (i := 29) (N := some 95) (v := ?_) (a' := ?_) #[true, true, true, true, true, true, true, true, true, true, true, true, true, true, true, true, true, true, true, true, true, true, true, true, true, true, true, true, false, true, false, false, false, false, false, false, false, false, false, false, false, false, false, false, false, false, false, false, false, false, false, false, false, false, false, false, false, false, false, false, false, false, false, false, false, false, false, false, false, false, false, false, false, false] rfl rfl (by kernel_rfl) (fun _ _ _ h => h) (Or.inl ⟨by rfl, ?_⟩) ?_ ?_
                  rotate_left
                  · intro w'
                    go_simp
                    with_reducible rfl
                  rotate_left
                  · simp only [Act.put, List.setIfInBounds_toArray, List.set_cons_zero, List.set_cons_succ, i64_w, i32_w]
                    rfl
                  refine pure_ (i := 30) (N := some 96) (v := ?_) (a' := ?_) #[true, true, true, true, true, true, true, true, true, true, true, true, true, true, true, true, true, true, true, true, true, true, true, true, true, true, true, true, false, true, true, false, false, false, false, false, false, false, false, false, false, false, false, false, false, false, false, false, false, false, false, false, false, false, false, false, false, false, false, false, false, false, false, false, false, false, false, false, false, false, false, false, false, false] rfl rfl (by kernel_rfl) (fun _ _ _ h => h) (Or.inl ⟨by rfl, ?_⟩) ?_ ?_
                  rotate_left
                  · intro w'
                    go_simp
                    with_reducible rfl
                  rotate_left
                  · simp only [Act.put, List.setIfInBounds_toArray, List.set_cons_zero, List.set_cons_succ, i64_w, i32_w]
                    rfl
                  refine take_ (i := 28) (N := some 94) (v := ?_) (a' := ?_) #[true, true, true, true, true, true, true, true, true, true, true, true, true, true, true, true, true, true, true, true, true, true, true, true, true, true, true, true, true, true, true, false, false, false, false, false, false, false, false, false, false, false, false, false, false, false, false, false, false, false, false, false, false, false, false, false, false, false, false, false, false, false, false, false, false, false, false, false, false, false, false, false, false, false] rfl rfl (by kernel_rfl) (fun _ _ _ h => h) (Or.inl ⟨by rfl, ?_⟩) hHeld ?_ ?_
                  rotate_left
                  · rintro w' ⟨s0, s1, s2, s3, s4, s5, s6, s7, s8, s9, s10, s11, s12, s13, s14⟩
                    go_simp
                    with_reducible rfl
                  rotate_left
                  · simp only [Act.put, List.setIfInBounds_toArray, List.set_cons_zero, List.set_cons_succ, i64_w, i32_w]
                    rfl
                  refine take_ (i := 31) (N := some 97) (v := ?_) (a' := ?_) #[true, true, true, true, true, true, true, true, true, true, true, true, true, true, true, true, true, true, true, true, true, true, true, true, true, true, true, true, true, true, true, true, false, false, false, false, false, false, false, false, false, false, false, false, false, false, false, false, false, false, false, false, false, false, false, false, false, false, false, false, false, false, false, false, false, false, false, false, false, false, false, false, false, false] rfl rfl (by kernel_rfl) (fun _ _ _ h => h) (Or.inl ⟨by rfl, ?_⟩) hHeld ?_ ?_
                  rotate_left
                  · rintro w' ⟨s0, s1, s2, s3, s4, s5, s6, s7, s8, s9, s10, s11, s12, s13, s14⟩
                    go_simp
                    with_reducible rfl
                  rotate_left
                  · simp only [Act.put, List.setIfInBounds_toArray, List.set_cons_zero, List.set_cons_succ, i64_w, i32_w]
                    rfl
                  as_aux_lemma =>
                    refine pure_ (i := 32) (N := some 98) (v := ?_) (a' := ?_) #[true, true, true, true, true, true, true, true, true, true, true, true, true, true, true, true, true, true, true, true, true, true, true, true, true, true, true, true, true, true, true, true, true, false, false, false, false, false, false, false, false, false, false, false, false, false, false, false, false, false, false, false, false, false, false, false, false, false, false, false, false, false, false, false, false, false, false, false, false, false, false, false, false, false] rfl rfl (by kernel_rfl) (fun _ _ _ h => h) (Or.inl ⟨by rfl, ?_⟩) ?_ ?_
                    rotate_left
                    · intro w'
                      go_simp
                      with_reducible rfl
                    rotate_left
                    · simp only [Act.put, List.setIfInBounds_toArray, List.set_cons_zero, List.set_cons_succ, i64_w, i32_w]
                      rfl
                    refine pure_ (i := 33) (N := some 99) (v := ?_) (a' := ?_) #[true, true, true, true, true, true, true, true, true, true, true, true, true, true, true, true, true, true, true, true, true, true, true, true, true, true, true, true, true, true, true, true, true, true, false, false, false, false, false, false, false, false, false, false, false, false, false, false, false, false, false, false, false, false, false, false, false, false, false, false, false, false, false, false, false, false, false, false, false, false, false, false, false, false] rfl rfl (by kernel_rfl) (fun _ _ _ h => h) (Or.inl ⟨by rfl, ?_⟩) ?_ ?_
                    rotate_left
                    · intro w'
                      go_simp
                      with_reducible rfl
                    rotate_left
                    · simp only [Act.put, List.setIfInBounds_toArray, List.set_cons_zero, List.set_cons_succ, i64_w, i32_w]
                      rfl
                    refine pure_ (i := 34) (N := some 100) (v := ?_) (a' := ?_) #[true, true, true, true, true, true, true, true, true, true, true, true, true, true, true, true, true, true, true, true, true, true, true, true, true, true, true, true, true, true, true, true, true, true, true, false, false, false, false, false, false, false, false, false, false, false, false, false, false, false, false, false, false, false, false, false, false, false, false, false, false, false, false, false, false, false, false, false, false, false, false, false, false, false] rfl rfl (by kernel_rfl) (fun _ _ _ h => h) (Or.inl ⟨by rfl, ?_⟩) ?_ ?_
                    rotate_left
                    · intro w'
                      go_simp
                      with_reducible rfl
                    rotate_left
                    · simp only [Act.put, List.setIfInBounds_toArray, List.set_cons_zero, List.set_cons_succ, i64_w, i32_w]
                      rfl
                    refine pure_ (i := 35) (N := some 101) (v := ?_) (a' := ?_) #[true, true, true, true, true, true, true, true, true, true, true, true, true, true, true, true, true, true, true, true, true, true, true, true, true, true, true, true, true, true, true, true, true, true, true, true, false, false, false, false, false, false, false, false, false, false, false, false, false, false, false, false, false, false, false, false, false, false, false, false, false, false, false, false, false, false, false, false, false, false, false, false, false, false] rfl rfl (by kernel_rfl) (fun _ _ _ h => h) (Or.inl ⟨by rfl, ?_⟩) ?_ ?_
                    rotate_left
                    · intro w'
                      go_simp
                      with_reducible rfl
                    rotate_left
                    · simp only [Act.put, List.setIfInBounds_toArray, List.set_cons_zero, List.set_cons_succ, i64_w, i32_w]
                      rfl
                    as_aux_lemma =>
                      refine pure_ (i := 36) (N := some 102) (v := ?_) (a' := ?_) #[true, true, true, true, true, true, true, true, true, true, true, true, true, true, true, true, true, true, true, true, true, true, true, true, true, true, true, true, true, true, true, true, true, true, true, true, true, false, false, false, false, false, false, false, false, false, false, false, false, false, false, false, false, false, false, false, false, false, false, false, false, false, false, false, false, false, false, false, false, false, false, false, false, false] rfl rfl (by kernel_rfl) (fun _ _ _ h => h) (Or.inl ⟨by rfl, ?_⟩) ?_ ?_
                      rotate_left
                      · intro w'
                        go_simp
                        with_reducible rfl
                      rotate_left
                      · simp only [Act.put, List.setIfInBounds_toArray, List.set_cons_zero, List.set_cons_succ, i64_w, i32_w]
                        rfl
                      refine pure_ (i := 37) (N := some 103) (v := ?_) (a' := ?_) #[true, true, true, true, true, true, true, true, true, true, true, true, true, true, true, true, true, true, true, true, true, true, true, true, true, true, true, true, true, true, true, true, true, true, true, true, true, true, false, false, false, false, false, false, false, false, false, false, false, false, false, false, false, false, false, false, false, false, false, false, false, false, false, false, false, false, false, false, false, false, false, false, false, false] rfl rfl (by kernel_rfl) (fun _ _ _ h => h) (Or.inl ⟨by rfl, ?_⟩) ?_ ?_
                      rotate_left
                      · intro w'
                        go_simp
                        with_reducible rfl
                      rotate_left
                      · simp only [Act.put, List.setIfInBounds_toArray, List.set_cons_zero, List.set_cons_succ, i64_w, i32_w]
                        rfl
                      refine pure_ (i := 38) (N := some 104) (v := ?_) (a' := ?_) #[true, true, true, true, true, true, true, true, true, true, true, true, true, true, true, true, true, true, true, true, true, true, true, true, true, true, true, true, true, true, true, true, true, true, true, true, true, true, true, false, false, false, false, false, false, false, false, false, false, false, false, false, false, false, false, false, false, false, false, false, false, false, false, false, false, false, false, false, false, false, false, false, false, false] rfl rfl (by kernel_rfl) (fun _ _ _ h => h) (Or.inl ⟨by rfl, ?_⟩) ?_ ?_
                      rotate_left
                      · intro w'
                        go_simp
                        with_reducible rfl
                      rotate_left
                      · simp only [Act.put, List.setIfInBounds_toArray, List.set_cons_zero, List.set_cons_succ, i64_w, i32_w]
                        rfl
                      refine pure_ (i := 39) (N := some 105) (v := ?_) (a' := ?_) #[true, true, true, true, true, true, true, true, true, true, true, true, true, true, true, true, true, true, true, true, true, true, true, true, true, true, true, true, true, true, true, true, true, true, true, true, true, true, true, true, false, false, false, false, false, false, false, false, false, false, false, false, false, false, false, false, false, false, false, false, false, false, false, false, false, false, false, false, false, false, false, false, false, false] rfl rfl (by kernel_rfl) (fun _ _ _ h => h) (Or.inl ⟨by rfl, ?_⟩) ?_ ?_
                      rotate_left
                      · intro w'
                        go_simp
                        with_reducible rfl
                      rotate_left
                      · simp only [Act.put, List.setIfInBounds_toArray, List.set_cons_zero, List.set_cons_succ, i64_w, i32_w]
                        rfl
                      as_aux_lemma =>
                        refine pure_ (i := 40) (N := some 106) (v := ?_) (a' := ?_) #[true, true, true, true, true, true, true, true, true, true, true, true, true, true, true, true, true, true, true, true, true, true, true, true, true, true, true, true, true, true, true, true, true, true, true, true, true, true, true, true, true, false, false, false, false, false, false, false, false, false, false, false, false, false, false, false, false, false, false, false, false, false, false, false, false, false, false, false, false, false, false, false, false, false] rfl rfl (by kernel_rfl) (fun _ _ _ h => h) (Or.inl ⟨by rfl, ?_⟩) ?_ ?_
                        rotate_left
                        · intro w'
                          go_simp
                          with_reducible rfl
                        rotate_left
                        · simp only [Act.put, List.setIfInBounds_toArray, List.set_cons_zero, List.set_cons_succ, i64_w, i32_w]
                          rfl
                        refine pure_ (i := 41) (N := some 107) (v := ?_) (a' := ?_) #[true, true, true, true, true, true, true, true, true, true, true, true, true, true, true, true, true, true, true, true, true, true, true, true, true, true, true, true, true, true, true, true, true, true, true, true, true, true, true, true, true, true, false, false, false, false, false, false, false, false, false, false, false, false, false, false, false, false, false, false, false, false, false, false, false, false, false, false, false, false, false, false, false, false] rfl rfl (by kernel_rfl) (fun _ _ _ h => h) (Or.inl ⟨by rfl, ?_⟩) ?_ ?_
                        rotate_left
                        · intro w'
                          go_simp
                          with_reducible rfl
                        rotate_left
                        · simp only [Act.put, List.setIfInBounds_toArray, List.set_cons_zero, List.set_cons_succ, i64_w, i32_w]
                          rfl
                        refine pure_ (i := 42) (N := some 108) (v := ?_) (a' := ?_) #[true, true, true, true, true, true, true, true, true, true, true, true, true, true, true, true, true, true, true, true, true, true, true, true, true, true, true, true, true, true, true, true, true, true, true, true, true, true, true, true, true, true, true, false, false, false, false, false, false, false, false, false, false, false, false, false, false, false, false, false, false, false, false, false, false, false, false, false, false, false, false, false, false, false] rfl rfl (by kernel_rfl) (fun _ _ _ h => h) (Or.inl ⟨by rfl, ?_⟩) ?_ ?_
                        rotate_left
                        · intro w'
                          go_simp
                          with_reducible rfl
                        rotate_left
                        · simp only [Act.put, List.setIfInBounds_toArray, List.set_cons_zero, List.set_cons_succ, i64_w, i32_w]
                          rfl
                        refine pure_ (i := 43) (N := some 109) (v := ?_) (a' := ?_) #[true, true, true, true, true, true, true, true, true, true, true, true, true, true, true, true, true, true, true, true, true, true, true, true, true, true, true, true, true, true, true, true, true, true, true, true, true, true, true, true, true, true, true, true, false, false, false, false, false, false, false, false, false, false, false, false, false, false, false, false, false, false, false, false, false, false, false, false, false, false, false, false, false, false] rfl rfl (by kernel_rfl) (fun _ _ _ h => h) (Or.inl ⟨by rfl, ?_⟩) ?_ ?_
                        rotate_left
                        · intro w'
                          go_simp
                          with_reducible rfl
                        rotate_left
                        · simp only [Act.put, List.setIfInBounds_toArray, List.set_cons_zero, List.set_cons_succ, i64_w, i32_w]
                          rfl
                        as_aux_lemma =>
                          refine pure_ (i := 44) (N := some 110) (v := ?_) (a' := ?_) #[true, true, true, true, true, true, true, true, true, true, true, true, true, true, true, true, true, true, true, true, true, true, true, true, true, true, true, true, true, true, true, true, true, true, true, true, true, true, true, true, true, true, true, true, true, false, false, false, false, false, false, false, false, false, false, false, false, false, false, false, false, false, false, false, false, false, false, false, false, false, false, false, false, false] rfl rfl (by kernel_rfl) (fun _ _ _ h => h) (Or.inl ⟨by rfl, ?_⟩) ?_ ?_
                          rotate_left
                          · intro w'
                            go_simp
                            with_reducible rfl
                          rotate_left
                          · simp only [Act.put, List.setIfInBounds_toArray, List.set_cons_zero, List.set_cons_succ, i64_w, i32_w]
                            rfl
                          refine pure_ (i := 45) (N := some 111) (v := ?_) (a' := ?_) #[true, true, true, true, true, true, true, true, true, true, true, true, true, true, true, true, true, true, true, true, true, true, true, true, true, true, true, true, true, true, true, true, true, true, true, true, true, true, true, true, true, true, true, true, true, true, false, false, false, false, false, false, false, false, false, false, false, false, false, false, false, false, false, false, false, false, false, false, false, false, false, false, false, false] rfl rfl (by kernel_rfl) (fun _ _ _ h => h) (Or.inl ⟨by rfl, ?_⟩) ?_ ?_
                          rotate_left
                          · intro w'
                            go_simp
                            with_reducible rfl
                          rotate_left
                          · simp only [Act.put, List.setIfInBounds_toArray, List.set_cons_zero, List.set_cons_succ, i64_w, i32_w]
                            rfl
                          refine pure_ (i := 46) (N := some 112) (v := ?_) (a' := ?_) #[true, true, true, true, true, true, true, true, true, true, true, true, true, true, true, true, true, true, true, true, true, true, true, true, true, true, true, true, true, true, true, true, true, true, true, true, true, true, true, true, true, true, true, true, true, true, true, false, false, false, false, false, false, false, false, false, false, false, false, false, false, false, false, false, false, false, false, false, false, false, false, false, false, false] rfl rfl (by kernel_rfl) (fun _ _ _ h => h) (Or.inl ⟨by rfl, ?_⟩) ?_ ?_
                          rotate_left
                          · intro w'
                            go_simp
                            with_reducible rfl
                          rotate_left
                          · simp only [Act.put, List.setIfInBounds_toArray, List.set_cons_zero, List.set_cons_succ, i64_w, i32_w]
                            rfl
                          refine pure_ (i := 47) (N := some 113) (v := ?_) (a' := ?_) #[true, true, true, true, true, true, true, true, true, true, true, true, true, true, true, true, true, true, true, true, true, true, true, true, true, true, true, true, true, true, true, true, true, true, true, true, true, true, true, true, true, true, true, true, true, true, true, true, false, false, false, false, false, false, false, false, false, false, false, false, false, false, false, false, false, false, false, false, false, false, false, false, false, false] rfl rfl (by kernel_rfl) (fun _ _ _ h => h) (Or.inl ⟨by rfl, ?_⟩) ?_ ?_
                          rotate_left
                          · intro w'
                            go_simp
                            with_reducible rfl
                          rotate_left
                          · simp only [Act.put, List.setIfInBounds_toArray, List.set_cons_zero, List.set_cons_succ, i64_w, i32_w]
                            rfl
                          as_aux_lemma =>
                            refine pure_ (i := 48) (N := some 114) (v := ?_) (a' := ?_) #[true, true, true, true, true, true, true, true, true, true, true, true, true, true, true, true, true, true, true, true, true, true, true, true, true, true, true, true, true, true, true, true, true, true, true, true, true, true, true, true, true, true, true, true, true, true, true, true, true, false, false, false, false, false, false, false, false, false, false, false, false, false, false, false, false, false, false, false, false, false, false, false, false, false] rfl rfl (by kernel_rfl) (fun _ _ _ h => h) (Or.inl ⟨by rfl, ?_⟩) ?_ ?_
                            rotate_left
                            · intro w'
                              go_simp
                              with_reducible rfl
                            rotate_left
                            · simp only [Act.put, List.setIfInBounds_toArray, List.set_cons_zero, List.set_cons_succ, i64_w, i32_w]
                              rfl
                            refine pure_ (i := 49) (N := some 115) (v := ?_) (a' := ?_) #[true, true, true, true, true, true, true, true, true, true, true, true, true, true, true, true, true, true, true, true, true, true, true, true, true, true, true, true, true, true, true, true, true, true, true, true, true, true, true, true, true, true, true, true, true, true, true, true, true, true, false, false, false, false, false, false, false, false, false, false, false, false, false, false, false, false, false, false, false, false, false, false, false, false] rfl rfl (by kernel_rfl) (fun _ _ _ h => h) (Or.inl ⟨by rfl, ?_⟩) ?_ ?_
                            rotate_left
                            · intro w'
                              go_simp
                              with_reducible rfl
                            rotate_left
                            · simp only [Act.put, List.setIfInBounds_toArray, List.set_cons_zero, List.set_cons_succ, i64_w, i32_w]
                              rfl
                            refine pure_ (i := 50) (N := some 116) (v := ?_) (a' := ?_) #[true, true, true, true, true, true, true, true, true, true, true, true, true, true, true, true, true, true, true, true, true, true, true, true, true, true, true, true, true, true, true, true, true, true, true, true, true, true, true, true, true, true, true, true, true, true, true, true, true, true, true, false, false, false, false, false, false, false, false, false, false, false, false, false, false, false, false, false, false, false, false, false, false, false] rfl rfl (by kernel_rfl) (fun _ _ _ h => h) (Or.inl ⟨by rfl, ?_⟩) ?_ ?_
                            rotate_left
                            · intro w'
                              go_simp
                              with_reducible rfl
                            rotate_left
                            · simp only [Act.put, List.setIfInBounds_toArray, List.set_cons_zero, List.set_cons_succ, i64_w, i32_w]
                              rfl
                            refine pure_ (i := 51) (N := some 117) (v := ?_) (a' := ?_) #[true, true, true, true, true, true, true, true, true, true, true, true, true, true, true, true, true, true, true, true, true, true, true, true, true, true, true, true, true, true, true, true, true, true, true, true, true, true, true, true, true, true, true, true, true, true, true, true, true, true, true, true, false, false, false, false, false, false, false, false, false, false, false, false, false, false, false, false, false, false, false, false, false, false] rfl rfl (by kernel_rfl) (fun _ _ _ h => h) (Or.inl ⟨by rfl, ?_⟩) ?_ ?_
                            rotate_left
                            · intro w'
                              go_simp
                              with_reducible rfl
                            rotate_left
                            · simp only [Act.put, List.setIfInBounds_toArray, List.set_cons_zero, List.set_cons_succ, i64_w, i32_w]
                              rfl
                            as_aux_lemma =>
                              refine pure_ (i := 52) (N := some 118) (v := ?_) (a' := ?_) #[true, true, true, true, true, true, true, true, true, true, true, true, true, true, true, true, true, true, true, true, true, true, true, true, true, true, true, true, true, true, true, true, true, true, true, true, true, true, true, true, true, true, true, true, true, true, true, true, true, true, true, true, true, false, false, false, false, false, false, false, false, false, false, false, false, false, false, false, false, false, false, false, false, false] rfl rfl (by kernel_rfl) (fun _ _ _ h => h) (Or.inl ⟨by rfl, ?_⟩) ?_ ?_
                              rotate_left
                              · intro w'
                                go_simp
                                with_reducible rfl
                              rotate_left
                              · simp only [Act.put, List.setIfInBounds_toArray, List.set_cons_zero, List.set_cons_succ, i64_w, i32_w]
                                rfl
                              refine pure_ (i := 53) (N := some 119) (v := ?_) (a' := ?_) #[true, true, true, true, true, true, true, true, true, true, true, true, true, true, true, true, true, true, true, true, true, true, true, true, true, true, true, true, true, true, true, true, true, true, true, true, true, true, true, true, true, true, true, true, true, true, true, true, true, true, true, true, true, true, false, false, false, false, false, false, false, false, false, false, false, false, false, false, false, false, false, false, false, false] rfl rfl (by kernel_rfl) (fun _ _ _ h => h) (Or.inl ⟨by rfl, ?_⟩) ?_ ?_
                              rotate_left
                              · intro w'
                                go_simp
                                with_reducible rfl
                              rotate_left
                              · simp only [Act.put, List.setIfInBounds_toArray, List.set_cons_zero, List.set_cons_succ, i64_w, i32_w]
                                rfl
                              refine pure_ (i := 54) (N := some 120) (v := ?_) (a' := ?_) #[true, true, true, true, true, true, true, true, true, true, true, true, true, true, true, true, true, true, true, true, true, true, true, true, true, true, true, true, true, true, true, true, true, true, true, true, true, true, true, true, true, true, true, true, true, true, true, true, true, true, true, true, true, true, true, false, false, false, false, false, false, false, false, false, false, false, false, false, false, false, false, false, false, false] rfl rfl (by kernel_rfl) (fun _ _ _ h => h) (Or.inl ⟨by rfl, ?_⟩) ?_ ?_
                              rotate_left
                              · intro w'
                                go_simp
                                with_reducible rfl
                              rotate_left
                              · simp only [Act.put, List.setIfInBounds_toArray, List.set_cons_zero, List.set_cons_succ, i64_w, i32_w]
                                rfl
                              refine pure_ (i := 55) (N := some 121) (v := ?_) (a' := ?_) #[true, true, true, true, true, true, true, true, true, true, true, true, true, true, true, true, true, true, true, true, true, true, true, true, true, true, true, true, true, true, true, true, true, true, true, true, true, true, true, true, true, true, true, true, true, true, true, true, true, true, true, true, true, true, true, true, false, false, false, false, false, false, false, false, false, false, false, false, false, false, false, false, false, false] rfl rfl (by kernel_rfl) (fun _ _ _ h => h) (Or.inl ⟨by rfl, ?_⟩) ?_ ?_
                              rotate_left
                              · intro w'
                                go_simp
                                with_reducible rfl
                              rotate_left
                              · simp only [Act.put, List.setIfInBounds_toArray, List.set_cons_zero, List.set_cons_succ, i64_w, i32_w]
                                rfl
                              as_aux_lemma =>
                                refine pure_ (i := 56) (N := some 122) (v := ?_) (a' := ?_) #[true, true, true, true, true, true, true, true, true, true, true, true, true, true, true, true, true, true, true, true, true, true, true, true, true, true, true, true, true, true, true, true, true, true, true, true, true, true, true, true, true, true, true, true, true, true, true, true, true, true, true, true, true, true, true, true, true, false, false, false, false, false, false, false, false, false, false, false, false, false, false, false, false, false] rfl rfl (by kernel_rfl) (fun _ _ _ h => h) (Or.inl ⟨by rfl, ?_⟩) ?_ ?_
                                rotate_left
                                · intro w'
                                  go_simp
                                  with_reducible rfl
                                rotate_left
                                · simp only [Act.put, List.setIfInBounds_toArray, List.set_cons_zero, List.set_cons_succ, i64_w, i32_w]
                                  rfl
                                refine pure_ (i := 57) (N := some 123) (v := ?_) (a' := ?_) #[true, true, true, true, true, true, true, true, true, true, true, true, true, true, true, true, true, true, true, true, true, true, true, true, true, true, true, true, true, true, true, true, true, true, true, true, true, true, true, true, true, true, true, true, true, true, true, true, true, true, true, true, true, true, true, true, true, true, false, false, false, false, false, false, false, false, false, false, false, false, false, false, false, false] rfl rfl (by kernel_rfl) (fun _ _ _ h => h) (Or.inl ⟨by rfl, ?_⟩) ?_ ?_
                                rotate_left
                                · intro w'
                                  go_simp
                                  with_reducible rfl
                                rotate_left
                                · simp only [Act.put, List.setIfInBounds_toArray, List.set_cons_zero, List.set_cons_succ, i64_w, i32_w]
                                  rfl
                                refine pure_ (i := 58) (N := some 124) (v := ?_) (a' := ?_) #[true, true, true, true, true, true, true, true, true, true, true, true, true, true, true, true, true, true, true, true, true, true, true, true, true, true, true, true, true, true, true, true, true, true, true, true, true, true, true, true, true, true, true, true, true, true, true, true, true, true, true, true, true, true, true, true, true, true, true, false, false, false, false, false, false, false, false, false, false, false, false, false, false, false] rfl rfl (by kernel_rfl) (fun _ _ _ h => h) (Or.inl ⟨by rfl, ?_⟩) ?_ ?_
                                rotate_left
                                · intro w'
                                  go_simp
                                  with_reducible rfl
                                rotate_left
                                · simp only [Act.put, List.setIfInBounds_toArray, List.set_cons_zero, List.set_cons_succ, i64_w, i32_w]
                                  rfl
                                refine pure_ (i := 59) (N := some 125) (v := ?_) (a' := ?_) #[true, true, true, true, true, true, true, true, true, true, true, true, true, true, true, true, true, true, true, true, true, true, true, true, true, true, true, true, true, true, true, true, true, true, true, true, true, true, true, true, true, true, true, true, true, true, true, true, true, true, true, true, true, true, true, true, true, true, true, true, false, false, false, false, false, false, false, false, false, false, false, false, false, false] rfl rfl (by kernel_rfl) (fun _ _ _ h => h) (Or.inl ⟨by rfl, ?_⟩) ?_ ?_
                                rotate_left
                                · intro w'
                                  go_simp
                                  with_reducible rfl
                                rotate_left
                                · simp only [Act.put, List.setIfInBounds_toArray, List.set_cons_zero, List.set_cons_succ, i64_w, i32_w]
                                  rfl
                                as_aux_lemma =>
                                  refine pure_ (i := 60) (N := some 126) (v := ?_) (a' := ?_) #[true, true, true, true, true, true, true, true, true, true, true, true, true, true, true, true, true, true, true, true, true, true, true, true, true, true, true, true, true, true, true, true, true, true, true, true, true, true, true, true, true, true, true, true, true, true, true, true, true, true, true, true, true, true, true, true, true, true, true, true, true, false, false, false, false, false, false, false, false, false, false, false, false, false] rfl rfl (by kernel_rfl) (fun _ _ _ h => h) (Or.inl ⟨by rfl, ?_⟩) ?_ ?_
                                  rotate_left
                                  · intro w'
                                    go_simp
                                    with_reducible rfl
                                  rotate_left
                                  · simp only [Act.put, List.setIfInBounds_toArray, List.set_cons_zero, List.set_cons_succ, i64_w, i32_w]
                                    rfl
                                  refine pure_ (i := 61) (N := some 127) (v := ?_) (a' := ?_) #[true, true, true, true, true, true, true, true, true, true, true, true, true, true, true, true, true, true, true, true, true, true, true, true, true, true, true, true, true, true, true, true, true, true, true, true, true, true, true, true, true, true, true, true, true, true, true, true, true, true, true, true, true, true, true, true, true, true, true, true, true, true, false, false, false, false, false, false, false, false, false, false, false, false] rfl rfl (by kernel_rfl) (fun _ _ _ h => h) (Or.inl ⟨by rfl, ?_⟩) ?_ ?_
                                  rotate_left
                                  · intro w'
                                    go_simp
                                    with_reducible rfl
                                  rotate_left
                                  · simp only [Act.put, List.setIfInBounds_toArray, List.set_cons_zero, List.set_cons_succ, i64_w, i32_w]
                                    rfl
                                  refine pure_ (i := 62) (N := some 128) (v := ?_) (a' := ?_) #[true, true, true, true, true, true, true, true, true, true, true, true, true, true, true, true, true, true, true, true, true, true, true, true, true, true, true, true, true, true, true, true, true, true, true, true, true, true, true, true, true, true, true, true, true, true, true, true, true, true, true, true, true, true, true, true, true, true, true, true, true, true, true, false, false, false, false, false, false, false, false, false, false, false] rfl rfl (by kernel_rfl) (fun _ _ _ h => h) (Or.inl ⟨by rfl, ?_⟩) ?_ ?_
                                  rotate_left
                                  · intro w'
                                    go_simp
                                    with_reducible rfl
                                  rotate_left
                                  · simp only [Act.put, List.setIfInBounds_toArray, List.set_cons_zero, List.set_cons_succ, i64_w, i32_w]
                                    rfl
                                  refine pure_ (i := 63) (N := some 129) (v := ?_) (a' := ?_) #[true, true, true, true, true, true, true, true, true, true, true, true, true, true, true, true, true, true, true, true, true, true, true, true, true, true, true, true, true, true, true, true, true, true, true, true, true, true, true, true, true, true, true, true, true, true, true, true, true, true, true, true, true, true, true, true, true, true, true, true, true, true, true, true, false, false, false, false, false, false, false, false, false, false] rfl rfl (by kernel_rfl) (fun _ _ _ h => h) (Or.inl ⟨by rfl, ?_⟩) ?_ ?_
                                  rotate_left
                                  · intro w'
                                    go_simp
                                    with_reducible rfl
                                  rotate_left
                                  · simp only [Act.put, List.setIfInBounds_toArray, List.set_cons_zero, List.set_cons_succ, i64_w, i32_w]
                                    rfl
                                  as_aux_lemma =>
                                    refine pure_ (i := 64) (N := some 130) (v := ?_) (a' := ?_) #[true, true, true, true, true, true, true, true, true, true, true, true, true, true, true, true, true, true, true, true, true, true, true, true, true, true, true, true, true, true, true, true, true, true, true, true, true, true, true, true, true, true, true, true, true, true, true, true, true, true, true, true, true, true, true, true, true, true, true, true, true, true, true, true, true, false, false, false, false, false, false, false, false, false] rfl rfl (by kernel_rfl) (fun _ _ _ h => h) (Or.inl ⟨by rfl, ?_⟩) ?_ ?_
                                    rotate_left
                                    · intro w'
                                      go_simp
                                      with_reducible rfl
                                    rotate_left
                                    · simp only [Act.put, List.setIfInBounds_toArray, List.set_cons_zero, List.set_cons_succ, i64_w, i32_w]
                                      rfl
                                    refine one_ (i := 65) (N := some 131) #[true, true, true, true, true, true, true, true, true, true, true, true, true, true, true, true, true, true, true, true, true, true, true, true, true, true, true, true, true, true, true, true, true, true, true, true, true, true, true, true, true, true, true, true, true, true, true, true, true, true, true, true, true, true, true, true, true, true, true, true, true, true, true, true, true, true, false, false, false, false, false, false, false, false] rfl rfl (by kernel_rfl) (by decide) (fun K hK => ?_)
                                    refine goes_ Tryd.func10 (by kernel_rfl) rfl #[.slice (some ⟨g, 4, none⟩) 1 1] (by rfl) rfl rfl (by simp only [List.map_toArray, List.map_cons, List.map_nil]; rfl) ?_
                                    with_reducible refine ((e_no ▸ c_encode hHeld.2.2.2.2.2.2.2.2.2.2.2.2.2.1 (Ro_blk hHeld.2.2.2.2.2.2.2.2.2.2.2.2.1 4 [(3, 0)] rfl) (n := 1) (cap := 1) rfl (by decide) (by decide) (by decide))).mono ?_
                                    rintro e X65 ⟨rfl, hb⟩
                                    refine ⟨_, rfl, ?_⟩
                                    refine hK.out _ _ ⟨(below_of hb hHeld.1), (below_of hb hHeld.2.1), (below_of hb hHeld.2.2.1), (below_of hb hHeld.2.2.2.1), (below_of hb hHeld.2.2.2.2.1), (below_of hb hHeld.2.2.2.2.2.1), (below_of hb hHeld.2.2.2.2.2.2.1), (below_of hb hHeld.2.2.2.2.2.2.2.1), (below_of hb hHeld.2.2.2.2.2.2.2.2.1), (below_of hb hHeld.2.2.2.2.2.2.2.2.2.1), (below_of hb hHeld.2.2.2.2.2.2.2.2.2.2.1), (below_of hb hHeld.2.2.2.2.2.2.2.2.2.2.2.1), ((hb.block _ (lt_of_blk hHeld.2.2.2.2.2.2.2.2.2.2.2.2.1)).trans hHeld.2.2.2.2.2.2.2.2.2.2.2.2.1), (HOn.Tab.below hHeld.2.2.2.2.2.2.2.2.2.2.2.2.2.1 hb), (below_step hHeld.2.2.2.2.2.2.2.2.2.2.2.2.2.2 hb)⟩ (fun hHeld => ?_)
                                    clear hK K
                                    refine norm_ (a' := ?_) ?_ ?_
                                    rotate_left
                                    · show Act.put _ (some 131) _ = _
                                      simp only [Act.put, List.setIfInBounds_toArray, List.set_cons_zero, List.set_cons_succ, i64_w, i32_w]
                                      rfl
                                    as_aux_lemma =>
                                      refine pure_ (i := 66) (N := some 132) (v := ?_) (a' := ?_) #[true, true, true, true, true, true, true, true, true, true, true, true, true, true, true, true, true, true, true, true, true, true, true, true, true, true, true, true, true, true, true, true, true, true, true, true, true, true, true, true, true, true, true, true, true, true, true, true, true, true, true, true, true, true, true, true, true, true, true, true, true, true, true, true, true, true, true, false, false, false, false, false, false, false] rfl rfl (by kernel_rfl) (fun _ _ _ h => h) (Or.inl ⟨by rfl, ?_⟩) ?_ ?_
                                      rotate_left
                                      · intro w'
                                        go_simp
                                        with_reducible rfl
                                      rotate_left
                                      · simp only [Act.put, List.setIfInBounds_toArray, List.set_cons_zero, List.set_cons_succ, i64_w, i32_w]
                                        rfl
                                      refine pure_ (i := 67) (N := some 133) (v := ?_) (a' := ?_) #[true, true, true, true, true, true, true, true, true, true, true, true, true, true, true, true, true, true, true, true, true, true, true, true, true, true, true, true, true, true, true, true, true, true, true, true, true, true, true, true, true, true, true, true, true, true, true, true, true, true, true, true, true, true, true, true, true, true, true, true, true, true, true, true, true, true, true, true, false, false, false, false, false, false] rfl rfl (by kernel_rfl) (fun _ _ _ h => h) (Or.inl ⟨by rfl, ?_⟩) ?_ ?_
                                      rotate_left
                                      · intro w'
                                        go_simp
                                        with_reducible rfl
                                      rotate_left
                                      · simp only [Act.put, List.setIfInBounds_toArray, List.set_cons_zero, List.set_cons_succ, i64_w, i32_w]
                                        rfl
                                      refine pure_ (i := 68) (N := some 134) (v := ?_) (a' := ?_) #[true, true, true, true, true, true, true, true, true, true, true, true, true, true, true, true, true, true, true, true, true, true, true, true, true, true, true, true, true, true, true, true, true, true, true, true, true, true, true, true, true, true, true, true, true, true, true, true, true, true, true, true, true, true, true, true, true, true, true, true, true, true, true, true, true, true, true, true, true, false, false, false, false, false] rfl rfl (by kernel_rfl) (fun _ _ _ h => h) (Or.inl ⟨by rfl, ?_⟩) ?_ ?_
                                      rotate_left
                                      · intro w'
                                        go_simp
                                        with_reducible rfl
                                      rotate_left
                                      · simp only [Act.put, List.setIfInBounds_toArray, List.set_cons_zero, List.set_cons_succ, i64_w, i32_w]
                                        rfl
                                      as_aux_lemma =>
                                        refine one_ (i := 69) (N := some 135) #[true, true, true, true, true, true, true, true, true, true, true, true, true, true, true, true, true, true, true, true, true, true, true, true, true, true, true, true, true, true, true, true, true, true, true, true, true, true, true, true, true, true, true, true, true, true, true, true, true, true, true, true, true, true, true, true, true, true, true, true, true, true, true, true, true, true, true, true, true, true, false, false, false, false] rfl rfl (by kernel_rfl) (by decide) (fun K hK => ?_)
                                        refine goes_ Tryd.func10 (by kernel_rfl) rfl #[.slice none 0 0] (by rfl) rfl rfl (by simp only [List.map_toArray, List.map_cons, List.map_nil]; rfl) ?_
                                        with_reducible refine ((HE0.out ▸ c_encode hHeld.2.2.2.2.2.2.2.2.2.2.2.2.2.1 (Ro.nil _ none) (n := 0) (cap := 0) rfl (by decide) (by decide) (by decide))).mono ?_
                                        rintro e X69 ⟨rfl, hb⟩
                                        refine ⟨_, rfl, ?_⟩
                                        refine hK.out _ _ ⟨(below_of hb hHeld.1), (below_of hb hHeld.2.1), (below_of hb hHeld.2.2.1), (below_of hb hHeld.2.2.2.1), (below_of hb hHeld.2.2.2.2.1), (below_of hb hHeld.2.2.2.2.2.1), (below_of hb hHeld.2.2.2.2.2.2.1), (below_of hb hHeld.2.2.2.2.2.2.2.1), (below_of hb hHeld.2.2.2.2.2.2.2.2.1), (below_of hb hHeld.2.2.2.2.2.2.2.2.2.1), (below_of hb hHeld.2.2.2.2.2.2.2.2.2.2.1), (below_of hb hHeld.2.2.2.2.2.2.2.2.2.2.2.1), ((hb.block _ (lt_of_blk hHeld.2.2.2.2.2.2.2.2.2.2.2.2.1)).trans hHeld.2.2.2.2.2.2.2.2.2.2.2.2.1), (HOn.Tab.below hHeld.2.2.2.2.2.2.2.2.2.2.2.2.2.1 hb), (below_step hHeld.2.2.2.2.2.2.2.2.2.2.2.2.2.2 hb)⟩ (fun hHeld => ?_)
                                        clear hK K
                                        refine norm_ (a' := ?_) ?_ ?_
                                        rotate_left
                                        · show Act.put _ (some 135) _ = _
                                          simp only [Act.put, List.setIfInBounds_toArray, List.set_cons_zero, List.set_cons_succ, i64_w, i32_w]
                                          rfl
                                        as_aux_lemma =>
                                          refine one_ (i := 70) (N := some 136) #[true, true, true, true, true, true, true, true, true, true, true, true, true, true, true, true, true, true, true, true, true, true, true, true, true, true, true, true, true, true, true, true, true, true, true, true, true, true, true, true, true, true, true, true, true, true, true, true, true, true, true, true, true, true, true, true, true, true, true, true, true, true, true, true, true, true, true, true, true, true, true, false, false, false] rfl rfl (by kernel_rfl) (by decide) (fun K hK => ?_)
                                          refine goes_ Tryd.func9 (by kernel_rfl) rfl #[.string ⟨#[67, 76, 69, 87, 0]⟩] (by rfl) rfl rfl (by simp only [List.map_toArray, List.map_cons, List.map_nil]; rfl) ?_
                                          with_reducible refine ((HQ0.out ▸ k_seal ⟨#[67, 76, 69, 87, 0]⟩ (by decide) _ hHeld.2.2.2.2.2.2.2.2.2.2.2.2.2.1)).mono ?_
                                          rintro e X70 ⟨rfl, hb⟩
                                          refine ⟨_, rfl, ?_⟩
                                          refine hK.out _ _ ⟨(below_of hb hHeld.1), (below_of hb hHeld.2.1), (below_of hb hHeld.2.2.1), (below_of hb hHeld.2.2.2.1), (below_of hb hHeld.2.2.2.2.1), (below_of hb hHeld.2.2.2.2.2.1), (below_of hb hHeld.2.2.2.2.2.2.1), (below_of hb hHeld.2.2.2.2.2.2.2.1), (below_of hb hHeld.2.2.2.2.2.2.2.2.1), (below_of hb hHeld.2.2.2.2.2.2.2.2.2.1), (below_of hb hHeld.2.2.2.2.2.2.2.2.2.2.1), (below_of hb hHeld.2.2.2.2.2.2.2.2.2.2.2.1), ((hb.block _ (lt_of_blk hHeld.2.2.2.2.2.2.2.2.2.2.2.2.1)).trans hHeld.2.2.2.2.2.2.2.2.2.2.2.2.1), (HOn.Tab.below hHeld.2.2.2.2.2.2.2.2.2.2.2.2.2.1 hb), (below_step hHeld.2.2.2.2.2.2.2.2.2.2.2.2.2.2 hb)⟩ (fun hHeld => ?_)
                                          clear hK K
                                          refine norm_ (a' := ?_) ?_ ?_
                                          rotate_left
                                          · show Act.put _ (some 136) _ = _
                                            simp only [Act.put, List.setIfInBounds_toArray, List.set_cons_zero, List.set_cons_succ, i64_w, i32_w]
                                            rfl
                                          refine pure_ (i := 71) (N := some 137) (v := ?_) (a' := ?_) #[true, true, true, true, true, true, true, true, true, true, true, true, true, true, true, true, true, true, true, true, true, true, true, true, true, true, true, true, true, true, true, true, true, true, true, true, true, true, true, true, true, true, true, true, true, true, true, true, true, true, true, true, true, true, true, true, true, true, true, true, true, true, true, true, true, true, true, true, true, true, true, true, false, false] rfl rfl (by kernel_rfl) (fun _ _ _ h => h) (Or.inl ⟨by rfl, ?_⟩) ?_ ?_
                                          rotate_left
                                          · intro w'
                                            go_simp
                                            with_reducible rfl
                                          rotate_left
                                          · simp only [Act.put, List.setIfInBounds_toArray, List.set_cons_zero, List.set_cons_succ, i64_w, i32_w]
                                            rfl
                                          as_aux_lemma =>
                                            refine pure_ (i := 72) (N := some 138) (v := ?_) (a' := ?_) #[true, true, true, true, true, true, true, true, true, true, true, true, true, true, true, true, true, true, true, true, true, true, true, true, true, true, true, true, true, true, true, true, true, true, true, true, true, true, true, true, true, true, true, true, true, true, true, true, true, true, true, true, true, true, true, true, true, true, true, true, true, true, true, true, true, true, true, true, true, true, true, true, true, false] rfl rfl (by kernel_rfl) (fun _ _ _ h => h) (Or.inl ⟨by rfl, ?_⟩) ?_ ?_
                                            rotate_left
                                            · intro w'
                                              go_simp
                                              with_reducible rfl
                                            rotate_left
                                            · simp only [Act.put, List.setIfInBounds_toArray, List.set_cons_zero, List.set_cons_succ, i64_w, i32_w]
                                              rfl
                                            refine pure_ (i := 73) (N := some 0) (v := ?_) (a' := ?_) #[true, true, true, true, true, true, true, true, true, true, true, true, true, true, true, true, true, true, true, true, true, true, true, true, true, true, true, true, true, true, true, true, true, true, true, true, true, true, true, true, true, true, true, true, true, true, true, true, true, true, true, true, true, true, true, true, true, true, true, true, true, true, true, true, true, true, true, true, true, true, true, true, true, true] rfl rfl (by kernel_rfl) (fun _ _ _ h => h) (Or.inl ⟨by rfl, ?_⟩) ?_ ?_
                                            rotate_left
                                            · intro w'
                                              go_simp
                                              with_reducible rfl
                                            rotate_left
                                            · simp only [Act.put, List.setIfInBounds_toArray, List.set_cons_zero, List.set_cons_succ, i64_w, i32_w]
                                              rfl
                                            refine done_ (by kernel_rfl) ?_
                                            go_wp2
                                            go_ret
                                            exact ⟨rfl, hHeld.2.2.2.2.2.2.2.2.2.2.2.2.2.2⟩
end Go.Proofs.YtakibnkhfmneiaaDoor.PFix
end
section
/- What the laws' walks share. -/
namespace Go.Proofs.YtakibnkhfmneiaaDoor.PArg
open Go.RowKit CMem HShow HAppd HAppC HSpec HCon HArg WMath BMath CEq WEq PSpec PDec PEnc PCon PFix Q Go.Proofs.YtakibnkhfmneiaaDoorW.PrintWords Go.Proofs.YtakibnkhfmneiaaDoorW.PrintLast Go.Proofs.YtakibnkhfmneiaaDoorW.PrintMore
set_option linter.unusedVariables false
set_option linter.unusedSimpArgs false
theorem min_fact (n : Nat) : ∃ m : Nat, m ≤ 60 ∧ m ≤ n ∧ ∀ ats ty, Builtin.min_ ats ty #[.int .i64 (n : Int), .int .i64 60] = pure (.int .i64 (m : Int)) := by
  by_cases h : n < 60
  · refine ⟨n, by omega, by omega, fun ats ty => ?_⟩
    simp only [min_two, min2_int, pure_bind]
    rw [if_neg (by omega)]
  · refine ⟨60, by omega, by omega, fun ats ty => ?_⟩
    simp only [min_two, min2_int, pure_bind]
    by_cases h2 : (60 : Int) < n
    · rw [if_pos h2]; rfl
    · rw [if_neg h2, show (n : Int) = ((60 : Nat) : Int) by omega]
theorem min_300 (n : Nat) : ∃ m : Nat, m ≤ 300 ∧ m ≤ n ∧ ∀ ats ty, Builtin.min_ ats ty #[.int .i64 (n : Int), .int .i64 300] = pure (.int .i64 (m : Int)) := by
  by_cases h : n < 300
  · refine ⟨n, by omega, by omega, fun ats ty => ?_⟩
    simp only [min_two, min2_int, pure_bind]
    rw [if_neg (by omega)]
  · refine ⟨300, by omega, by omega, fun ats ty => ?_⟩
    simp only [min_two, min2_int, pure_bind]
    by_cases h2 : (300 : Int) < n
    · rw [if_pos h2]; rfl
    · rw [if_neg h2, show (n : Int) = ((300 : Nat) : Int) by omega]
theorem r_dec {s : ByteArray} (hs : s.size ≤ 1000) {L : List P} {n x : Nat} {y : Int} (hd : dec s = (L, x)) (hn : L.length = n) (hy : (x : Int) = y) (w : World) : Calls Tryd.prog 8 #[.string s] w fun e w' =>
    (∃ B d, e = .returned (.tuple #[.slice B n d, .int .i64 y]) ∧ n ≤ d ∧ Ro w' B L) ∧ Below w.heap.size w w' := by
  have := r_decode hs w
  rw [hd] at this
  simp only [] at this
  rw [hn, hy] at this
  exact this
theorem c_ref_eq {w : World} {A : Option Addr} {L : List P} (h : Ro w A L) {n c : Nat} (hn : L.length = n) (hl : n ≤ 1000) (hc : n ≤ c) (most : Nat) {L' : List P} {x : Nat} (e1 : L.take most = L') (e2 : L'.length = x) :
    Calls Tryd.prog 12 #[.slice A n c, .int .i64 (most : Int)] w fun e w' => (∃ B d, e = .returned (.slice B x d) ∧ x ≤ d ∧ Ro w' B L') ∧ Below w.heap.size w w' := by
  subst e1
  subst e2
  exact c_ref h hn hl hc most
end Go.Proofs.YtakibnkhfmneiaaDoor.PArg
end
