import Derived.Test.YtaaihcojedibeaaDoorZ4
import Derived.Test.YtaaihcojedibeaaDoorZ2
import Derived.Test.YtaaihcojedibeaaDoorZ3
section
/- Sizes: a node's, of those ahead of it; plain. -/
namespace Go.Proofs.YtaaihcojedibeaaDoor.DSzi
set_option maxRecDepth 100000
open Go.RowKit CMem DRow DDeep DSizes DFits DLens DSpec Q
set_option linter.unusedVariables false
set_option linter.unusedSimpArgs false
/-- .. of any number -/
def szi (L : List S37) (i : Int) : Int := if i < 0 then 0 else sz L i.toNat
theorem szf_szi (L : List S37) (f : Nat) (i : Int) (h : i < (f : Int)) : szf L f i = szi L i := by
  unfold szi
  by_cases h0 : i < 0
  · rw [if_pos h0, (szf_rng L f i).2.2 h0]
  · rw [if_neg h0]
    obtain ⟨m, rfl⟩ := Int.eq_ofNat_of_zero_le (show 0 ≤ i by omega)
    rw [Int.toNat_natCast]
    exact szf_eq L f m (by omega)
theorem szi_rng (L : List S37) (i : Int) : 0 ≤ szi L i ∧ (0 ≤ i → szi L i ≤ i + 1) := by
  unfold szi
  by_cases h0 : i < 0
  · rw [if_pos h0]; omega
  · rw [if_neg h0]
    have := sz_rng L i.toNat
    omega
theorem sz_step (L : List S37) (i : Nat) : sz L i = if fit (rd_T37 L i) = false then 0
    else if kd (rd_T37 L i).f0 = 0 then (if (rd_T37 L i).f1 = 0 ∧ (rd_T37 L i).f2 = 0 then 1 else 0)
    else if szi L ((i : Int) - 1) = 0 then 0
    else if kd (rd_T37 L i).f0 = 1 then (if (rd_T37 L i).f1 = (i : Int) - 1 ∧ (rd_T37 L i).f2 = 0 then szi L ((i : Int) - 1) + 1 else 0)
    else if szi L ((i : Int) - 1 - szi L ((i : Int) - 1)) = 0 then 0
    else if (rd_T37 L i).f1 = (i : Int) - 1 - szi L ((i : Int) - 1) ∧ (rd_T37 L i).f2 = (i : Int) - 1 then szi L ((i : Int) - 1 - szi L ((i : Int) - 1)) + szi L ((i : Int) - 1) + 1 else 0 := by
  have hs : sz L i = szf L (i + 1) i := rfl
  unfold szf at hs
  have h1 := szi_rng L ((i : Int) - 1)
  rw [if_neg (show ¬ (i : Int) < 0 by omega), szf_szi L i ((i : Int) - 1) (by omega), szf_szi L i ((i : Int) - 1 - szi L ((i : Int) - 1)) (by omega)] at hs
  exact hs
end Go.Proofs.YtaaihcojedibeaaDoor.DSzi
end
section
/- Trees joined, and wrapped; plain. -/
namespace Go.Proofs.YtaaihcojedibeaaDoor.DAlg
set_option maxRecDepth 100000
open Go.RowKit CMem DRow DDeep DSizes DFits DLens DSpec DGrp DCon DOdd DRowN DWrap DJoin DGrouped DRight DRFits DKit DSzi Q Go.Proofs.YtaaihcojedibeaaDoorW.PrintWords
set_option linter.unusedVariables false
set_option linter.unusedSimpArgs false
theorem rd_left (L Z : List S37) (i : Nat) (h : i < L.length) : rd_T37 (L ++ Z) i = rd_T37 L i := by
  unfold rd_T37
  rw [Int.toNat_natCast, List.getD_eq_getElem?_getD, List.getD_eq_getElem?_getD, List.getElem?_append_left h]
theorem rd_right (L Z : List S37) (i : Nat) : rd_T37 (L ++ Z) (L.length + i : Nat) = rd_T37 Z i := by
  unfold rd_T37
  rw [Int.toNat_natCast, Int.toNat_natCast, List.getD_eq_getElem?_getD, List.getD_eq_getElem?_getD, List.getElem?_append_right (by omega)]
  congr 2
  omega
theorem rd_shift (M : List S37) (n : Int) (i : Nat) (h : i < M.length) : rd_T37 (M.map (shift n)) i = shift n (rd_T37 M i) := by
  unfold rd_T37
  rw [Int.toNat_natCast, List.getD_eq_getElem?_getD, List.getD_eq_getElem?_getD, List.getElem?_map, List.getElem?_eq_getElem h]
  rfl
/-! the first nodes -/
theorem szf_first (X L : List S37) (n : Nat) (hX : ∀ i : Nat, i < n → rd_T37 X i = rd_T37 L i) : ∀ (f : Nat) (i : Int), i < (n : Int) → szf X f i = szf L f i
  | 0, i, _ => rfl
  | f + 1, i, hi => by
    by_cases h0 : i < 0
    · rw [(szf_rng X _ _).2.2 h0, (szf_rng L _ _).2.2 h0]
    · obtain ⟨m, rfl⟩ := Int.eq_ofNat_of_zero_le (show 0 ≤ i by omega)
      have e1 := szf_first X L n hX f ((m : Int) - 1) (by omega)
      have r1 := szf_rng L f ((m : Int) - 1)
      have e2 := szf_first X L n hX f ((m : Int) - 1 - szf L f ((m : Int) - 1)) (by omega)
      unfold szf
      rw [hX m (by omega), e1, e2]
theorem sz_first (X L : List S37) (n : Nat) (hX : ∀ i : Nat, i < n → rd_T37 X i = rd_T37 L i) (i : Nat) (hi : i < n) : sz X i = sz L i := szf_first X L n hX (i + 1) i (by omega)
theorem wf_first (X L : List S37) (n : Nat) (hX : ∀ i : Nat, i < n → rd_T37 X i = rd_T37 L i) (hw : ∀ i, i < n → Wf L i) (i : Nat) (hi : i < n) : Wf X i :=
  sz_wf X i (by rw [sz_first X L n hX i hi]; have := wf_pos (hw i hi); omega)
theorem dp_first (X L : List S37) (n : Nat) (hX : ∀ i : Nat, i < n → rd_T37 X i = rd_T37 L i) (hw : ∀ i, i < n → Wf L i) : ∀ i, i < n → dp X i = dp L i := by
  intro i
  induction i using Nat.strongRecOn with
  | ind i ih =>
    intro hi
    have hwX := wf_first X L n hX hw
    rcases dp_eq L n hw i hi with ⟨h0, h⟩ | ⟨a, h0, h1, h2, h⟩ | ⟨a, b, h0, h1, h2, h3, h4, h⟩ <;> rcases dp_eq X n hwX i hi with ⟨g0, g⟩ | ⟨c, g0, g1, g2, g⟩ | ⟨c, d, g0, g1, g2, g3, g4, g⟩ <;> rw [hX i hi] at g0 <;> (try omega)
    · rw [hX i hi] at g1
      obtain rfl : a = c := by omega
      rw [h, g, ih a h2 (by omega)]
    · rw [hX i hi] at g1 g2
      obtain rfl : a = c := by omega
      obtain rfl : b = d := by omega
      rw [h, g, ih a h3 (by omega), ih b h4 (by omega)]
theorem ln_first (X L : List S37) (n : Nat) (hX : ∀ i : Nat, i < n → rd_T37 X i = rd_T37 L i) (hw : ∀ i, i < n → Wf L i) : ∀ i, i < n → ln X i = ln L i := by
  intro i
  induction i using Nat.strongRecOn with
  | ind i ih =>
    intro hi
    have hwX := wf_first X L n hX hw
    have K1 : kd (rd_T37 L i).f0 = 1 → ln X (rd_T37 L i).f1.toNat = ln L (rd_T37 L i).f1.toNat := by
      intro hk
      obtain ⟨a, h1, h2⟩ := kid1 (hw i hi) hk
      rw [h1, Int.toNat_natCast]
      exact ih a h2 (by omega)
    have K2 : kd (rd_T37 L i).f0 = 2 → ln X (rd_T37 L i).f1.toNat = ln L (rd_T37 L i).f1.toNat ∧ ln X (rd_T37 L i).f2.toNat = ln L (rd_T37 L i).f2.toNat := by
      intro hk
      obtain ⟨a, b, h1, h2, h3, h4⟩ := kid2 (hw i hi) hk
      rw [h1, h2, Int.toNat_natCast, Int.toNat_natCast]
      exact ⟨ih a h3 (by omega), ih b h4 (by omega)⟩
    rw [ln_eq X n hwX i hi, ln_eq L n hw i hi]
    unfold lnStep
    rw [hX i hi]
    by_cases c8 : (rd_T37 L i).f0 = 8
    · obtain ⟨e1, e2⟩ := K2 (by rw [c8]; rfl)
      rw [e1, e2, c8]
    by_cases c9 : (rd_T37 L i).f0 = 9
    · obtain ⟨e1, e2⟩ := K2 (by rw [c9]; rfl)
      rw [e1, e2, c9]
    simp only [if_neg c8, if_neg c9]
    by_cases c10 : (rd_T37 L i).f0 = 10
    · rw [K1 (by rw [c10]; rfl)]
    by_cases c11 : (rd_T37 L i).f0 = 11 ∨ (rd_T37 L i).f0 = 17
    · rw [K1 (by rcases c11 with h | h <;> rw [h] <;> rfl)]
    · simp only [if_neg c10, if_neg c11]
/-! nodes further on -/
theorem shift_fit (n : Int) (x : S37) : fit (shift n x) = fit x := rfl
theorem shift_f0 (n : Int) (x : S37) : (shift n x).f0 = x.f0 := rfl
theorem shift_kid (n : Nat) (x : S37) (a : Nat) (h : x.f1 = (a : Int)) (hk : kd x.f0 > 0) (ha : a ≤ 1000) (hn : n ≤ 1000) : (shift n x).f1 = ((n + a : Nat) : Int) := by
  unfold shift
  simp only
  rw [if_pos hk, h]
  unfold wrap64
  omega
theorem shift_kid2 (n : Nat) (x : S37) (a : Nat) (h : x.f2 = (a : Int)) (hk : kd x.f0 > 1) (ha : a ≤ 1000) (hn : n ≤ 1000) : (shift n x).f2 = ((n + a : Nat) : Int) := by
  unfold shift
  simp only
  rw [if_pos hk, h]
  unfold wrap64
  omega
theorem shift_no1 (n : Int) (x : S37) (hk : ¬ kd x.f0 > 0) : (shift n x).f1 = x.f1 := by unfold shift; simp only; rw [if_neg hk]
theorem shift_no2 (n : Int) (x : S37) (hk : ¬ kd x.f0 > 1) : (shift n x).f2 = x.f2 := by unfold shift; simp only; rw [if_neg hk]
theorem sz_later (X M : List S37) (n m : Nat) (hn : n ≤ 1000) (hm : m ≤ 1000) (hX : ∀ i : Nat, i < m → rd_T37 X (n + i : Nat) = shift n (rd_T37 M i)) (hw : ∀ i, i < m → Wf M i) : ∀ i, i < m → sz X (n + i) = sz M i := by
  intro i
  induction i using Nat.strongRecOn with
  | ind i ih =>
    intro hi
    have hwi := hw i hi
    rw [sz_step X (n + i), hX i hi, shift_fit, shift_f0]
    rw [if_neg (by rw [hwi.1]; decide)]
    rcases hwi.2 with ⟨hk, h1, h2, h3⟩ | ⟨q, rfl, hk, h1, h2, h3, h4⟩ | ⟨q, p, rfl, hp, hk, h1, h2, h3, h4, h5⟩
    · rw [if_pos hk, shift_no1 _ _ (by omega), shift_no2 _ _ (by omega), if_pos ⟨h1, h2⟩, h3]
    · have eq1 : ((n + (q + 1) : Nat) : Int) - 1 = ((n + q : Nat) : Int) := by omega
      have es : szi X ((n + q : Nat) : Int) = sz M q := by unfold szi; rw [if_neg (by omega), Int.toNat_natCast]; exact ih q (by omega) (by omega)
      rw [if_neg (by omega), eq1, es, if_neg (by omega), if_pos hk, shift_kid n _ q h1 (by omega) (by omega) hn, shift_no2 _ _ (by omega), if_pos ⟨rfl, h2⟩, h4]
      omega
    · have eq1 : ((n + (q + 1) : Nat) : Int) - 1 = ((n + q : Nat) : Int) := by omega
      have es : szi X ((n + q : Nat) : Int) = sz M q := by unfold szi; rw [if_neg (by omega), Int.toNat_natCast]; exact ih q (by omega) (by omega)
      have eq2 : ((n + q : Nat) : Int) - sz M q = ((n + p : Nat) : Int) := by omega
      have es2 : szi X ((n + p : Nat) : Int) = sz M p := by unfold szi; rw [if_neg (by omega), Int.toNat_natCast]; exact ih p (by omega) (by omega)
      rw [if_neg (by omega), eq1, es, if_neg (by omega), if_neg (by omega), eq2, es2, if_neg (by omega), shift_kid n _ p h1 (by omega) (by omega) hn, shift_kid2 n _ q h2 (by omega) (by omega) hn, if_pos ⟨rfl, rfl⟩, h5]
      omega
theorem dp_later (X M : List S37) (n m : Nat) (hn : n ≤ 1000) (hm : m ≤ 1000) (hX : ∀ i : Nat, i < m → rd_T37 X (n + i : Nat) = shift n (rd_T37 M i)) (hw : ∀ i, i < m → Wf M i) (hwX : ∀ i, i < n + m → Wf X i) : ∀ i, i < m → dp X (n + i) = dp M i := by
  intro i
  induction i using Nat.strongRecOn with
  | ind i ih =>
    intro hi
    rcases dp_eq M m hw i hi with ⟨h0, h⟩ | ⟨a, h0, h1, h2, h⟩ | ⟨a, b, h0, h1, h2, h3, h4, h⟩ <;> rcases dp_eq X (n + m) hwX (n + i) (by omega) with ⟨g0, g⟩ | ⟨c, g0, g1, g2, g⟩ | ⟨c, d, g0, g1, g2, g3, g4, g⟩ <;> rw [hX i hi, shift_f0] at g0 <;> (try omega)
    · rw [hX i hi, shift_kid n _ a h1 (by omega) (by omega) hn] at g1
      obtain rfl : n + a = c := by omega
      rw [h, g, ih a h2 (by omega)]
    · rw [hX i hi] at g1 g2
      rw [shift_kid n _ a h1 (by omega) (by omega) hn] at g1
      rw [shift_kid2 n _ b h2 (by omega) (by omega) hn] at g2
      obtain rfl : n + a = c := by omega
      obtain rfl : n + b = d := by omega
      rw [h, g, ih a h3 (by omega), ih b h4 (by omega)]
theorem ln_later (X M : List S37) (n m : Nat) (hn : n ≤ 1000) (hm : m ≤ 1000) (hX : ∀ i : Nat, i < m → rd_T37 X (n + i : Nat) = shift n (rd_T37 M i)) (hw : ∀ i, i < m → Wf M i) (hwX : ∀ i, i < n + m → Wf X i) : ∀ i, i < m → ln X (n + i) = ln M i := by
  intro i
  induction i using Nat.strongRecOn with
  | ind i ih =>
    intro hi
    have K1 : kd (rd_T37 M i).f0 = 1 → ln X (shift n (rd_T37 M i)).f1.toNat = ln M (rd_T37 M i).f1.toNat := by
      intro hk
      obtain ⟨a, h1, h2⟩ := kid1 (hw i hi) hk
      rw [shift_kid n _ a h1 (by omega) (by omega) hn, h1, Int.toNat_natCast, Int.toNat_natCast]
      exact ih a h2 (by omega)
    have K2 : kd (rd_T37 M i).f0 = 2 → ln X (shift n (rd_T37 M i)).f1.toNat = ln M (rd_T37 M i).f1.toNat ∧ ln X (shift n (rd_T37 M i)).f2.toNat = ln M (rd_T37 M i).f2.toNat := by
      intro hk
      obtain ⟨a, b, h1, h2, h3, h4⟩ := kid2 (hw i hi) hk
      rw [shift_kid n _ a h1 (by omega) (by omega) hn, shift_kid2 n _ b h2 (by omega) (by omega) hn, h1, h2, Int.toNat_natCast, Int.toNat_natCast, Int.toNat_natCast, Int.toNat_natCast]
      exact ⟨ih a h3 (by omega), ih b h4 (by omega)⟩
    have e4 : (shift n (rd_T37 M i)).f4 = (rd_T37 M i).f4 := rfl
    have e5 : (shift n (rd_T37 M i)).f5 = (rd_T37 M i).f5 := rfl
    rw [ln_eq X (n + m) hwX (n + i) (by omega), ln_eq M m hw i hi]
    unfold lnStep
    rw [hX i hi, shift_f0, e4, e5]
    by_cases c8 : (rd_T37 M i).f0 = 8
    · obtain ⟨e1, e2⟩ := K2 (by rw [c8]; rfl)
      rw [e1, e2, c8]
    by_cases c9 : (rd_T37 M i).f0 = 9
    · obtain ⟨e1, e2⟩ := K2 (by rw [c9]; rfl)
      rw [e1, e2, c9]
    simp only [if_neg c8, if_neg c9]
    by_cases c10 : (rd_T37 M i).f0 = 10
    · rw [K1 (by rw [c10]; rfl)]
    by_cases c11 : (rd_T37 M i).f0 = 11 ∨ (rd_T37 M i).f0 = 17
    · rw [K1 (by rcases c11 with h | h <;> rw [h] <;> rfl)]
    · simp only [if_neg c10, if_neg c11]
end Go.Proofs.YtaaihcojedibeaaDoor.DAlg
end
section
/- Trees joined, and wrapped: in order, how deep, how long, what is wrong; plain. -/
namespace Go.Proofs.YtaaihcojedibeaaDoor.DAlgB
set_option maxRecDepth 100000
open Go.RowKit CMem DRow DDeep DSizes DFits DLens DSpec DGrp DCon DOdd DRowN DWrap DJoin DGrouped DRight DRFits DKit DSzi DAlg Q Go.Proofs.YtaaihcojedibeaaDoorW.PrintWords
set_option linter.unusedVariables false
set_option linter.unusedSimpArgs false
def joinl (L M : List S37) (k : Int) : List S37 := L ++ M.map (shift (L.length : Nat)) ++ [⟨k, (L.length : Int) - 1, (L.length : Int) + (M.length : Nat) - 1, z35, 0, 0, 0, 0, false⟩]
def wrapl (L : List S37) (k mi ma mo nn : Int) : List S37 := L ++ [⟨k, (L.length : Int) - 1, 0, z35, mi, ma, mo, nn, false⟩]
theorem joinl_len (L M : List S37) (k : Int) : (joinl L M k).length = L.length + M.length + 1 := by unfold joinl; simp; omega
theorem wrapl_len (L : List S37) (k mi ma mo nn : Int) : (wrapl L k mi ma mo nn).length = L.length + 1 := by unfold wrapl; simp
theorem joinl_left (L M : List S37) (k : Int) (i : Nat) (h : i < L.length) : rd_T37 (joinl L M k) i = rd_T37 L i := by
  unfold joinl
  rw [List.append_assoc, rd_left _ _ _ h]
theorem joinl_mid (L M : List S37) (k : Int) (i : Nat) (h : i < M.length) : rd_T37 (joinl L M k) (L.length + i : Nat) = shift (L.length : Nat) (rd_T37 M i) := by
  unfold joinl
  rw [List.append_assoc, rd_right, rd_left _ _ _ (by rw [List.length_map]; exact h), rd_shift _ _ _ h]
theorem joinl_last (L M : List S37) (k : Int) : rd_T37 (joinl L M k) (L.length + M.length : Nat) = ⟨k, (L.length : Int) - 1, (L.length : Int) + (M.length : Nat) - 1, z35, 0, 0, 0, 0, false⟩ := by
  unfold joinl
  have h := rd_right (L ++ M.map (shift (L.length : Nat))) [⟨k, (L.length : Int) - 1, (L.length : Int) + (M.length : Nat) - 1, z35, 0, 0, 0, 0, false⟩] 0
  rw [List.length_append, List.length_map, Nat.add_zero] at h
  rw [h]; rfl
theorem wrapl_left (L : List S37) (k mi ma mo nn : Int) (i : Nat) (h : i < L.length) : rd_T37 (wrapl L k mi ma mo nn) i = rd_T37 L i := rd_left _ _ _ h
theorem wrapl_last (L : List S37) (k mi ma mo nn : Int) : rd_T37 (wrapl L k mi ma mo nn) (L.length : Nat) = ⟨k, (L.length : Int) - 1, 0, z35, mi, ma, mo, nn, false⟩ := by
  unfold wrapl
  have h := rd_right L [⟨k, (L.length : Int) - 1, 0, z35, mi, ma, mo, nn, false⟩] 0
  rw [Nat.add_zero] at h
  rw [h]; rfl
section
variable {L M : List S37} (hL : ord L = true) (hM : ord M = true) (h1 : L.length ≤ 400) (h2 : M.length ≤ 400) (k : Int) (hk : k = 8 ∨ k = 9)
include hL hM h1 h2 hk
theorem join_sz : sz (joinl L M k) (L.length + M.length) = (L.length : Int) + (M.length : Int) + 1 := by
  have hwL := fun i (hi : i < L.length) => ord_wf hL i hi
  have hwM := fun i (hi : i < M.length) => ord_wf hM i hi
  have pL := ord_pos hL
  have pM := ord_pos hM
  have sL := ord_sz hL
  have sM := ord_sz hM
  obtain ⟨a, ha⟩ : ∃ a, L.length = a + 1 := ⟨L.length - 1, by omega⟩
  obtain ⟨b, hb⟩ : ∃ b, M.length = b + 1 := ⟨M.length - 1, by omega⟩
  have e1 : ((L.length + M.length : Nat) : Int) - 1 = ((L.length + b : Nat) : Int) := by omega
  have s1 : szi (joinl L M k) ((L.length + b : Nat) : Int) = (M.length : Int) := by
    unfold szi
    rw [if_neg (by omega), Int.toNat_natCast, sz_later _ M L.length M.length (by omega) (by omega) (fun i hi => joinl_mid L M k i hi) hwM b (by omega), ← sM]
    congr 1
    omega
  have e2 : ((L.length + b : Nat) : Int) - (M.length : Int) = ((a : Nat) : Int) := by omega
  have s2 : szi (joinl L M k) ((a : Nat) : Int) = (L.length : Int) := by
    unfold szi
    rw [if_neg (by omega), Int.toNat_natCast, sz_first _ L L.length (fun i hi => joinl_left L M k i hi) a (by omega), ← sL]
    congr 1
    omega
  have hkd : kd k = 2 := by rcases hk with h | h <;> rw [h] <;> rfl
  have hfit : fit ⟨k, (L.length : Int) - 1, (L.length : Int) + (M.length : Nat) - 1, z35, 0, 0, 0, 0, false⟩ = true := by rcases hk with h | h <;> rw [h] <;> rfl
  rw [sz_step, joinl_last, hfit]
  simp only []
  rw [if_neg (by decide), hkd, if_neg (by decide), e1, s1, if_neg (by omega), if_neg (by decide), e2, s2, if_neg (by omega), if_pos ⟨by omega, by omega⟩]
theorem join_ord : ord (joinl L M k) = true := by
  have h := join_sz hL hM h1 h2 k hk
  have hl := joinl_len L M k
  have e : (joinl L M k).length - 1 = L.length + M.length := by omega
  unfold ord
  rw [e, h, hl]
  simp
theorem join_dp : dep (joinl L M k) = 1 + max (dep L) (dep M) := by
  have ho := join_ord hL hM h1 h2 k hk
  have hw := fun i (hi : i < (joinl L M k).length) => ord_wf ho i hi
  have hwL := fun i (hi : i < L.length) => ord_wf hL i hi
  have hwM := fun i (hi : i < M.length) => ord_wf hM i hi
  have pL := ord_pos hL
  have pM := ord_pos hM
  have hl := joinl_len L M k
  have e : (joinl L M k).length - 1 = L.length + M.length := by omega
  have hkd : kd k = 2 := by rcases hk with h | h <;> rw [h] <;> rfl
  have hd : dep (joinl L M k) = dp (joinl L M k) (L.length + M.length) := by unfold dep; rw [if_pos ho, e]
  have hdL : dep L = dp L (L.length - 1) := by unfold dep; rw [if_pos hL]
  have hdM : dep M = dp M (M.length - 1) := by unfold dep; rw [if_pos hM]
  rw [hd, hdL, hdM]
  rcases dp_eq (joinl L M k) _ hw (L.length + M.length) (by omega) with ⟨g0, g⟩ | ⟨c, g0, _⟩ | ⟨c, d, g0, g1, g2, g3, g4, g⟩
  · rw [joinl_last] at g0; simp only [] at g0; omega
  · rw [joinl_last] at g0; simp only [] at g0; omega
  · rw [joinl_last] at g1 g2
    simp only [] at g1 g2
    obtain rfl : c = L.length - 1 := by omega
    obtain rfl : d = L.length + (M.length - 1) := by omega
    rw [g, dp_first _ L L.length (fun i hi => joinl_left L M k i hi) hwL _ (by omega), dp_later _ M L.length M.length (by omega) (by omega) (fun i hi => joinl_mid L M k i hi) hwM (fun i hi => hw i (by omega)) _ (by omega)]
theorem join_ln : ln (joinl L M k) (L.length + M.length) = if k = 8 then (pl (ln L (L.length - 1)).1 (ln M (M.length - 1)).1, pl (ln L (L.length - 1)).2 (ln M (M.length - 1)).2) else (min (ln L (L.length - 1)).1 (ln M (M.length - 1)).1, if min (ln L (L.length - 1)).2 (ln M (M.length - 1)).2 = -1 then -1 else max (ln L (L.length - 1)).2 (ln M (M.length - 1)).2) := by
  have ho := join_ord hL hM h1 h2 k hk
  have hw := fun i (hi : i < (joinl L M k).length) => ord_wf ho i hi
  have hwL := fun i (hi : i < L.length) => ord_wf hL i hi
  have hwM := fun i (hi : i < M.length) => ord_wf hM i hi
  have pL := ord_pos hL
  have pM := ord_pos hM
  have hl := joinl_len L M k
  have e1 : ((L.length : Int) - 1).toNat = L.length - 1 := by omega
  have e2 : ((L.length : Int) + (M.length : Nat) - 1).toNat = L.length + (M.length - 1) := by omega
  have f1 := ln_first (joinl L M k) L L.length (fun i hi => joinl_left L M k i hi) hwL (L.length - 1) (by omega)
  have f2 := ln_later (joinl L M k) M L.length M.length (by omega) (by omega) (fun i hi => joinl_mid L M k i hi) hwM (fun i hi => hw i (by omega)) (M.length - 1) (by omega)
  rw [ln_eq _ _ hw _ (by omega)]
  unfold lnStep
  rw [joinl_last]
  simp only [e1, e2, f1, f2]
  rcases hk with h | h
  · subst h; rfl
  · subst h; rfl
end
theorem grn_count (L : List S37) : grn L = ((L.countP fun x => x.f0 == 11 : Nat) : Int) := by
  unfold grn gall
  congr 1
  have : ∀ (L : List S37) (n : Nat), n ≤ L.length → ((List.range n).filter fun i : Nat => (rd_T37 L (i : Nat)).f0 == 11).length = (L.take n).countP fun x => x.f0 == 11 := by
    intro L n
    induction n with
    | zero => intro _; rfl
    | succ n ih =>
      intro hn
      have hx : L[n]? = some (rd_T37 L n) := by
        unfold rd_T37
        rw [Int.toNat_natCast, List.getD_eq_getElem?_getD, List.getElem?_eq_getElem (by omega)]; rfl
      rw [gall_upto, ih (by omega), List.take_add_one, hx, List.countP_append]
      congr 1
      by_cases h : (rd_T37 L n).f0 = 11
      · rw [if_pos h]; simp [h]
      · rw [if_neg h]; simp [h]
  have h := this L L.length (Nat.le_refl _)
  rw [List.take_length] at h
  exact h
theorem join_grn (L M : List S37) (k : Int) (hk : k ≠ 11) : grn (joinl L M k) = grn L + grn M := by
  rw [grn_count, grn_count, grn_count]
  unfold joinl
  rw [List.countP_append, List.countP_append, List.countP_map]
  have e : ((fun x : S37 => x.f0 == 11) ∘ shift (L.length : Nat)) = fun x : S37 => x.f0 == 11 := rfl
  rw [e]
  have e2 : (([⟨k, (L.length : Int) - 1, (L.length : Int) + (M.length : Nat) - 1, z35, 0, 0, 0, 0, false⟩] : List S37).countP fun x => x.f0 == 11) = 0 := by simp [hk]
  rw [e2]
  omega
section
variable {L : List S37} (hL : ord L = true) (h1 : L.length ≤ 900) (k mi ma mo nn : Int) (hkd : kd k = 1) (hfit : fit ⟨k, (L.length : Int) - 1, 0, z35, mi, ma, mo, nn, false⟩ = true)
include hL h1 hkd hfit
theorem wrap_sz : sz (wrapl L k mi ma mo nn) L.length = (L.length : Int) + 1 := by
  have pL := ord_pos hL
  have sL := ord_sz hL
  obtain ⟨a, ha⟩ : ∃ a, L.length = a + 1 := ⟨L.length - 1, by omega⟩
  have e1 : ((L.length : Nat) : Int) - 1 = ((a : Nat) : Int) := by omega
  have s2 : szi (wrapl L k mi ma mo nn) ((a : Nat) : Int) = (L.length : Int) := by
    unfold szi
    rw [if_neg (by omega), Int.toNat_natCast, sz_first _ L L.length (fun i hi => wrapl_left L k mi ma mo nn i hi) a (by omega), ← sL]
    congr 1
    omega
  rw [sz_step, wrapl_last, hfit]
  simp only []
  rw [if_neg (by decide), hkd, if_neg (by decide), e1, s2, if_neg (by omega), if_pos rfl, if_pos (by constructor <;> first | trivial | omega)]
theorem wrap_ord : ord (wrapl L k mi ma mo nn) = true := by
  have h := wrap_sz hL h1 k mi ma mo nn hkd hfit
  have hl := wrapl_len L k mi ma mo nn
  have e : (wrapl L k mi ma mo nn).length - 1 = L.length := by omega
  unfold ord
  rw [e, h, hl]
  simp
theorem wrap_dp : dep (wrapl L k mi ma mo nn) = 1 + dep L := by
  have ho := wrap_ord hL h1 k mi ma mo nn hkd hfit
  have hw := fun i (hi : i < (wrapl L k mi ma mo nn).length) => ord_wf ho i hi
  have hwL := fun i (hi : i < L.length) => ord_wf hL i hi
  have pL := ord_pos hL
  have hl := wrapl_len L k mi ma mo nn
  have e : (wrapl L k mi ma mo nn).length - 1 = L.length := by omega
  have hd : dep (wrapl L k mi ma mo nn) = dp (wrapl L k mi ma mo nn) L.length := by unfold dep; rw [if_pos ho, e]
  have hdL : dep L = dp L (L.length - 1) := by unfold dep; rw [if_pos hL]
  rw [hd, hdL]
  rcases dp_eq (wrapl L k mi ma mo nn) _ hw L.length (by omega) with ⟨g0, g⟩ | ⟨c, g0, g1, g2, g⟩ | ⟨c, d, g0, _⟩
  · rw [wrapl_last] at g0; simp only [] at g0; omega
  · rw [wrapl_last] at g1
    simp only [] at g1
    obtain rfl : c = L.length - 1 := by omega
    rw [g, dp_first _ L L.length (fun i hi => wrapl_left L k mi ma mo nn i hi) hwL _ (by omega)]
  · rw [wrapl_last] at g0; simp only [] at g0; omega
theorem wrap_ln (hk10 : k = 10 ∨ k = 17) : ln (wrapl L k mi ma mo nn) L.length = if k = 10 then (tm (ln L (L.length - 1)).1 mi, tm (ln L (L.length - 1)).2 ma) else ln L (L.length - 1) := by
  have ho := wrap_ord hL h1 k mi ma mo nn hkd hfit
  have hw := fun i (hi : i < (wrapl L k mi ma mo nn).length) => ord_wf ho i hi
  have hwL := fun i (hi : i < L.length) => ord_wf hL i hi
  have pL := ord_pos hL
  have hl := wrapl_len L k mi ma mo nn
  have e1 : ((L.length : Int) - 1).toNat = L.length - 1 := by omega
  have f1 := ln_first (wrapl L k mi ma mo nn) L L.length (fun i hi => wrapl_left L k mi ma mo nn i hi) hwL (L.length - 1) (by omega)
  rw [ln_eq _ _ hw _ (by omega)]
  unfold lnStep
  rw [wrapl_last]
  simp only [e1, f1]
  rcases hk10 with h | h
  · subst h; rfl
  · subst h; rfl
end
end Go.Proofs.YtaaihcojedibeaaDoor.DAlgB
end
section
/- How trees are shown that are like one another; plain. -/
namespace Go.Proofs.YtaaihcojedibeaaDoor.SAlg
set_option maxRecDepth 100000
open Go.RowKit CMem CBits CSet DRow DDeep DSizes DFits DLens DSpec DGrp DCon DOdd DRowN DWrap DJoin DGrouped DRight DRFits DKit DSzi DAlg DAlgB SText SSpec SSize STree Q
set_option linter.unusedVariables false
set_option linter.unusedSimpArgs false
/-- a node is as another one, its children further on -/
def Like (X L : List S37) (o i : Nat) : Prop :=
  (rd_T37 X (o + i : Nat)).f0 = (rd_T37 L i).f0 ∧ (rd_T37 X (o + i : Nat)).f3 = (rd_T37 L i).f3 ∧ (rd_T37 X (o + i : Nat)).f4 = (rd_T37 L i).f4 ∧ (rd_T37 X (o + i : Nat)).f5 = (rd_T37 L i).f5 ∧ (rd_T37 X (o + i : Nat)).f6 = (rd_T37 L i).f6 ∧
  (rd_T37 X (o + i : Nat)).f7 = (rd_T37 L i).f7 ∧ (rd_T37 X (o + i : Nat)).f8 = (rd_T37 L i).f8 ∧
  (∀ a : Nat, kd (rd_T37 L i).f0 > 0 → (rd_T37 L i).f1 = (a : Int) → a < i → (rd_T37 X (o + i : Nat)).f1 = ((o + a : Nat) : Int)) ∧
  (∀ a : Nat, kd (rd_T37 L i).f0 > 1 → (rd_T37 L i).f2 = (a : Int) → a < i → (rd_T37 X (o + i : Nat)).f2 = ((o + a : Nat) : Int))
theorem like_first (X L : List S37) (i : Nat) (h : rd_T37 X i = rd_T37 L i) : Like X L 0 i := by
  have e : ((0 + i : Nat) : Int) = (i : Int) := by omega
  unfold Like
  rw [e, h]
  exact ⟨rfl, rfl, rfl, rfl, rfl, rfl, rfl, fun a _ h _ => by rw [h]; omega, fun a _ h _ => by rw [h]; omega⟩
theorem like_later (X L : List S37) (o i : Nat) (ho : o ≤ 1000) (hi : i ≤ 1000) (h : rd_T37 X (o + i : Nat) = shift o (rd_T37 L i)) : Like X L o i := by
  unfold Like
  rw [h]
  exact ⟨rfl, rfl, rfl, rfl, rfl, rfl, rfl, fun a hk h hl => shift_kid o _ a h hk (by omega) ho, fun a hk h hl => shift_kid2 o _ a h hk (by omega) ho⟩
theorem wi_eq (L X : List S37) (g g' : Int → ByteArray) (a b : Int) (ks : List Int) (h : (rd_T37 X b).f0 = (rd_T37 L a).f0) (hg : g' b = g a) : wi X g' b ks = wi L g a ks := by
  unfold wi
  rw [h, hg]
theorem body_eq (L X : List S37) (g g' : Int → ByteArray) (x y : S37) (hr : 0 ≤ x.f0 ∧ x.f0 ≤ 17) (h0 : y.f0 = x.f0) (h3 : y.f3 = x.f3) (h4 : y.f4 = x.f4) (h5 : y.f5 = x.f5) (h6 : y.f6 = x.f6) (h7 : y.f7 = x.f7) (h8 : y.f8 = x.f8)
    (k1 : kd x.f0 = 1 → g' y.f1 = g x.f1 ∧ (rd_T37 X y.f1).f0 = (rd_T37 L x.f1).f0)
    (k2 : kd x.f0 = 2 → (g' y.f1 = g x.f1 ∧ (rd_T37 X y.f1).f0 = (rd_T37 L x.f1).f0) ∧ g' y.f2 = g x.f2 ∧ (rd_T37 X y.f2).f0 = (rd_T37 L x.f2).f0) : body X g' y = body L g x := by
  unfold body
  rw [h0, h3, h4, h5, h6, h7, h8]
  by_cases c1 : x.f0 = 1
  · rw [if_pos c1, if_pos c1]
  rw [if_neg c1, if_neg c1]
  by_cases c2 : x.f0 = 12
  · rw [if_pos c2, if_pos c2]
  rw [if_neg c2, if_neg c2]
  by_cases c3 : x.f0 = 8
  · obtain ⟨⟨e1, e2⟩, e3, e4⟩ := k2 (by rw [c3]; rfl)
    rw [if_pos c3, if_pos c3, wi_eq L X g g' x.f1 y.f1 [9] e2 e1, wi_eq L X g g' x.f2 y.f2 [8, 9] e4 e3]
  rw [if_neg c3, if_neg c3]
  by_cases c4 : x.f0 = 9
  · obtain ⟨⟨e1, e2⟩, e3, e4⟩ := k2 (by rw [c4]; rfl)
    rw [if_pos c4, if_pos c4, e1, wi_eq L X g g' x.f2 y.f2 [9] e4 e3]
  rw [if_neg c4, if_neg c4]
  by_cases c5 : x.f0 = 10
  · obtain ⟨e1, e2⟩ := k1 (by rw [c5]; rfl)
    rw [if_pos c5, if_pos c5, wi_eq L X g g' x.f1 y.f1 [8, 9, 10] e2 e1]
  rw [if_neg c5, if_neg c5]
  by_cases c6 : x.f0 = 11 ∨ 13 ≤ x.f0
  · have hc : x.f0 = 11 ∨ x.f0 = 13 ∨ x.f0 = 14 ∨ x.f0 = 15 ∨ x.f0 = 16 ∨ x.f0 = 17 := by omega
    obtain ⟨e1, e2⟩ := k1 (by rcases hc with h | h | h | h | h | h <;> rw [h] <;> rfl)
    rw [if_pos c6, if_pos c6, e1]
  rw [if_neg c6, if_neg c6]
theorem shw_like (X L : List S37) (o m : Nat) (hw : ∀ i, i < m → Wf L i) (hl : ∀ i, i < m → Like X L o i) : ∀ (i f f' : Nat), i < m → i < f → o + i < f' → shwf X f' ((o + i : Nat) : Int) = shwf L f (i : Int) := by
  intro i
  induction i using Nat.strongRecOn with
  | ind i ih =>
    intro f g hi hf hg
    obtain ⟨f, rfl⟩ : ∃ k, f = k + 1 := ⟨f - 1, by omega⟩
    obtain ⟨g, rfl⟩ : ∃ k, g = k + 1 := ⟨g - 1, by omega⟩
    have e1 : shwf L (f + 1) i = head (rd_T37 L i).f0 ++ body L (shwf L f) (rd_T37 L i) := rfl
    have e2 : shwf X (g + 1) (o + i : Nat) = head (rd_T37 X (o + i : Nat)).f0 ++ body X (shwf X g) (rd_T37 X (o + i : Nat)) := rfl
    have hwi := hw i hi
    obtain ⟨h0, h3, h4, h5, h6, h7, h8, hk1, hk2⟩ := hl i hi
    rw [e1, e2, h0]
    congr 1
    refine body_eq L X _ _ _ _ (fit_rng hwi.1) h0 h3 h4 h5 h6 h7 h8 (fun hk => ?_) (fun hk => ?_)
    · obtain ⟨a, ha, hlt⟩ := kid1 hwi hk
      rw [hk1 a (by omega) ha hlt, ha]
      exact ⟨ih a hlt f g (by omega) (by omega) (by omega), (hl a (by omega)).1⟩
    · obtain ⟨a, b, ha, hb, hla, hlb⟩ := kid2 hwi hk
      rw [hk1 a (by omega) ha hla, hk2 b (by omega) hb hlb, ha, hb]
      exact ⟨⟨ih a hla f g (by omega) (by omega) (by omega), (hl a (by omega)).1⟩, ih b hlb f g (by omega) (by omega) (by omega), (hl b (by omega)).1⟩
/-- a joined tree, shown -/
theorem shw_join {L M : List S37} (hL : ord L = true) (hM : ord M = true) (h1 : L.length ≤ 400) (h2 : M.length ≤ 400) :
    shwf (joinl L M 9) (joinl L M 9).length ((L.length + M.length : Nat) : Int) = shwf L L.length ((L.length - 1 : Nat) : Int) ++ ⟨#[124]⟩ ++ (if (rd_T37 M (M.length - 1 : Nat)).f0 = 9 then ⟨#[40, 63, 58]⟩ ++ shwf M M.length ((M.length - 1 : Nat) : Int) ++ ⟨#[41]⟩ else shwf M M.length ((M.length - 1 : Nat) : Int)) := by
  have hwL := fun i (hi : i < L.length) => ord_wf hL i hi
  have hwM := fun i (hi : i < M.length) => ord_wf hM i hi
  have pL := ord_pos hL
  have pM := ord_pos hM
  have lL := fun i (hi : i < L.length) => like_first _ L i (joinl_left L M 9 i hi)
  have lM := fun i (hi : i < M.length) => like_later _ M L.length i (by omega) (by omega) (joinl_mid L M 9 i hi)
  have e1 : (L.length : Int) - 1 = ((0 + (L.length - 1) : Nat) : Int) := by omega
  have e2 : (L.length : Int) + (M.length : Nat) - 1 = ((L.length + (M.length - 1) : Nat) : Int) := by omega
  have sL := shw_like _ L 0 L.length hwL lL (L.length - 1) L.length (L.length + M.length) (by omega) (by omega) (by omega)
  have sM := shw_like _ M L.length M.length hwM lM (M.length - 1) M.length (L.length + M.length) (by omega) (by omega) (by omega)
  have fM := (lM (M.length - 1) (by omega)).1
  rw [joinl_len]
  have e : shwf (joinl L M 9) (L.length + M.length + 1) ((L.length + M.length : Nat) : Int) = head (rd_T37 (joinl L M 9) (L.length + M.length : Nat)).f0 ++ body (joinl L M 9) (shwf (joinl L M 9) (L.length + M.length)) (rd_T37 (joinl L M 9) (L.length + M.length : Nat)) := rfl
  rw [e, joinl_last]
  show (⟨#[]⟩ : ByteArray) ++ (shwf _ _ ((L.length : Int) - 1) ++ ⟨#[124]⟩ ++ wi _ _ ((L.length : Int) + (M.length : Nat) - 1) [9]) = _
  have z : ∀ b : ByteArray, (⟨#[]⟩ : ByteArray) ++ b = b := fun b => ByteArray.empty_append
  rw [z, e1, e2, sL]
  unfold wi
  rw [fM, sM]
  congr 1
  by_cases c : (rd_T37 M (M.length - 1 : Nat)).f0 = 9
  · rw [if_pos c, if_pos (by rw [c]; exact List.mem_singleton.2 rfl)]
  · rw [if_neg c, if_neg (by rw [List.mem_singleton]; exact c)]
/-- and one within another node -/
theorem shw_wrap {L : List S37} (hL : ord L = true) (h1 : L.length ≤ 400) (k nn : Int) (hk : k = 11 ∨ k = 14) :
    shwf (wrapl L k 0 0 0 nn) (wrapl L k 0 0 0 nn).length ((L.length : Nat) : Int) = head k ++ (shwf L L.length ((L.length - 1 : Nat) : Int) ++ ⟨#[41]⟩) := by
  have hwL := fun i (hi : i < L.length) => ord_wf hL i hi
  have pL := ord_pos hL
  have lL := fun i (hi : i < L.length) => like_first _ L i (wrapl_left L k 0 0 0 nn i hi)
  have e1 : (L.length : Int) - 1 = ((0 + (L.length - 1) : Nat) : Int) := by omega
  have sL := shw_like _ L 0 L.length hwL lL (L.length - 1) L.length L.length (by omega) (by omega) (by omega)
  rw [wrapl_len]
  have e : shwf (wrapl L k 0 0 0 nn) (L.length + 1) ((L.length : Nat) : Int) = head (rd_T37 (wrapl L k 0 0 0 nn) (L.length : Nat)).f0 ++ body (wrapl L k 0 0 0 nn) (shwf (wrapl L k 0 0 0 nn) L.length) (rd_T37 (wrapl L k 0 0 0 nn) (L.length : Nat)) := rfl
  rw [e, wrapl_last]
  have b : body (wrapl L k 0 0 0 nn) (shwf (wrapl L k 0 0 0 nn) L.length) ⟨k, (L.length : Int) - 1, 0, z35, 0, 0, 0, nn, false⟩ = shwf (wrapl L k 0 0 0 nn) L.length ((L.length : Int) - 1) ++ ⟨#[41]⟩ := by
    rcases hk with h | h <;> subst h <;> rfl
  rw [b, e1, sL]
end Go.Proofs.YtaaihcojedibeaaDoor.SAlg
end
section
/- What is right of trees that are joined, and within another node; plain. -/
namespace Go.Proofs.YtaaihcojedibeaaDoor.SParts
set_option maxRecDepth 100000
open Go.RowKit CMem CBits CSet DRow DDeep DSizes DFits DLens DSpec DGrp DCon DOdd DRowN DWrap DJoin DGrouped DRight DRFits DKit DSzi DAlg DAlgB SText SSpec SSize STree SAlg Q
set_option linter.unusedVariables false
set_option linter.unusedSimpArgs false
theorem grn_rng (L : List S37) : 0 ≤ grn L ∧ grn L ≤ (L.length : Int) := by
  rw [grn_count]
  have := List.countP_le_length (p := fun x : S37 => x.f0 == 11) (l := L)
  omega
theorem frm_ok {L : List S37} (ho : ord L = true) (hd : dep L ≤ 40) : frm L = 0 := by
  unfold dep at hd
  rw [if_pos ho] at hd
  unfold frm
  rw [if_pos ho, if_neg (by omega)]
theorem rgt_parts {L : List S37} (h : rgt L = 0) : frm L = 0 ∧ grp L = true ∧ bhd L = true := by
  unfold rgt at h
  by_cases h1 : frm L = 0
  · rw [if_pos h1] at h
    by_cases h2 : grp L = true
    · rw [if_pos h2] at h
      by_cases h3 : bhd L = true
      · exact ⟨h1, h2, h3⟩
      · rw [if_neg h3] at h; omega
    · rw [if_neg h2] at h; omega
  · rw [if_neg h1] at h; exact absurd h h1
theorem gi_none {L : List S37} (ho : ord L = true) (hg : grn L = 0) : gi L (L.length - 1) = [] := by
  have h := (gall_perm ho).length_eq
  unfold grn at hg
  exact List.eq_nil_of_length_eq_zero (by omega)
theorem grp_none {L : List S37} (ho : ord L = true) (hg : grn L = 0) : grp L = !L.any (oddb 0) := by
  unfold grp
  rw [gi_none ho hg]
  simp
theorem bhd_at {L : List S37} (h : bhd L = true) (i : Nat) (hi : i < L.length) : bhd1 L i = true := by
  unfold bhd at h
  exact List.all_eq_true.1 h i (List.mem_range.2 hi)
/-- the first nodes -/
theorem bhd_first (X L : List S37) (hX : ∀ i : Nat, i < L.length → rd_T37 X i = rd_T37 L i) (hwL : ∀ i, i < L.length → Wf L i) (hL : bhd L = true) (i : Nat) (h : i < L.length) : bhd1 X i = true := by
  have hb := bhd_at hL i h
  unfold bhd1 at hb ⊢
  rw [hX i h]
  by_cases hk : ((rd_T37 L i).f0 == 15 || (rd_T37 L i).f0 == 16) = true
  · have hkd : kd (rd_T37 L i).f0 = 1 := by
      simp only [Bool.or_eq_true, beq_iff_eq] at hk
      rcases hk with e | e <;> rw [e] <;> rfl
    rcases (hwL i h).2 with ⟨hk', _⟩ | ⟨q, rfl, hk', hf1, _⟩ | ⟨q, p, rfl, hp, hk', _⟩
    · omega
    · have e : (rd_T37 L (q + 1 : Nat)).f1.toNat = q := by omega
      rw [e] at hb ⊢
      rw [ln_first _ L L.length hX hwL q (by omega)]
      exact hb
    · omega
  · rw [Bool.not_eq_true] at hk
    rw [hk]; rfl
theorem bhd_join {L M : List S37} (oL : ord L = true) (oM : ord M = true) (oX : ord (joinl L M 9) = true) (hL : bhd L = true) (hM : bhd M = true) (l1 : L.length ≤ 60) (l2 : M.length ≤ 60) : bhd (joinl L M 9) = true := by
  have hw := fun i (hi : i < (joinl L M 9).length) => ord_wf oX i hi
  have hwL := fun i (hi : i < L.length) => ord_wf oL i hi
  have hwM := fun i (hi : i < M.length) => ord_wf oM i hi
  have nX := joinl_len L M 9
  unfold bhd
  refine List.all_eq_true.2 fun i hi => ?_
  rw [List.mem_range, nX] at hi
  rcases Nat.lt_or_ge i L.length with h | h
  · exact bhd_first _ L (fun i hi => joinl_left L M 9 i hi) hwL hL i h
  · rcases Nat.lt_or_ge i (L.length + M.length) with h2 | h2
    · obtain ⟨j, rfl⟩ : ∃ j, i = L.length + j := ⟨i - L.length, by omega⟩
      have hj : j < M.length := by omega
      have hb := bhd_at hM j hj
      unfold bhd1 at hb ⊢
      rw [joinl_mid L M 9 j hj]
      have e0 : (shift (L.length : Nat) (rd_T37 M j)).f0 = (rd_T37 M j).f0 := rfl
      rw [e0]
      by_cases hk : ((rd_T37 M j).f0 == 15 || (rd_T37 M j).f0 == 16) = true
      · have hkd : kd (rd_T37 M j).f0 = 1 := by
          simp only [Bool.or_eq_true, beq_iff_eq] at hk
          rcases hk with e | e <;> rw [e] <;> rfl
        rcases (hwM j hj).2 with ⟨hk', _⟩ | ⟨q, rfl, hk', hf1, _⟩ | ⟨q, p, rfl, hp, hk', _⟩
        · omega
        · have e : (rd_T37 M (q + 1 : Nat)).f1.toNat = q := by omega
          have e1 : (shift (L.length : Nat) (rd_T37 M (q + 1 : Nat))).f1.toNat = L.length + q := by
            unfold shift
            simp only []
            rw [if_pos (by omega)]
            unfold wrap64
            omega
          rw [e] at hb
          rw [e1, ln_later _ M L.length M.length (by omega) (by omega) (fun i hi => joinl_mid L M 9 i hi) hwM (fun i hi => hw i (by omega)) q (by omega)]
          exact hb
        · omega
      · rw [Bool.not_eq_true] at hk
        rw [hk]; rfl
    · obtain rfl : i = L.length + M.length := by omega
      unfold bhd1
      rw [joinl_last]
      rfl
theorem rgt_join {L M : List S37} (hA : rgt L = 0) (hB : rgt M = 0) (gL : grn L = 0) (gM : grn M = 0) (dL : dep L < 40) (dM : dep M < 40) (l1 : L.length ≤ 60) (l2 : M.length ≤ 60) : rgt (joinl L M 9) = 0 := by
  obtain ⟨fA, qA, bA⟩ := rgt_parts hA
  obtain ⟨fB, qB, bB⟩ := rgt_parts hB
  have oA := frm_ord fA
  have oB := frm_ord fB
  have oX := join_ord oA oB (by omega) (by omega) 9 (Or.inr rfl)
  have dX := join_dp oA oB (by omega) (by omega) 9 (Or.inr rfl)
  have gX := join_grn L M 9 (by decide)
  have hg : grp (joinl L M 9) = true := by
    rw [grp_none oX (by omega)]
    rw [grp_none oA gL] at qA
    rw [grp_none oB gM] at qB
    unfold joinl
    rw [List.any_append, List.any_append, List.any_map]
    have e : (oddb 0 ∘ shift (L.length : Nat)) = oddb 0 := rfl
    rw [e]
    simp only [Bool.not_eq_true'] at qA qB
    rw [qA, qB]
    rfl
  unfold rgt
  rw [if_pos (frm_ok oX (by omega)), if_pos hg, if_pos (bhd_join oA oB oX bA bB l1 l2)]
theorem odd_more (x : S37) (h : oddb 0 x = false) : oddb 1 x = false := by
  unfold oddb at *
  by_cases c : x.f0 = 12
  · simp only [c, beq_self_eq_true, Bool.true_and, Bool.or_eq_false_iff, decide_eq_false_iff_not] at *
    omega
  · have c2 : (x.f0 == 12) = false := by simpa using c
    rw [c2]; rfl
theorem rgt_wrap {L : List S37} (k nn : Int) (hk : (k = 11 ∧ nn = 1) ∨ (k = 14 ∧ nn = 0)) (hA : rgt L = 0) (gL : grn L = 0) (dL : dep L < 40) (l1 : L.length ≤ 60) : rgt (wrapl L k 0 0 0 nn) = 0 := by
  obtain ⟨fA, qA, bA⟩ := rgt_parts hA
  have oA := frm_ord fA
  have pA := ord_pos oA
  have hkd : kd k = 1 := by rcases hk with ⟨h, _⟩ | ⟨h, _⟩ <;> rw [h] <;> rfl
  have hfit : fit ⟨k, (L.length : Int) - 1, 0, z35, 0, 0, 0, nn, false⟩ = true := by rcases hk with ⟨h, h'⟩ | ⟨h, h'⟩ <;> subst h <;> subst h' <;> rfl
  have oX := wrap_ord oA (by omega) k 0 0 0 nn hkd hfit
  have dX := wrap_dp oA (by omega) k 0 0 0 nn hkd hfit
  have hwL := fun i (hi : i < L.length) => ord_wf oA i hi
  have hw := fun i (hi : i < (wrapl L k 0 0 0 nn).length) => ord_wf oX i hi
  have nX := wrapl_len L k 0 0 0 nn
  have hb : bhd (wrapl L k 0 0 0 nn) = true := by
    unfold bhd
    refine List.all_eq_true.2 fun i hi => ?_
    rw [List.mem_range, nX] at hi
    rcases Nat.lt_or_ge i L.length with h | h
    · exact bhd_first _ L (fun i hi => wrapl_left L k 0 0 0 nn i hi) hwL bA i h
    · obtain rfl : i = L.length := by omega
      unfold bhd1
      rw [wrapl_last]
      rcases hk with ⟨h, _⟩ | ⟨h, _⟩ <;> subst h <;> rfl
  have gX : grn (wrapl L k 0 0 0 nn) = if k = 11 then 1 else 0 := by
    rw [grn_count] at gL ⊢
    unfold wrapl
    rw [List.countP_append]
    rcases hk with ⟨h, _⟩ | ⟨h, _⟩
    · subst h
      have e : ([⟨11, (L.length : Int) - 1, 0, z35, 0, 0, 0, nn, false⟩] : List S37).countP (fun x => x.f0 == 11) = 1 := rfl
      rw [e, if_pos rfl]; omega
    · subst h
      have e : ([⟨14, (L.length : Int) - 1, 0, z35, 0, 0, 0, nn, false⟩] : List S37).countP (fun x => x.f0 == 11) = 0 := rfl
      rw [e, if_neg (by decide)]; omega
  rw [grp_none oA gL] at qA
  simp only [Bool.not_eq_true'] at qA
  have hg : grp (wrapl L k 0 0 0 nn) = true := by
    rcases hk with ⟨h, h'⟩ | ⟨h, h'⟩
    · subst h; subst h'
      rw [if_pos rfl] at gX
      have hl := (gall_perm oX).length_eq
      unfold grn at gX
      rw [nX, Nat.add_sub_cancel] at hl
      have hgi : gi (wrapl L 11 0 0 0 1) L.length = [L.length] := by
        rcases gi_eq _ _ hw L.length (by omega) with ⟨h0, _⟩ | ⟨a, h0, _, _, h⟩ | ⟨a, b, h0, _⟩
        · rw [wrapl_last] at h0; exact absurd (show kd 11 = 0 from h0) (by decide)
        · have e11 : (rd_T37 (wrapl L 11 0 0 0 1) (L.length : Nat)).f0 = 11 := by rw [wrapl_last]
          rw [if_pos e11] at h
          rw [h, List.length_append, List.length_singleton] at hl
          rw [h, List.eq_nil_of_length_eq_zero (l := gi (wrapl L 11 0 0 0 1) a) (by omega)]
          rfl
        · rw [wrapl_last] at h0; exact absurd (show kd 11 = 2 from h0) (by decide)
      have e7 : (rd_T37 (wrapl L 11 0 0 0 1) (L.length : Nat)).f7 = 1 := by rw [wrapl_last]
      have hodd : (wrapl L 11 0 0 0 1).any (oddb 1) = false := by
        unfold wrapl
        rw [List.any_append]
        have : L.any (oddb 1) = false := by
          rw [List.any_eq_false] at qA ⊢
          intro x hx
          have := odd_more x (by simpa using qA x hx)
          rw [this]; decide
        rw [this]; rfl
      unfold grp
      rw [nX, Nat.add_sub_cancel, hgi]
      simp [e7, hodd]
    · subst h; subst h'
      rw [if_neg (by decide)] at gX
      rw [grp_none oX gX]
      unfold wrapl
      rw [List.any_append, qA]
      rfl
  unfold rgt
  rw [if_pos (frm_ok oX (by omega)), if_pos hg, if_pos hb]
theorem ok_shift (n : Int) (x : S37) (h : OkN x) : OkN (shift n x) := h
theorem ok_z (k a b mi ma mo nn : Int) (fo : Bool) (h : nn = 0 ∨ nn = 1) : OkN ⟨k, a, b, z35, mi, ma, mo, nn, fo⟩ := by
  have z : in64 0 := by unfold in64; omega
  exact ⟨z, z, z, z, by show -9223372036854775808 ≤ nn ∧ nn ≤ 9223372036854775807; omega⟩
theorem ok_rd {L : List S37} (h : ∀ x ∈ L, OkN x) (i : Nat) (hi : i < L.length) : OkN (rd_T37 L (i : Nat)) := by
  unfold rd_T37
  rw [Int.toNat_natCast, List.getD_eq_getElem?_getD, List.getElem?_eq_getElem hi]
  exact h _ (List.getElem_mem hi)
theorem ok_join {L M : List S37} (hL : ∀ x ∈ L, OkN x) (hM : ∀ x ∈ M, OkN x) : ∀ x ∈ joinl L M 9, OkN x := by
  intro x hx
  unfold joinl at hx
  simp only [List.mem_append, List.mem_map, List.mem_singleton] at hx
  rcases hx with (h | ⟨y, hy, rfl⟩) | rfl
  · exact hL x h
  · exact ok_shift _ y (hM y hy)
  · exact ok_z _ _ _ _ _ _ _ _ (Or.inl rfl)
theorem ok_wrap {L : List S37} (hL : ∀ x ∈ L, OkN x) (k nn : Int) (h : nn = 0 ∨ nn = 1) : ∀ x ∈ wrapl L k 0 0 0 nn, OkN x := by
  intro x hx
  unfold wrapl at hx
  simp only [List.mem_append, List.mem_singleton] at hx
  rcases hx with h2 | rfl
  · exact hL x h2
  · exact ok_z _ _ _ _ _ _ _ _ h
/-- what is asked of the trees that are made -/
theorem plain (La Lb LX LG LN : List S37) (k q : Nat) (a b : ByteArray) (x y : Int) (h1 : La.length = k) (h2 : Lb.length = q) (hk : k ≤ 60) (hq : q ≤ 60) (hA : rgt La = 0) (hB : rgt Lb = 0) (gA : ¬ 0 < grn La + grn Lb) (hx : dep La = x) (hy : dep Lb = y) (hz : ¬ 40 ≤ max x y)
    (okA : ∀ i, i < k → OkN (rd_T37 La (i : Nat))) (okB : ∀ i, i < q → OkN (rd_T37 Lb (i : Nat))) (ha : shows La = a) (hb : shows Lb = b)
    (hX : La ++ Lb.map (shift k) ++ [⟨9, (k : Int) - 1, (k : Int) + q - 1, z35, 0, 0, 0, 0, false⟩] = LX) (hG : La ++ [⟨11, (k : Int) - 1, 0, z35, 0, 0, 0, 1, false⟩] = LG) (hN : La ++ [⟨14, (k : Int) - 1, 0, z35, 0, 0, 0, 0, false⟩] = LN) :
    1 ≤ q ∧ shows LX = a ++ ⟨#[124]⟩ ++ (if (rd_T37 Lb (q - 1 : Nat)).f0 = 9 then ⟨#[40, 63, 58]⟩ ++ b ++ ⟨#[41]⟩ else b) ∧ shows LG = ⟨#[40]⟩ ++ a ++ ⟨#[41]⟩ ∧ shows LN = ⟨#[40, 63, 33]⟩ ++ a ++ ⟨#[41]⟩ ∧
    (∀ i, i < k + q + 1 → OkN (rd_T37 LX (i : Nat))) ∧ (∀ i, i < k + 1 → OkN (rd_T37 LG (i : Nat))) ∧ (∀ i, i < k + 1 → OkN (rd_T37 LN (i : Nat))) := by
  subst h1 h2
  have eX : LX = joinl La Lb 9 := hX.symm
  have eG : LG = wrapl La 11 0 0 0 1 := hG.symm
  have eN : LN = wrapl La 14 0 0 0 0 := hN.symm
  obtain ⟨fA, _, _⟩ := rgt_parts hA
  obtain ⟨fB, _, _⟩ := rgt_parts hB
  have oA := frm_ord fA
  have oB := frm_ord fB
  have rA := grn_rng La
  have rB := grn_rng Lb
  have gA0 : grn La = 0 := by omega
  have gB0 : grn Lb = 0 := by omega
  have pA := ord_pos oA
  have pB := ord_pos oB
  have mA : ∀ x ∈ La, OkN x := by
    intro x hx
    obtain ⟨i, hi, rfl⟩ := List.getElem_of_mem hx
    have h := okA i hi
    unfold rd_T37 at h
    rw [Int.toNat_natCast, List.getD_eq_getElem?_getD, List.getElem?_eq_getElem hi] at h
    exact h
  have mB : ∀ x ∈ Lb, OkN x := by
    intro x hx
    obtain ⟨i, hi, rfl⟩ := List.getElem_of_mem hx
    have h := okB i hi
    unfold rd_T37 at h
    rw [Int.toNat_natCast, List.getD_eq_getElem?_getD, List.getElem?_eq_getElem hi] at h
    exact h
  have nX := joinl_len La Lb 9
  have nG := wrapl_len La 11 0 0 0 1
  have nN := wrapl_len La 14 0 0 0 0
  have sa : shwf La La.length ((La.length - 1 : Nat) : Int) = a := by rw [← ha]; unfold shows; rw [if_pos hA]
  have sb : shwf Lb Lb.length ((Lb.length - 1 : Nat) : Int) = b := by rw [← hb]; unfold shows; rw [if_pos hB]
  have jX := shw_join oA oB (by omega) (by omega)
  have jG := shw_wrap oA (by omega) 11 1 (Or.inl rfl)
  have jN := shw_wrap oA (by omega) 14 0 (Or.inr rfl)
  rw [sa, sb] at jX
  rw [sa] at jG jN
  refine ⟨pB, ?_, ?_, ?_, ?_, ?_, ?_⟩
  · rw [eX]
    unfold shows
    rw [if_pos (rgt_join hA hB gA0 gB0 (by omega) (by omega) hk hq)]
    have e : (joinl La Lb 9).length - 1 = La.length + Lb.length := by omega
    rw [e, jX]
  · rw [eG]
    unfold shows
    rw [if_pos (rgt_wrap 11 1 (Or.inl ⟨rfl, rfl⟩) hA gA0 (by omega) hk)]
    have e : (wrapl La 11 0 0 0 1).length - 1 = La.length := by omega
    rw [e, jG, ByteArray.append_assoc]
    rfl
  · rw [eN]
    unfold shows
    rw [if_pos (rgt_wrap 14 0 (Or.inr ⟨rfl, rfl⟩) hA gA0 (by omega) hk)]
    have e : (wrapl La 14 0 0 0 0).length - 1 = La.length := by omega
    rw [e, jN, ByteArray.append_assoc]
    rfl
  · rw [eX]; exact fun i hi => ok_rd (ok_join mA mB) i (by omega)
  · rw [eG]; exact fun i hi => ok_rd (ok_wrap mA 11 1 (Or.inr rfl)) i (by omega)
  · rw [eN]; exact fun i hi => ok_rd (ok_wrap mA 14 0 (Or.inl rfl)) i (by omega)
end Go.Proofs.YtaaihcojedibeaaDoor.SParts
end
