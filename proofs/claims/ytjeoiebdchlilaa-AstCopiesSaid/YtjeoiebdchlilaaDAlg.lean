/- Trees joined, and wrapped; plain. -/
import Derived.Test.YtjeoiebdchlilaaZ2
namespace Go.Proofs.Ytjeoiebdchlilaa.DAlg
open Go.RowKit CMem DRow DDeep DSizes DFits DLens DSpec DGrp DCon DOdd DRowN DWrap DJoin DGrouped DRight DRJoin DRFits DRef DRefB DTree DKit Q Go.Proofs.YtjeoiebdchlilaaW.PrintWords
set_option linter.unusedVariables false
set_option linter.unusedSimpArgs false
theorem rd_left (L Z : List S43) (i : Nat) (h : i < L.length) : rd_T43 (L ++ Z) i = rd_T43 L i := by
  unfold rd_T43
  rw [Int.toNat_natCast, List.getD_eq_getElem?_getD, List.getD_eq_getElem?_getD, List.getElem?_append_left h]
theorem rd_right (L Z : List S43) (i : Nat) : rd_T43 (L ++ Z) (L.length + i : Nat) = rd_T43 Z i := by
  unfold rd_T43
  rw [Int.toNat_natCast, Int.toNat_natCast, List.getD_eq_getElem?_getD, List.getD_eq_getElem?_getD, List.getElem?_append_right (by omega)]
  congr 2
  omega
theorem rd_shift (M : List S43) (n : Int) (i : Nat) (h : i < M.length) : rd_T43 (M.map (shift n)) i = shift n (rd_T43 M i) := by
  unfold rd_T43
  rw [Int.toNat_natCast, List.getD_eq_getElem?_getD, List.getD_eq_getElem?_getD, List.getElem?_map, List.getElem?_eq_getElem h]
  rfl
/-! the first nodes -/
theorem szf_first (X L : List S43) (n : Nat) (hX : ∀ i : Nat, i < n → rd_T43 X i = rd_T43 L i) : ∀ (f : Nat) (i : Int), i < (n : Int) → szf X f i = szf L f i
  | 0, i, _ => rfl
  | f + 1, i, hi => by
    by_cases h0 : i < 0
    · rw [(szf_rng X _ _).2.2 h0, (szf_rng L _ _).2.2 h0]
    · obtain ⟨m, rfl⟩ := Int.eq_ofNat_of_zero_le (show 0 ≤ i by omega)
      have e1 := szf_first X L n hX f ((m : Int) - 1) (by omega)
      have r1 := szf_rng L f ((m : Int) - 1)
      have e2 := szf_first X L n hX f ((m : Int) - 1 - szf L f ((m : Int) - 1)) (by omega)
      unfold szf
      rw [hX m (by omega), e1, e2]
theorem sz_first (X L : List S43) (n : Nat) (hX : ∀ i : Nat, i < n → rd_T43 X i = rd_T43 L i) (i : Nat) (hi : i < n) : sz X i = sz L i := szf_first X L n hX (i + 1) i (by omega)
theorem wf_first (X L : List S43) (n : Nat) (hX : ∀ i : Nat, i < n → rd_T43 X i = rd_T43 L i) (hw : ∀ i, i < n → Wf L i) (i : Nat) (hi : i < n) : Wf X i :=
  sz_wf X i (by rw [sz_first X L n hX i hi]; have := wf_pos (hw i hi); omega)
theorem dp_first (X L : List S43) (n : Nat) (hX : ∀ i : Nat, i < n → rd_T43 X i = rd_T43 L i) (hw : ∀ i, i < n → Wf L i) : ∀ i, i < n → dp X i = dp L i := by
  intro i
  induction i using Nat.strongRecOn with
  | ind i ih =>
    intro hi
    have hwX := wf_first X L n hX hw
    rcases dp_eq L n hw i hi with ⟨h0, h⟩ | ⟨a, h0, h1, h2, h⟩ | ⟨a, b, h0, h1, h2, h3, h4, h⟩ <;> rcases dp_eq X n hwX i hi with ⟨g0, g⟩ | ⟨c, g0, g1, g2, g⟩ | ⟨c, d, g0, g1, g2, g3, g4, g⟩ <;> rw [hX i hi] at g0 <;> (try omega)
    · rw [hX i hi] at g1
      obtain rfl : a = c := by omega
      rw [h, g, ih a h2 (by omega)]
    · rw [hX i hi] at g1 g2
      obtain rfl : a = c := by omega
      obtain rfl : b = d := by omega
      rw [h, g, ih a h3 (by omega), ih b h4 (by omega)]
theorem ln_first (X L : List S43) (n : Nat) (hX : ∀ i : Nat, i < n → rd_T43 X i = rd_T43 L i) (hw : ∀ i, i < n → Wf L i) : ∀ i, i < n → ln X i = ln L i := by
  intro i
  induction i using Nat.strongRecOn with
  | ind i ih =>
    intro hi
    have hwX := wf_first X L n hX hw
    have K1 : kd (rd_T43 L i).f0 = 1 → ln X (rd_T43 L i).f1.toNat = ln L (rd_T43 L i).f1.toNat := by
      intro hk
      obtain ⟨a, h1, h2⟩ := kid1 (hw i hi) hk
      rw [h1, Int.toNat_natCast]
      exact ih a h2 (by omega)
    have K2 : kd (rd_T43 L i).f0 = 2 → ln X (rd_T43 L i).f1.toNat = ln L (rd_T43 L i).f1.toNat ∧ ln X (rd_T43 L i).f2.toNat = ln L (rd_T43 L i).f2.toNat := by
      intro hk
      obtain ⟨a, b, h1, h2, h3, h4⟩ := kid2 (hw i hi) hk
      rw [h1, h2, Int.toNat_natCast, Int.toNat_natCast]
      exact ⟨ih a h3 (by omega), ih b h4 (by omega)⟩
    rw [ln_eq X n hwX i hi, ln_eq L n hw i hi]
    unfold lnStep
    rw [hX i hi]
    by_cases c8 : (rd_T43 L i).f0 = 8
    · obtain ⟨e1, e2⟩ := K2 (by rw [c8]; rfl)
      rw [e1, e2, c8]
    by_cases c9 : (rd_T43 L i).f0 = 9
    · obtain ⟨e1, e2⟩ := K2 (by rw [c9]; rfl)
      rw [e1, e2, c9]
    simp only [if_neg c8, if_neg c9]
    by_cases c10 : (rd_T43 L i).f0 = 10
    · rw [K1 (by rw [c10]; rfl)]
    by_cases c11 : (rd_T43 L i).f0 = 11 ∨ (rd_T43 L i).f0 = 17
    · rw [K1 (by rcases c11 with h | h <;> rw [h] <;> rfl)]
    · simp only [if_neg c10, if_neg c11]
/-! nodes further on -/
theorem shift_fit (n : Int) (x : S43) : fit (shift n x) = fit x := rfl
theorem shift_f0 (n : Int) (x : S43) : (shift n x).f0 = x.f0 := rfl
theorem shift_kid (n : Nat) (x : S43) (a : Nat) (h : x.f1 = (a : Int)) (hk : kd x.f0 > 0) (ha : a ≤ 1000) (hn : n ≤ 1000) : (shift n x).f1 = ((n + a : Nat) : Int) := by
  unfold shift
  simp only
  rw [if_pos hk, h]
  unfold wrap64
  omega
theorem shift_kid2 (n : Nat) (x : S43) (a : Nat) (h : x.f2 = (a : Int)) (hk : kd x.f0 > 1) (ha : a ≤ 1000) (hn : n ≤ 1000) : (shift n x).f2 = ((n + a : Nat) : Int) := by
  unfold shift
  simp only
  rw [if_pos hk, h]
  unfold wrap64
  omega
theorem shift_no1 (n : Int) (x : S43) (hk : ¬ kd x.f0 > 0) : (shift n x).f1 = x.f1 := by unfold shift; simp only; rw [if_neg hk]
theorem shift_no2 (n : Int) (x : S43) (hk : ¬ kd x.f0 > 1) : (shift n x).f2 = x.f2 := by unfold shift; simp only; rw [if_neg hk]
theorem sz_later (X M : List S43) (n m : Nat) (hn : n ≤ 1000) (hm : m ≤ 1000) (hX : ∀ i : Nat, i < m → rd_T43 X (n + i : Nat) = shift n (rd_T43 M i)) (hw : ∀ i, i < m → Wf M i) : ∀ i, i < m → sz X (n + i) = sz M i := by
  intro i
  induction i using Nat.strongRecOn with
  | ind i ih =>
    intro hi
    have hwi := hw i hi
    rw [sz_step X (n + i), hX i hi, shift_fit, shift_f0]
    rw [if_neg (by rw [hwi.1]; decide)]
    rcases hwi.2 with ⟨hk, h1, h2, h3⟩ | ⟨q, rfl, hk, h1, h2, h3, h4⟩ | ⟨q, p, rfl, hp, hk, h1, h2, h3, h4, h5⟩
    · rw [if_pos hk, shift_no1 _ _ (by omega), shift_no2 _ _ (by omega), if_pos ⟨h1, h2⟩, h3]
    · have eq1 : ((n + (q + 1) : Nat) : Int) - 1 = ((n + q : Nat) : Int) := by omega
      have es : szi X ((n + q : Nat) : Int) = sz M q := by unfold szi; rw [if_neg (by omega), Int.toNat_natCast]; exact ih q (by omega) (by omega)
      rw [if_neg (by omega), eq1, es, if_neg (by omega), if_pos hk, shift_kid n _ q h1 (by omega) (by omega) hn, shift_no2 _ _ (by omega), if_pos ⟨rfl, h2⟩, h4]
      omega
    · have eq1 : ((n + (q + 1) : Nat) : Int) - 1 = ((n + q : Nat) : Int) := by omega
      have es : szi X ((n + q : Nat) : Int) = sz M q := by unfold szi; rw [if_neg (by omega), Int.toNat_natCast]; exact ih q (by omega) (by omega)
      have eq2 : ((n + q : Nat) : Int) - sz M q = ((n + p : Nat) : Int) := by omega
      have es2 : szi X ((n + p : Nat) : Int) = sz M p := by unfold szi; rw [if_neg (by omega), Int.toNat_natCast]; exact ih p (by omega) (by omega)
      rw [if_neg (by omega), eq1, es, if_neg (by omega), if_neg (by omega), eq2, es2, if_neg (by omega), shift_kid n _ p h1 (by omega) (by omega) hn, shift_kid2 n _ q h2 (by omega) (by omega) hn, if_pos ⟨rfl, rfl⟩, h5]
      omega
theorem dp_later (X M : List S43) (n m : Nat) (hn : n ≤ 1000) (hm : m ≤ 1000) (hX : ∀ i : Nat, i < m → rd_T43 X (n + i : Nat) = shift n (rd_T43 M i)) (hw : ∀ i, i < m → Wf M i) (hwX : ∀ i, i < n + m → Wf X i) : ∀ i, i < m → dp X (n + i) = dp M i := by
  intro i
  induction i using Nat.strongRecOn with
  | ind i ih =>
    intro hi
    rcases dp_eq M m hw i hi with ⟨h0, h⟩ | ⟨a, h0, h1, h2, h⟩ | ⟨a, b, h0, h1, h2, h3, h4, h⟩ <;> rcases dp_eq X (n + m) hwX (n + i) (by omega) with ⟨g0, g⟩ | ⟨c, g0, g1, g2, g⟩ | ⟨c, d, g0, g1, g2, g3, g4, g⟩ <;> rw [hX i hi, shift_f0] at g0 <;> (try omega)
    · rw [hX i hi, shift_kid n _ a h1 (by omega) (by omega) hn] at g1
      obtain rfl : n + a = c := by omega
      rw [h, g, ih a h2 (by omega)]
    · rw [hX i hi] at g1 g2
      rw [shift_kid n _ a h1 (by omega) (by omega) hn] at g1
      rw [shift_kid2 n _ b h2 (by omega) (by omega) hn] at g2
      obtain rfl : n + a = c := by omega
      obtain rfl : n + b = d := by omega
      rw [h, g, ih a h3 (by omega), ih b h4 (by omega)]
theorem ln_later (X M : List S43) (n m : Nat) (hn : n ≤ 1000) (hm : m ≤ 1000) (hX : ∀ i : Nat, i < m → rd_T43 X (n + i : Nat) = shift n (rd_T43 M i)) (hw : ∀ i, i < m → Wf M i) (hwX : ∀ i, i < n + m → Wf X i) : ∀ i, i < m → ln X (n + i) = ln M i := by
  intro i
  induction i using Nat.strongRecOn with
  | ind i ih =>
    intro hi
    have K1 : kd (rd_T43 M i).f0 = 1 → ln X (shift n (rd_T43 M i)).f1.toNat = ln M (rd_T43 M i).f1.toNat := by
      intro hk
      obtain ⟨a, h1, h2⟩ := kid1 (hw i hi) hk
      rw [shift_kid n _ a h1 (by omega) (by omega) hn, h1, Int.toNat_natCast, Int.toNat_natCast]
      exact ih a h2 (by omega)
    have K2 : kd (rd_T43 M i).f0 = 2 → ln X (shift n (rd_T43 M i)).f1.toNat = ln M (rd_T43 M i).f1.toNat ∧ ln X (shift n (rd_T43 M i)).f2.toNat = ln M (rd_T43 M i).f2.toNat := by
      intro hk
      obtain ⟨a, b, h1, h2, h3, h4⟩ := kid2 (hw i hi) hk
      rw [shift_kid n _ a h1 (by omega) (by omega) hn, shift_kid2 n _ b h2 (by omega) (by omega) hn, h1, h2, Int.toNat_natCast, Int.toNat_natCast, Int.toNat_natCast, Int.toNat_natCast]
      exact ⟨ih a h3 (by omega), ih b h4 (by omega)⟩
    have e4 : (shift n (rd_T43 M i)).f4 = (rd_T43 M i).f4 := rfl
    have e5 : (shift n (rd_T43 M i)).f5 = (rd_T43 M i).f5 := rfl
    rw [ln_eq X (n + m) hwX (n + i) (by omega), ln_eq M m hw i hi]
    unfold lnStep
    rw [hX i hi, shift_f0, e4, e5]
    by_cases c8 : (rd_T43 M i).f0 = 8
    · obtain ⟨e1, e2⟩ := K2 (by rw [c8]; rfl)
      rw [e1, e2, c8]
    by_cases c9 : (rd_T43 M i).f0 = 9
    · obtain ⟨e1, e2⟩ := K2 (by rw [c9]; rfl)
      rw [e1, e2, c9]
    simp only [if_neg c8, if_neg c9]
    by_cases c10 : (rd_T43 M i).f0 = 10
    · rw [K1 (by rw [c10]; rfl)]
    by_cases c11 : (rd_T43 M i).f0 = 11 ∨ (rd_T43 M i).f0 = 17
    · rw [K1 (by rcases c11 with h | h <;> rw [h] <;> rfl)]
    · simp only [if_neg c10, if_neg c11]
end Go.Proofs.Ytjeoiebdchlilaa.DAlg
