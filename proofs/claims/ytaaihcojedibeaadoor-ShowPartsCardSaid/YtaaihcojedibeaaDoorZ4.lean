import Derived.Test.YtaaihcojedibeaaDoorZ0
import Derived.Lib.ItoaLen
import Derived.Test.YtaaihcojedibeaaDoorProg
section
/- Trees in order: sizes, depths, lengths, groups; plain. -/
namespace Go.Proofs.YtaaihcojedibeaaDoor.DSpec
set_option maxRecDepth 100000
open CMem DRow DDeep DRFits DSizes DFits DLens Q
set_option linter.unusedVariables false
set_option linter.unusedSimpArgs false
/-- how many nodes the tree of a node has, that stand in order; 0: they do not -/
def szf (L : List S37) : Nat → Int → Int
  | 0, _ => 0
  | f + 1, i =>
    if i < 0 then 0 else if fit (rd_T37 L i) = false then 0
    else if kd (rd_T37 L i).f0 = 0 then (if (rd_T37 L i).f1 = 0 ∧ (rd_T37 L i).f2 = 0 then 1 else 0)
    else if szf L f (i - 1) = 0 then 0
    else if kd (rd_T37 L i).f0 = 1 then (if (rd_T37 L i).f1 = i - 1 ∧ (rd_T37 L i).f2 = 0 then szf L f (i - 1) + 1 else 0)
    else if szf L f (i - 1 - szf L f (i - 1)) = 0 then 0
    else if (rd_T37 L i).f1 = i - 1 - szf L f (i - 1) ∧ (rd_T37 L i).f2 = i - 1 then szf L f (i - 1 - szf L f (i - 1)) + szf L f (i - 1) + 1 else 0
theorem szf_rng (L : List S37) : ∀ f i, 0 ≤ szf L f i ∧ (0 ≤ i → szf L f i ≤ i + 1) ∧ (i < 0 → szf L f i = 0)
  | 0, i => ⟨Int.le_refl _, fun h => by show (0 : Int) ≤ _; omega, fun _ => rfl⟩
  | f + 1, i => by
    have h1 := szf_rng L f (i - 1)
    have h2 := szf_rng L f (i - 1 - szf L f (i - 1))
    unfold szf
    refine ⟨?_, ?_, ?_⟩
    · repeat' split
      all_goals omega
    · intro hi
      rw [if_neg (by omega)]
      split
      · omega
      · split
        · split <;> omega
        · split
          · omega
          · rename_i h0
            have hi1 : 0 ≤ i - 1 := by
              rcases Int.lt_or_le (i - 1) 0 with h | h
              · exact absurd (h1.2.2 h) h0
              · exact h
            have h1' := h1.2.1 hi1
            split
            · split <;> omega
            · split
              · omega
              · rename_i hf
                have hi2 : 0 ≤ i - 1 - szf L f (i - 1) := by
                  rcases Int.lt_or_le (i - 1 - szf L f (i - 1)) 0 with h | h
                  · exact absurd (h2.2.2 h) hf
                  · exact h
                have := h2.2.1 hi2
                split <;> omega
    · intro hi
      rw [if_pos hi]
theorem szf_fuel (L : List S37) : ∀ (f g : Nat) (i : Int), i < (f : Int) → i < (g : Int) → szf L f i = szf L g i
  | 0, g, i, hf, _ => by rw [(szf_rng L 0 i).2.2 (by omega), (szf_rng L g i).2.2 (by omega)]
  | f + 1, 0, i, _, hg => by rw [(szf_rng L (f + 1) i).2.2 (by omega), (szf_rng L 0 i).2.2 (by omega)]
  | f + 1, g + 1, i, hf, hg => by
    have e1 := szf_fuel L f g (i - 1) (by omega) (by omega)
    have r1 := szf_rng L g (i - 1)
    have e2 := szf_fuel L f g (i - 1 - szf L g (i - 1)) (by omega) (by omega)
    unfold szf
    rw [e1, e2]
/-- so many nodes has the tree of node i -/
def sz (L : List S37) (i : Nat) : Int := szf L (i + 1) i
theorem szf_eq (L : List S37) (f : Nat) (i : Nat) (h : i < f) : szf L f i = sz L i := szf_fuel L f (i + 1) i (by omega) (by omega)
theorem sz_rng (L : List S37) (i : Nat) : 0 ≤ sz L i ∧ sz L i ≤ (i : Int) + 1 := ⟨(szf_rng L _ _).1, (szf_rng L _ _).2.1 (by omega)⟩
/-- a node stands in order -/
def Wf (L : List S37) (i : Nat) : Prop :=
  fit (rd_T37 L i) = true ∧
  ((kd (rd_T37 L i).f0 = 0 ∧ (rd_T37 L i).f1 = 0 ∧ (rd_T37 L i).f2 = 0 ∧ sz L i = 1) ∨
   (∃ m : Nat, i = m + 1 ∧ kd (rd_T37 L i).f0 = 1 ∧ (rd_T37 L i).f1 = (m : Int) ∧ (rd_T37 L i).f2 = 0 ∧ 1 ≤ sz L m ∧ sz L i = 1 + sz L m) ∨
   (∃ m p : Nat, i = m + 1 ∧ (p : Int) + sz L m = (m : Int) ∧ kd (rd_T37 L i).f0 = 2 ∧ (rd_T37 L i).f1 = (p : Int) ∧ (rd_T37 L i).f2 = (m : Int) ∧ 1 ≤ sz L m ∧ 1 ≤ sz L p ∧ sz L i = 1 + (sz L p + sz L m)))
theorem sz_wf (L : List S37) (i : Nat) (h : sz L i ≠ 0) : Wf L i := by
  have hs : sz L i = szf L (i + 1) i := rfl
  rw [hs] at h
  unfold szf at h
  rw [if_neg (by omega)] at h
  have hfit : fit (rd_T37 L i) = true := by
    cases hc : fit (rd_T37 L i)
    · rw [if_pos hc] at h; exact absurd rfl h
    · rfl
  have hfn : ¬ fit (rd_T37 L (i : Int)) = false := by rw [hfit]; decide
  rw [if_neg hfn] at h
  unfold szf at hs
  rw [if_neg (by omega), if_neg hfn] at hs
  refine ⟨hfit, ?_⟩
  rcases kd_cases (rd_T37 L i).f0 with hk | hk | hk
  · rw [if_pos hk] at h hs
    by_cases hc : (rd_T37 L i).f1 = 0 ∧ (rd_T37 L i).f2 = 0
    · rw [if_pos hc] at hs
      exact .inl ⟨hk, hc.1, hc.2, hs⟩
    · rw [if_neg hc] at h; exact absurd rfl h
  · rw [if_neg (by omega)] at h hs
    rcases Nat.eq_zero_or_pos i with h0 | h0
    · subst h0
      rw [if_pos ((szf_rng L 0 _).2.2 (by omega))] at h; exact absurd rfl h
    · obtain ⟨m, rfl⟩ : ∃ m, i = m + 1 := ⟨i - 1, by omega⟩
      have e1 : ((m + 1 : Nat) : Int) - 1 = (m : Int) := by omega
      have e2 : szf L (m + 1) m = sz L m := rfl
      rw [e1, e2] at h hs
      by_cases hz : sz L m = 0
      · rw [if_pos hz] at h; exact absurd rfl h
      · rw [if_neg hz, if_pos hk] at h hs
        by_cases hc : (rd_T37 L (m + 1 : Nat)).f1 = (m : Int) ∧ (rd_T37 L (m + 1 : Nat)).f2 = 0
        · rw [if_pos hc] at hs
          have := (sz_rng L m).1
          exact .inr (.inl ⟨m, rfl, hk, hc.1, hc.2, by omega, by omega⟩)
        · rw [if_neg hc] at h; exact absurd rfl h
  · rw [if_neg (by omega)] at h hs
    rcases Nat.eq_zero_or_pos i with h0 | h0
    · subst h0
      rw [if_pos ((szf_rng L 0 _).2.2 (by omega))] at h; exact absurd rfl h
    · obtain ⟨m, rfl⟩ : ∃ m, i = m + 1 := ⟨i - 1, by omega⟩
      have e1 : ((m + 1 : Nat) : Int) - 1 = (m : Int) := by omega
      have e2 : szf L (m + 1) m = sz L m := rfl
      rw [e1, e2] at h hs
      by_cases hz : sz L m = 0
      · rw [if_pos hz] at h; exact absurd rfl h
      · rw [if_neg hz, if_neg (by omega)] at h hs
        have hr := sz_rng L m
        by_cases hn : (m : Int) - sz L m < 0
        · rw [if_pos ((szf_rng L _ _).2.2 hn)] at h; exact absurd rfl h
        · obtain ⟨p, hp⟩ : ∃ p : Nat, (m : Int) - sz L m = (p : Int) := ⟨((m : Int) - sz L m).toNat, by omega⟩
          rw [hp, szf_eq L (m + 1) p (by omega)] at h hs
          by_cases hf : sz L p = 0
          · rw [if_pos hf] at h; exact absurd rfl h
          · rw [if_neg hf] at h hs
            by_cases hc : (rd_T37 L (m + 1 : Nat)).f1 = (p : Int) ∧ (rd_T37 L (m + 1 : Nat)).f2 = (m : Int)
            · rw [if_pos hc] at hs
              have := (sz_rng L p).1
              exact .inr (.inr ⟨m, p, rfl, by omega, hk, hc.1, hc.2, by omega, by omega, by omega⟩)
            · rw [if_neg hc] at h; exact absurd rfl h
theorem wf_pos {L : List S37} {i : Nat} (h : Wf L i) : 1 ≤ sz L i := by
  rcases h with ⟨_, h | ⟨m, _, _, _, _, h1, h2⟩ | ⟨m, p, _, _, _, _, _, h1, h2, h3⟩⟩ <;> omega
/-- the row of sizes as the program makes it -/
theorem stp_of_wf {L : List S37} {i : Nat} (h : Wf L i) : stp (rd_T37 L i).f0 (sz L) i = some ((rd_T37 L i).f1, (rd_T37 L i).f2, sz L i) := by
  unfold stp
  rcases h with ⟨_, ⟨hk, h1, h2, h3⟩ | ⟨m, rfl, hk, h1, h2, h3, h4⟩ | ⟨m, p, rfl, hp, hk, h1, h2, h3, h4, h5⟩⟩
  · rw [if_pos hk, h1, h2, h3]
  · rw [if_neg (by omega), if_pos hk, if_neg (by omega), h1, h2, h4]
    have e1 : ((m + 1 : Nat) : Int) - 1 = (m : Int) := by omega
    rw [e1]; rfl
  · have e1 : ((m + 1 : Nat) : Int) - 1 = (m : Int) := by omega
    have e2 : m + 1 - 1 = m := rfl
    rw [if_neg (by omega), if_neg (by omega), if_neg (by omega), e1, e2, if_neg (by omega), h1, h2, h5, show (m : Int) - sz L m = (p : Int) by omega, Int.toNat_natCast]
theorem not_good {L : List S37} {i : Nat} (hp : ∀ m, m < i → sz L m ≠ 0) (h : sz L i = 0) : ¬ good fit (sz L) i (rd_T37 L i) := by
  rintro ⟨s, h1, h2⟩
  have hs : sz L i = szf L (i + 1) i := rfl
  unfold szf at hs
  rw [if_neg (by omega), if_neg (by rw [h2]; decide)] at hs
  unfold stp at h1
  rcases kd_cases (rd_T37 L i).f0 with hk | hk | hk
  · rw [if_pos hk] at h1 hs
    simp only [Option.some.injEq, Prod.mk.injEq] at h1
    rw [if_pos ⟨h1.1.symm, h1.2.1.symm⟩] at hs
    omega
  · rw [if_neg (by omega), if_pos hk] at h1
    rw [if_neg (by omega)] at hs
    by_cases h0 : i = 0
    · rw [if_pos h0] at h1; cases h1
    · rw [if_neg h0] at h1
      obtain ⟨m, rfl⟩ : ∃ m, i = m + 1 := ⟨i - 1, by omega⟩
      have e1 : ((m + 1 : Nat) : Int) - 1 = (m : Int) := by omega
      have e2 : szf L (m + 1) m = sz L m := rfl
      have hm := hp m (by omega)
      have hr := sz_rng L m
      rw [e1, e2, if_neg hm, if_pos hk] at hs
      rw [e1] at h1
      simp only [Option.some.injEq, Prod.mk.injEq] at h1
      rw [if_pos ⟨h1.1.symm, h1.2.1.symm⟩] at hs
      omega
  · rw [if_neg (by omega), if_neg (by omega)] at h1
    rw [if_neg (by omega)] at hs
    by_cases h0 : i = 0
    · rw [if_pos h0] at h1; cases h1
    · rw [if_neg h0] at h1
      obtain ⟨m, rfl⟩ : ∃ m, i = m + 1 := ⟨i - 1, by omega⟩
      have e1 : ((m + 1 : Nat) : Int) - 1 = (m : Int) := by omega
      have e2 : szf L (m + 1) m = sz L m := rfl
      have e3 : m + 1 - 1 = m := rfl
      have hm := hp m (by omega)
      have hr := sz_rng L m
      rw [e1, e2, if_neg hm, if_neg (by omega)] at hs
      rw [e1, e3] at h1
      by_cases hn : (m : Int) - sz L m < 0
      · rw [if_pos hn] at h1; cases h1
      · rw [if_neg hn] at h1
        obtain ⟨p, hq⟩ : ∃ p : Nat, (m : Int) - sz L m = (p : Int) := ⟨((m : Int) - sz L m).toNat, by omega⟩
        rw [hq, szf_eq L (m + 1) p (by omega), if_neg (hp p (by omega))] at hs
        rw [hq] at h1
        simp only [Option.some.injEq, Prod.mk.injEq] at h1
        rw [if_pos ⟨h1.1.symm, h1.2.1.symm⟩] at hs
        have := (sz_rng L p).1
        omega
/-- all nodes of a node's tree stand in order -/
theorem sz_all (L : List S37) : ∀ i, sz L i ≠ 0 → ∀ m : Nat, m ≤ i → (i : Int) - sz L i < (m : Int) → sz L m ≠ 0 := by
  intro i
  induction i using Nat.strongRecOn with
  | ind i ih =>
    intro hi m hm hlo
    by_cases e : m = i
    · rw [e]; exact hi
    · rcases (sz_wf L i hi).2 with ⟨_, _, _, h3⟩ | ⟨q, rfl, _, _, _, h1, h2⟩ | ⟨q, p, rfl, hp, _, _, _, h1, h2, h3⟩
      · omega
      · exact ih q (by omega) (by omega) m (by omega) (by omega)
      · by_cases hmq : (q : Int) - sz L q < (m : Int)
        · exact ih q (by omega) (by omega) m (by omega) hmq
        · exact ih p (by omega) (by omega) m (by omega) (by omega)
/-- a tree stands in order -/
def ord (L : List S37) : Bool := decide (0 < L.length) && sz L (L.length - 1) == (L.length : Int)
theorem ord_wf {L : List S37} (h : ord L = true) (i : Nat) (hi : i < L.length) : Wf L i := by
  simp only [ord, Bool.and_eq_true, decide_eq_true_eq, beq_iff_eq] at h
  refine sz_wf L i (sz_all L (L.length - 1) (by omega) i (by omega) (by omega))
/-- how deep the tree of a node is -/
def dpf (L : List S37) : Nat → Int → Int
  | 0, _ => 1
  | f + 1, i => if kd (rd_T37 L i).f0 = 0 then 1 else if kd (rd_T37 L i).f0 = 1 then 1 + dpf L f (rd_T37 L i).f1 else 1 + max (dpf L f (rd_T37 L i).f1) (dpf L f (rd_T37 L i).f2)
def dp (L : List S37) (i : Nat) : Int := dpf L (i + 1) i
theorem wf_kids {L : List S37} {i : Nat} (h : Wf L i) : kd (rd_T37 L i).f0 = 0 ∨ (∃ a : Nat, (rd_T37 L i).f1 = (a : Int) ∧ a < i ∧ kd (rd_T37 L i).f0 = 1) ∨ (∃ a b : Nat, (rd_T37 L i).f1 = (a : Int) ∧ (rd_T37 L i).f2 = (b : Int) ∧ a < i ∧ b < i ∧ kd (rd_T37 L i).f0 = 2) := by
  rcases h with ⟨_, ⟨hk, _⟩ | ⟨m, rfl, hk, h1, _⟩ | ⟨m, p, rfl, hp, hk, h1, h2, h3, _⟩⟩
  · exact .inl hk
  · exact .inr (.inl ⟨m, h1, by omega, hk⟩)
  · exact .inr (.inr ⟨p, m, h1, h2, by omega, by omega, hk⟩)
theorem dpf_fuel (L : List S37) (j : Nat) (hw : ∀ i, i < j → Wf L i) : ∀ (i : Nat) (f g : Nat), i < j → i < f → i < g → dpf L f i = dpf L g i := by
  intro i
  induction i using Nat.strongRecOn with
  | ind i ih =>
    intro f g hi hf hg
    obtain ⟨f, rfl⟩ : ∃ k, f = k + 1 := ⟨f - 1, by omega⟩
    obtain ⟨g, rfl⟩ : ∃ k, g = k + 1 := ⟨g - 1, by omega⟩
    unfold dpf
    rcases wf_kids (hw i hi) with hk | ⟨a, h1, h2, hk⟩ | ⟨a, b, h1, h2, h3, h4, hk⟩
    · rw [if_pos hk, if_pos hk]
    · rw [if_neg (by omega), if_pos hk, if_neg (by omega), if_pos hk, h1, ih a h2 f g (by omega) (by omega) (by omega)]
    · rw [h1, h2, ih a h3 f g (by omega) (by omega) (by omega), ih b h4 f g (by omega) (by omega) (by omega)]
theorem dp_eq (L : List S37) (j : Nat) (hw : ∀ i, i < j → Wf L i) (i : Nat) (hi : i < j) :
    (kd (rd_T37 L i).f0 = 0 ∧ dp L i = 1) ∨
    (∃ a : Nat, kd (rd_T37 L i).f0 = 1 ∧ (rd_T37 L i).f1 = (a : Int) ∧ a < i ∧ dp L i = 1 + dp L a) ∨
    (∃ a b : Nat, kd (rd_T37 L i).f0 = 2 ∧ (rd_T37 L i).f1 = (a : Int) ∧ (rd_T37 L i).f2 = (b : Int) ∧ a < i ∧ b < i ∧ dp L i = 1 + max (dp L a) (dp L b)) := by
  have hd : dp L i = dpf L (i + 1) i := rfl
  unfold dpf at hd
  rcases wf_kids (hw i hi) with hk | ⟨a, h1, h2, hk⟩ | ⟨a, b, h1, h2, h3, h4, hk⟩
  · rw [if_pos hk] at hd
    exact .inl ⟨hk, hd⟩
  · rw [if_neg (by omega), if_pos hk, h1, dpf_fuel L j hw a i (a + 1) (by omega) h2 (by omega)] at hd
    exact .inr (.inl ⟨a, hk, h1, h2, hd⟩)
  · rw [if_neg (by omega), if_neg (by omega), h1, h2, dpf_fuel L j hw a i (a + 1) (by omega) h3 (by omega), dpf_fuel L j hw b i (b + 1) (by omega) h4 (by omega)] at hd
    exact .inr (.inr ⟨a, b, hk, h1, h2, h3, h4, hd⟩)
theorem dp_rng (L : List S37) (j : Nat) (hw : ∀ i, i < j → Wf L i) : ∀ i, i < j → 1 ≤ dp L i ∧ dp L i ≤ (i : Int) + 1 := by
  intro i
  induction i using Nat.strongRecOn with
  | ind i ih =>
    intro hi
    rcases dp_eq L j hw i hi with ⟨_, h⟩ | ⟨a, _, _, h1, h⟩ | ⟨a, b, _, _, _, h1, h2, h⟩
    · omega
    · have := ih a h1 (by omega); omega
    · have := ih a h1 (by omega)
      have := ih b h2 (by omega)
      omega
theorem dp_ok (L : List S37) (j : Nat) (hw : ∀ i, i < j → Wf L i) (i : Nat) (hi : i < j) : dOk L (dp L) i := by
  unfold dOk
  rcases dp_eq L j hw i hi with ⟨h0, h⟩ | ⟨a, h0, h1, h2, h⟩ | ⟨a, b, h0, h1, h2, h3, h4, h⟩
  · exact .inl ⟨h0, h⟩
  · exact .inr (.inl ⟨h0, by rw [h1, Int.toNat_natCast]; exact h, by omega, by omega⟩)
  · exact .inr (.inr ⟨h0, by rw [h1, h2, Int.toNat_natCast, Int.toNat_natCast]; exact h, by omega, by omega, by omega, by omega⟩)
/-- no tree within a tree is as deep -/
theorem dp_most (L : List S37) (j : Nat) (hw : ∀ i, i < j → Wf L i) : ∀ i, i < j → ∀ m : Nat, m ≤ i → (i : Int) - sz L i < (m : Int) → dp L m ≤ dp L i := by
  intro i
  induction i using Nat.strongRecOn with
  | ind i ih =>
    intro hi m hm hlo
    by_cases e : m = i
    · rw [e]; exact Int.le_refl _
    · rcases (hw i hi).2 with ⟨_, _, _, h3⟩ | ⟨q, rfl, hk, hf1, hf2, h1, h2⟩ | ⟨q, p, rfl, hp, hk, hf1, hf2, h1, h2, h3⟩
      · omega
      · rcases dp_eq L j hw _ hi with ⟨h0, h⟩ | ⟨a, h0, ha, _, h⟩ | ⟨a, b, h0, _⟩
        · omega
        · obtain rfl : a = q := by omega
          have := ih a (by omega) (by omega) m (by omega) (by omega)
          omega
        · omega
      · rcases dp_eq L j hw _ hi with ⟨h0, h⟩ | ⟨a, h0, ha, _, h⟩ | ⟨a, b, h0, ha, hb, _, _, h⟩
        · omega
        · omega
        · obtain rfl : a = p := by omega
          obtain rfl : b = q := by omega
          by_cases hmq : (b : Int) - sz L b < (m : Int)
          · have := ih b (by omega) (by omega) m (by omega) hmq
            omega
          · have := ih a (by omega) (by omega) m (by omega) (by omega)
            omega
/-- how many bytes the tree of a node has, at least and at most -/
def lnf (L : List S37) : Nat → Int → Int × Int
  | 0, _ => (0, 0)
  | f + 1, i =>
    if (rd_T37 L i).f0 = 1 then (1, 1)
    else if (rd_T37 L i).f0 = 12 then (0, -1)
    else if (rd_T37 L i).f0 = 8 then (pl (lnf L f (rd_T37 L i).f1).1 (lnf L f (rd_T37 L i).f2).1, pl (lnf L f (rd_T37 L i).f1).2 (lnf L f (rd_T37 L i).f2).2)
    else if (rd_T37 L i).f0 = 9 then (min (lnf L f (rd_T37 L i).f1).1 (lnf L f (rd_T37 L i).f2).1, if min (lnf L f (rd_T37 L i).f1).2 (lnf L f (rd_T37 L i).f2).2 = -1 then -1 else max (lnf L f (rd_T37 L i).f1).2 (lnf L f (rd_T37 L i).f2).2)
    else if (rd_T37 L i).f0 = 10 then (tm (lnf L f (rd_T37 L i).f1).1 (rd_T37 L i).f4, tm (lnf L f (rd_T37 L i).f1).2 (rd_T37 L i).f5)
    else if (rd_T37 L i).f0 = 11 ∨ (rd_T37 L i).f0 = 17 then lnf L f (rd_T37 L i).f1
    else (0, 0)
def ln (L : List S37) (i : Nat) : Int × Int := lnf L (i + 1) i
theorem kid1 {L : List S37} {i : Nat} (h : Wf L i) (hk : kd (rd_T37 L i).f0 = 1) : ∃ a : Nat, (rd_T37 L i).f1 = (a : Int) ∧ a < i := by
  rcases wf_kids h with h | ⟨a, h1, h2, _⟩ | ⟨a, b, _, _, _, _, h⟩
  · omega
  · exact ⟨a, h1, h2⟩
  · omega
theorem kid2 {L : List S37} {i : Nat} (h : Wf L i) (hk : kd (rd_T37 L i).f0 = 2) : ∃ a b : Nat, (rd_T37 L i).f1 = (a : Int) ∧ (rd_T37 L i).f2 = (b : Int) ∧ a < i ∧ b < i := by
  rcases wf_kids h with h | ⟨a, h1, h2, h⟩ | ⟨a, b, h1, h2, h3, h4, h⟩
  · omega
  · omega
  · exact ⟨a, b, h1, h2, h3, h4⟩
theorem fit_rng {x : S37} (h : fit x = true) : 0 ≤ x.f0 ∧ x.f0 ≤ 17 := by
  unfold fit rfit at h
  simp only [Bool.and_eq_true, decide_eq_true_eq] at h
  exact ⟨h.1.1.1.1.1.1, h.1.1.1.1.1.2⟩
theorem fit10 {x : S37} (h : fit x = true) (hk : x.f0 = 10) : 0 ≤ x.f4 ∧ x.f4 ≤ 100 ∧ x.f5 ≤ 100 ∧ (x.f5 = -1 ∨ x.f4 ≤ x.f5) ∧ 0 ≤ x.f6 ∧ x.f6 ≤ 2 := by
  unfold fit rfit at h
  simp only [Bool.and_eq_true, decide_eq_true_eq, Bool.or_eq_true, bne_iff_ne, beq_iff_eq] at h
  have h := h.2
  rcases h with h | h
  · exact absurd hk h
  · obtain ⟨⟨⟨⟨⟨h1, h2⟩, h3⟩, h4⟩, h5⟩, h6⟩ := h
    exact ⟨h1, h2, h3, h4, h5, h6⟩
theorem fit_zero {x : S37} (h : fit x = true) : (x.f0 ≠ 1 → x.f3 = z35) ∧ (x.f0 ≠ 10 → x.f4 = 0 ∧ x.f5 = 0 ∧ x.f6 = 0) ∧ (x.f0 ≠ 11 → x.f0 ≠ 12 → x.f7 = 0) ∧ (x.f0 ≠ 12 → x.f8 = false) := by
  unfold fit rfit at h
  simp only [Bool.and_eq_true, decide_eq_true_eq, Bool.or_eq_true, bne_iff_ne, beq_iff_eq, Bool.not_eq_true'] at h
  obtain ⟨⟨⟨⟨⟨_, h1⟩, h2⟩, h3⟩, h4⟩, _⟩ := h
  refine ⟨fun hn => ?_, fun hn => ?_, fun h5 h6 => ?_, fun hn => ?_⟩
  · rcases h1 with h1 | ⟨a, b, c, d⟩
    · exact absurd h1 hn
    · obtain ⟨_, _, _, ⟨⟨s0, s1, s2, s3⟩⟩, _, _, _, _, _⟩ := x
      simp only at a b c d
      subst a b c d
      rfl
  · rcases h2 with h2 | h2
    · exact absurd h2 hn
    · exact ⟨h2.1.1, h2.1.2, h2.2⟩
  · rcases h3 with (h3 | h3) | h3
    · exact absurd h3 h5
    · exact absurd h3 h6
    · exact h3
  · rcases h4 with h4 | h4
    · exact absurd h4 hn
    · exact h4
theorem lnf_fuel (L : List S37) (j : Nat) (hw : ∀ i, i < j → Wf L i) : ∀ (i : Nat) (f g : Nat), i < j → i < f → i < g → lnf L f i = lnf L g i := by
  intro i
  induction i using Nat.strongRecOn with
  | ind i ih =>
    intro f g hi hf hg
    obtain ⟨f, rfl⟩ : ∃ k, f = k + 1 := ⟨f - 1, by omega⟩
    obtain ⟨g, rfl⟩ : ∃ k, g = k + 1 := ⟨g - 1, by omega⟩
    have K1 : kd (rd_T37 L i).f0 = 1 → lnf L f (rd_T37 L i).f1 = lnf L g (rd_T37 L i).f1 := by
      intro hk
      obtain ⟨a, h1, h2⟩ := kid1 (hw i hi) hk
      rw [h1]
      exact ih a h2 f g (by omega) (by omega) (by omega)
    have K2 : kd (rd_T37 L i).f0 = 2 → lnf L f (rd_T37 L i).f1 = lnf L g (rd_T37 L i).f1 ∧ lnf L f (rd_T37 L i).f2 = lnf L g (rd_T37 L i).f2 := by
      intro hk
      obtain ⟨a, b, h1, h2, h3, h4⟩ := kid2 (hw i hi) hk
      rw [h1, h2]
      exact ⟨ih a h3 f g (by omega) (by omega) (by omega), ih b h4 f g (by omega) (by omega) (by omega)⟩
    unfold lnf
    by_cases h1 : (rd_T37 L i).f0 = 1
    · rw [if_pos h1, if_pos h1]
    rw [if_neg h1, if_neg h1]
    by_cases h2 : (rd_T37 L i).f0 = 12
    · rw [if_pos h2, if_pos h2]
    rw [if_neg h2, if_neg h2]
    by_cases h3 : (rd_T37 L i).f0 = 8
    · obtain ⟨e1, e2⟩ := K2 (by rw [h3]; rfl)
      rw [if_pos h3, if_pos h3, e1, e2]
    rw [if_neg h3, if_neg h3]
    by_cases h4 : (rd_T37 L i).f0 = 9
    · obtain ⟨e1, e2⟩ := K2 (by rw [h4]; rfl)
      rw [if_pos h4, if_pos h4, e1, e2]
    rw [if_neg h4, if_neg h4]
    by_cases h5 : (rd_T37 L i).f0 = 10
    · rw [if_pos h5, if_pos h5, K1 (by rw [h5]; rfl)]
    rw [if_neg h5, if_neg h5]
    by_cases h6 : (rd_T37 L i).f0 = 11 ∨ (rd_T37 L i).f0 = 17
    · rw [if_pos h6, if_pos h6, K1 (by rcases h6 with h6 | h6 <;> rw [h6] <;> rfl)]
    rw [if_neg h6, if_neg h6]
/-- the lengths of a tree, of those of its children -/
def lnStep (L : List S37) (i : Nat) : Int × Int :=
  if (rd_T37 L i).f0 = 1 then (1, 1)
  else if (rd_T37 L i).f0 = 12 then (0, -1)
  else if (rd_T37 L i).f0 = 8 then (pl (ln L (rd_T37 L i).f1.toNat).1 (ln L (rd_T37 L i).f2.toNat).1, pl (ln L (rd_T37 L i).f1.toNat).2 (ln L (rd_T37 L i).f2.toNat).2)
  else if (rd_T37 L i).f0 = 9 then (min (ln L (rd_T37 L i).f1.toNat).1 (ln L (rd_T37 L i).f2.toNat).1, if min (ln L (rd_T37 L i).f1.toNat).2 (ln L (rd_T37 L i).f2.toNat).2 = -1 then -1 else max (ln L (rd_T37 L i).f1.toNat).2 (ln L (rd_T37 L i).f2.toNat).2)
  else if (rd_T37 L i).f0 = 10 then (tm (ln L (rd_T37 L i).f1.toNat).1 (rd_T37 L i).f4, tm (ln L (rd_T37 L i).f1.toNat).2 (rd_T37 L i).f5)
  else if (rd_T37 L i).f0 = 11 ∨ (rd_T37 L i).f0 = 17 then ln L (rd_T37 L i).f1.toNat
  else (0, 0)
theorem ln_eq (L : List S37) (j : Nat) (hw : ∀ i, i < j → Wf L i) (i : Nat) (hi : i < j) : ln L i = lnStep L i := by
  have K1 : kd (rd_T37 L i).f0 = 1 → lnf L i (rd_T37 L i).f1 = ln L (rd_T37 L i).f1.toNat := by
    intro hk
    obtain ⟨a, h1, h2⟩ := kid1 (hw i hi) hk
    rw [h1, Int.toNat_natCast]
    exact lnf_fuel L j hw a i (a + 1) (by omega) (by omega) (by omega)
  have K2 : kd (rd_T37 L i).f0 = 2 → lnf L i (rd_T37 L i).f1 = ln L (rd_T37 L i).f1.toNat ∧ lnf L i (rd_T37 L i).f2 = ln L (rd_T37 L i).f2.toNat := by
    intro hk
    obtain ⟨a, b, h1, h2, h3, h4⟩ := kid2 (hw i hi) hk
    rw [h1, h2, Int.toNat_natCast, Int.toNat_natCast]
    exact ⟨lnf_fuel L j hw a i (a + 1) (by omega) (by omega) (by omega), lnf_fuel L j hw b i (b + 1) (by omega) (by omega) (by omega)⟩
  have hd : ln L i = lnf L (i + 1) i := rfl
  rw [hd]
  unfold lnf lnStep
  by_cases h1 : (rd_T37 L i).f0 = 1
  · rw [if_pos h1, if_pos h1]
  rw [if_neg h1, if_neg h1]
  by_cases h2 : (rd_T37 L i).f0 = 12
  · rw [if_pos h2, if_pos h2]
  rw [if_neg h2, if_neg h2]
  by_cases h3 : (rd_T37 L i).f0 = 8
  · obtain ⟨e1, e2⟩ := K2 (by rw [h3]; rfl)
    rw [if_pos h3, if_pos h3, e1, e2]
  rw [if_neg h3, if_neg h3]
  by_cases h4 : (rd_T37 L i).f0 = 9
  · obtain ⟨e1, e2⟩ := K2 (by rw [h4]; rfl)
    rw [if_pos h4, if_pos h4, e1, e2]
  rw [if_neg h4, if_neg h4]
  by_cases h5 : (rd_T37 L i).f0 = 10
  · rw [if_pos h5, if_pos h5, K1 (by rw [h5]; rfl)]
  rw [if_neg h5, if_neg h5]
  by_cases h6 : (rd_T37 L i).f0 = 11 ∨ (rd_T37 L i).f0 = 17
  · rw [if_pos h6, if_pos h6, K1 (by rcases h6 with h6 | h6 <;> rw [h6] <;> rfl)]
  rw [if_neg h6, if_neg h6]
theorem lnStep_cases {L : List S37} {i : Nat} (P : Int × Int → Prop) (h1 : (rd_T37 L i).f0 = 1 → P (1, 1)) (h2 : (rd_T37 L i).f0 = 12 → P (0, -1))
    (h3 : (rd_T37 L i).f0 = 8 → P (pl (ln L (rd_T37 L i).f1.toNat).1 (ln L (rd_T37 L i).f2.toNat).1, pl (ln L (rd_T37 L i).f1.toNat).2 (ln L (rd_T37 L i).f2.toNat).2))
    (h4 : (rd_T37 L i).f0 = 9 → P (min (ln L (rd_T37 L i).f1.toNat).1 (ln L (rd_T37 L i).f2.toNat).1, if min (ln L (rd_T37 L i).f1.toNat).2 (ln L (rd_T37 L i).f2.toNat).2 = -1 then -1 else max (ln L (rd_T37 L i).f1.toNat).2 (ln L (rd_T37 L i).f2.toNat).2))
    (h5 : (rd_T37 L i).f0 = 10 → P (tm (ln L (rd_T37 L i).f1.toNat).1 (rd_T37 L i).f4, tm (ln L (rd_T37 L i).f1.toNat).2 (rd_T37 L i).f5))
    (h6 : (rd_T37 L i).f0 = 11 ∨ (rd_T37 L i).f0 = 17 → P (ln L (rd_T37 L i).f1.toNat))
    (h7 : (rd_T37 L i).f0 ≠ 1 → (rd_T37 L i).f0 ≠ 12 → (rd_T37 L i).f0 ≠ 8 → (rd_T37 L i).f0 ≠ 9 → (rd_T37 L i).f0 ≠ 10 → (rd_T37 L i).f0 ≠ 11 → (rd_T37 L i).f0 ≠ 17 → P (0, 0)) : P (lnStep L i) := by
  unfold lnStep
  split
  · rename_i h; exact h1 h
  · split
    · rename_i h; exact h2 h
    · split
      · rename_i h; exact h3 h
      · split
        · rename_i h; exact h4 h
        · split
          · rename_i h; exact h5 h
          · split
            · rename_i h; exact h6 h
            · rename_i a b c d e f
              exact h7 a b c d e (fun h => f (.inl h)) (fun h => f (.inr h))
theorem ln_rng (L : List S37) (j : Nat) (hw : ∀ i, i < j → Wf L i) : ∀ i, i < j → 0 ≤ (ln L i).1 ∧ bnd (ln L i).1 ∧ bnd (ln L i).2 := by
  intro i
  induction i using Nat.strongRecOn with
  | ind i ih =>
    intro hi
    rw [ln_eq L j hw i hi]
    have K1 : kd (rd_T37 L i).f0 = 1 → 0 ≤ (ln L (rd_T37 L i).f1.toNat).1 ∧ bnd (ln L (rd_T37 L i).f1.toNat).1 ∧ bnd (ln L (rd_T37 L i).f1.toNat).2 := by
      intro hk
      obtain ⟨a, h1, h2⟩ := kid1 (hw i hi) hk
      rw [h1, Int.toNat_natCast]
      exact ih a h2 (by omega)
    have K2 : kd (rd_T37 L i).f0 = 2 → (0 ≤ (ln L (rd_T37 L i).f1.toNat).1 ∧ bnd (ln L (rd_T37 L i).f1.toNat).1 ∧ bnd (ln L (rd_T37 L i).f1.toNat).2) ∧ (0 ≤ (ln L (rd_T37 L i).f2.toNat).1 ∧ bnd (ln L (rd_T37 L i).f2.toNat).1 ∧ bnd (ln L (rd_T37 L i).f2.toNat).2) := by
      intro hk
      obtain ⟨a, b, h1, h2, h3, h4⟩ := kid2 (hw i hi) hk
      rw [h1, h2, Int.toNat_natCast, Int.toNat_natCast]
      exact ⟨ih a h3 (by omega), ih b h4 (by omega)⟩
    have hf := (hw i hi).1
    refine lnStep_cases (fun p => 0 ≤ p.1 ∧ bnd p.1 ∧ bnd p.2) (fun _ => ?_) (fun _ => ?_) (fun h => ?_) (fun h => ?_) (fun h => ?_) (fun h => ?_) (fun _ _ _ _ _ _ _ => ?_)
    · unfold bnd; simp
    · unfold bnd; simp
    · obtain ⟨⟨a1, a2, a3⟩, b1, b2, b3⟩ := K2 (by rw [h]; rfl)
      refine ⟨?_, pl_bnd a2 b2, pl_bnd a3 b3⟩
      show 0 ≤ pl _ _
      unfold pl
      rw [if_neg (by omega), if_neg (by omega)]
      omega
    · obtain ⟨⟨a1, a2, a3⟩, b1, b2, b3⟩ := K2 (by rw [h]; rfl)
      unfold bnd at *
      refine ⟨?_, ?_, ?_⟩
      · show 0 ≤ min _ _; omega
      · show -1 ≤ min _ _ ∧ min _ _ ≤ 1048576; omega
      · show -1 ≤ ite _ _ _ ∧ ite _ _ _ ≤ 1048576; split <;> omega
    · obtain ⟨a1, a2, a3⟩ := K1 (by rw [h]; rfl)
      obtain ⟨m1, m2, m3, m4, _⟩ := fit10 hf h
      refine ⟨?_, tm_bnd a2 (by omega), tm_bnd a3 (by omega)⟩
      show 0 ≤ tm _ _
      unfold tm
      split
      · omega
      · rw [if_neg (by omega), if_neg (by omega)]
        have := (tm_rng a2 (b := (rd_T37 L i).f4) (by omega) (by omega) (by omega)).1
        omega
    · exact K1 (by rcases h with h | h <;> rw [h] <;> rfl)
    · unfold bnd; simp
def lP (L : List S37) (i : Nat) (p : Int × Int) : Prop :=
  ((rd_T37 L i).f0 = 1 ∧ p.1 = 1 ∧ p.2 = 1) ∨
  ((rd_T37 L i).f0 = 12 ∧ p.1 = 0 ∧ p.2 = -1) ∨
  ((rd_T37 L i).f0 = 8 ∧ isKid (rd_T37 L i).f1 i ∧ isKid (rd_T37 L i).f2 i ∧ p.1 = pl (ln L (rd_T37 L i).f1.toNat).1 (ln L (rd_T37 L i).f2.toNat).1 ∧ p.2 = pl (ln L (rd_T37 L i).f1.toNat).2 (ln L (rd_T37 L i).f2.toNat).2) ∨
  ((rd_T37 L i).f0 = 9 ∧ isKid (rd_T37 L i).f1 i ∧ isKid (rd_T37 L i).f2 i ∧ p.1 = min (ln L (rd_T37 L i).f1.toNat).1 (ln L (rd_T37 L i).f2.toNat).1 ∧ p.2 = if min (ln L (rd_T37 L i).f1.toNat).2 (ln L (rd_T37 L i).f2.toNat).2 = -1 then -1 else max (ln L (rd_T37 L i).f1.toNat).2 (ln L (rd_T37 L i).f2.toNat).2) ∨
  ((rd_T37 L i).f0 = 10 ∧ isKid (rd_T37 L i).f1 i ∧ (-1 ≤ (rd_T37 L i).f4 ∧ (rd_T37 L i).f4 ≤ 100) ∧ (-1 ≤ (rd_T37 L i).f5 ∧ (rd_T37 L i).f5 ≤ 100) ∧ p.1 = tm (ln L (rd_T37 L i).f1.toNat).1 (rd_T37 L i).f4 ∧ p.2 = tm (ln L (rd_T37 L i).f1.toNat).2 (rd_T37 L i).f5) ∨
  (((rd_T37 L i).f0 = 11 ∨ (rd_T37 L i).f0 = 17) ∧ isKid (rd_T37 L i).f1 i ∧ p.1 = (ln L (rd_T37 L i).f1.toNat).1 ∧ p.2 = (ln L (rd_T37 L i).f1.toNat).2) ∨
  ((rd_T37 L i).f0 ≠ 1 ∧ (rd_T37 L i).f0 ≠ 12 ∧ (rd_T37 L i).f0 ≠ 8 ∧ (rd_T37 L i).f0 ≠ 9 ∧ (rd_T37 L i).f0 ≠ 10 ∧ (rd_T37 L i).f0 ≠ 11 ∧ (rd_T37 L i).f0 ≠ 17 ∧ p.1 = 0 ∧ p.2 = 0)
theorem ln_ok (L : List S37) (j : Nat) (hw : ∀ i, i < j → Wf L i) (i : Nat) (hi : i < j) : lOk L (fun m => (ln L m).1) (fun m => (ln L m).2) i := by
  have K1 : kd (rd_T37 L i).f0 = 1 → isKid (rd_T37 L i).f1 i := by
    intro hk
    obtain ⟨a, h1, h2⟩ := kid1 (hw i hi) hk
    unfold isKid
    omega
  have K2 : kd (rd_T37 L i).f0 = 2 → isKid (rd_T37 L i).f1 i ∧ isKid (rd_T37 L i).f2 i := by
    intro hk
    obtain ⟨a, b, h1, h2, h3, h4⟩ := kid2 (hw i hi) hk
    unfold isKid
    omega
  have hf := (hw i hi).1
  show lP L i (ln L i)
  rw [ln_eq L j hw i hi]
  refine lnStep_cases (lP L i) (fun h => ?_) (fun h => ?_) (fun h => ?_) (fun h => ?_) (fun h => ?_) (fun h => ?_) (fun h1 h2 h3 h4 h5 h6 h7 => ?_)
  · exact .inl ⟨h, rfl, rfl⟩
  · exact .inr (.inl ⟨h, rfl, rfl⟩)
  · obtain ⟨k1, k2⟩ := K2 (by rw [h]; rfl)
    exact .inr (.inr (.inl ⟨h, k1, k2, rfl, rfl⟩))
  · obtain ⟨k1, k2⟩ := K2 (by rw [h]; rfl)
    exact .inr (.inr (.inr (.inl ⟨h, k1, k2, rfl, rfl⟩)))
  · obtain ⟨m1, m2, m3, m4, _⟩ := fit10 hf h
    exact .inr (.inr (.inr (.inr (.inl ⟨h, K1 (by rw [h]; rfl), ⟨by omega, by omega⟩, ⟨by omega, by omega⟩, rfl, rfl⟩))))
  · exact .inr (.inr (.inr (.inr (.inr (.inl ⟨h, K1 (by rcases h with h | h <;> rw [h] <;> rfl), rfl, rfl⟩)))))
  · exact .inr (.inr (.inr (.inr (.inr (.inr ⟨h1, h2, h3, h4, h5, h6, h7, rfl, rfl⟩)))))
end Go.Proofs.YtaaihcojedibeaaDoor.DSpec
end
section
/- The groups of a tree, as they begin; plain. -/
namespace Go.Proofs.YtaaihcojedibeaaDoor.DGrp
set_option maxRecDepth 100000
open CMem DRow DDeep DRFits DSizes DFits DLens DSpec Q
set_option linter.unusedVariables false
set_option linter.unusedSimpArgs false
/-- the groups of a node's tree, ahead of those within -/
def gif (L : List S37) : Nat → Int → List Nat
  | 0, _ => []
  | f + 1, i => (if (rd_T37 L i).f0 = 11 then [i.toNat] else []) ++ (if kd (rd_T37 L i).f0 = 0 then [] else if kd (rd_T37 L i).f0 = 1 then gif L f (rd_T37 L i).f1 else gif L f (rd_T37 L i).f1 ++ gif L f (rd_T37 L i).f2)
def gi (L : List S37) (i : Nat) : List Nat := gif L (i + 1) i
theorem gif_fuel (L : List S37) (j : Nat) (hw : ∀ i, i < j → Wf L i) : ∀ (i : Nat) (f g : Nat), i < j → i < f → i < g → gif L f i = gif L g i := by
  intro i
  induction i using Nat.strongRecOn with
  | ind i ih =>
    intro f g hi hf hg
    obtain ⟨f, rfl⟩ : ∃ k, f = k + 1 := ⟨f - 1, by omega⟩
    obtain ⟨g, rfl⟩ : ∃ k, g = k + 1 := ⟨g - 1, by omega⟩
    unfold gif
    rcases wf_kids (hw i hi) with hk | ⟨a, h1, h2, hk⟩ | ⟨a, b, h1, h2, h3, h4, hk⟩
    · rw [if_pos hk, if_pos hk]
    · rw [if_neg (show ¬ kd (rd_T37 L i).f0 = 0 by omega), if_pos hk, if_neg (show ¬ kd (rd_T37 L i).f0 = 0 by omega), if_pos hk, h1, ih a h2 f g (by omega) (by omega) (by omega)]
    · rw [h1, h2, ih a h3 f g (by omega) (by omega) (by omega), ih b h4 f g (by omega) (by omega) (by omega)]
theorem gi_eq (L : List S37) (j : Nat) (hw : ∀ i, i < j → Wf L i) (i : Nat) (hi : i < j) :
    (kd (rd_T37 L i).f0 = 0 ∧ gi L i = []) ∨
    (∃ a : Nat, kd (rd_T37 L i).f0 = 1 ∧ (rd_T37 L i).f1 = (a : Int) ∧ a < i ∧ gi L i = (if (rd_T37 L i).f0 = 11 then [i] else []) ++ gi L a) ∨
    (∃ a b : Nat, kd (rd_T37 L i).f0 = 2 ∧ (rd_T37 L i).f1 = (a : Int) ∧ (rd_T37 L i).f2 = (b : Int) ∧ a < i ∧ b < i ∧ gi L i = gi L a ++ gi L b) := by
  have hd : gi L i = gif L (i + 1) i := rfl
  have hn : ∀ k, kd k = 0 ∨ kd k = 2 → k ≠ 11 := by
    rintro k h rfl
    have : kd 11 = 1 := rfl
    omega
  unfold gif at hd
  rw [Int.toNat_natCast] at hd
  rcases wf_kids (hw i hi) with hk | ⟨a, h1, h2, hk⟩ | ⟨a, b, h1, h2, h3, h4, hk⟩
  · rw [if_pos hk, if_neg (hn _ (.inl hk))] at hd
    exact .inl ⟨hk, hd⟩
  · rw [if_neg (show ¬ kd (rd_T37 L i).f0 = 0 by omega), if_pos hk, h1, gif_fuel L j hw a i (a + 1) (by omega) h2 (by omega)] at hd
    exact .inr (.inl ⟨a, hk, h1, h2, hd⟩)
  · rw [if_neg (show ¬ kd (rd_T37 L i).f0 = 0 by omega), if_neg (show ¬ kd (rd_T37 L i).f0 = 1 by omega), if_neg (hn _ (.inr hk)), h1, h2, gif_fuel L j hw a i (a + 1) (by omega) h3 (by omega), gif_fuel L j hw b i (b + 1) (by omega) h4 (by omega)] at hd
    exact .inr (.inr ⟨a, b, hk, h1, h2, h3, h4, hd⟩)
/-- a tree within a tree begins no earlier -/
theorem nested (L : List S37) (j : Nat) (hw : ∀ i, i < j → Wf L i) : ∀ i, i < j → ∀ m : Nat, m ≤ i → (i : Int) - sz L i < (m : Int) → (i : Int) - sz L i ≤ (m : Int) - sz L m := by
  intro i
  induction i using Nat.strongRecOn with
  | ind i ih =>
    intro hi m hm hlo
    by_cases e : m = i
    · rw [e]; exact Int.le_refl _
    · rcases (hw i hi).2 with ⟨_, _, _, h3⟩ | ⟨q, rfl, hk, hf1, hf2, h1, h2⟩ | ⟨q, p, rfl, hp, hk, hf1, hf2, h1, h2, h3⟩
      · omega
      · have := ih q (by omega) (by omega) m (by omega) (by omega)
        omega
      · by_cases hmq : (q : Int) - sz L q < (m : Int)
        · have := ih q (by omega) (by omega) m (by omega) hmq
          omega
        · have := ih p (by omega) (by omega) m (by omega) (by omega)
          omega
theorem gi_mem (L : List S37) (j : Nat) (hw : ∀ i, i < j → Wf L i) : ∀ i, i < j → ∀ m : Nat, m ∈ gi L i ↔ (m ≤ i ∧ (i : Int) - sz L i < (m : Int) ∧ (rd_T37 L m).f0 = 11) := by
  intro i
  induction i using Nat.strongRecOn with
  | ind i ih =>
    intro hi m
    rcases (hw i hi).2 with ⟨hk, _, _, h3⟩ | ⟨q, rfl, hk, hf1, hf2, h1, h2⟩ | ⟨q, p, rfl, hp, hk, hf1, hf2, h1, h2, h3⟩
    · rcases gi_eq L j hw i hi with ⟨_, h⟩ | ⟨a, h0, _⟩ | ⟨a, b, h0, _⟩
      · rw [h]
        constructor
        · intro h; cases h
        · rintro ⟨a, b, c⟩
          obtain rfl : m = i := by omega
          rw [c] at hk
          exact absurd hk (by decide)
      · omega
      · omega
    · rcases gi_eq L j hw _ hi with ⟨h0, h⟩ | ⟨a, h0, ha, hlt, h⟩ | ⟨a, b, h0, _⟩
      · omega
      · obtain rfl : a = q := by omega
        rw [h, List.mem_append, ih a (by omega) (by omega) m]
        constructor
        · rintro (h | ⟨h4, h5, h6⟩)
          · split at h
            · rename_i hc
              obtain rfl := List.mem_singleton.1 h
              exact ⟨Nat.le_refl _, by omega, hc⟩
            · cases h
          · exact ⟨by omega, by omega, h6⟩
        · rintro ⟨h4, h5, h6⟩
          by_cases e : m = a + 1
          · subst e
            left
            rw [if_pos h6]
            exact List.mem_singleton.2 rfl
          · exact .inr ⟨by omega, by omega, h6⟩
      · omega
    · rcases gi_eq L j hw _ hi with ⟨h0, h⟩ | ⟨a, h0, ha, hlt, h⟩ | ⟨a, b, h0, ha, hb, _, _, h⟩
      · omega
      · omega
      · obtain rfl : a = p := by omega
        obtain rfl : b = q := by omega
        rw [h, List.mem_append, ih a (by omega) (by omega) m, ih b (by omega) (by omega) m]
        constructor
        · rintro (⟨h4, h5, h6⟩ | ⟨h4, h5, h6⟩)
          · exact ⟨by omega, by omega, h6⟩
          · exact ⟨by omega, by omega, h6⟩
        · rintro ⟨h4, h5, h6⟩
          by_cases e : m = b + 1
          · subst e
            rw [h6] at hk
            exact absurd hk (by decide)
          · by_cases hmq : (b : Int) - sz L b < (m : Int)
            · exact .inr ⟨by omega, hmq, h6⟩
            · exact .inl ⟨by omega, by omega, h6⟩
/-- begins ahead of, or around -/
def glt (L : List S37) (a b : Nat) : Prop := (a : Int) - sz L a < (b : Int) - sz L b ∨ ((a : Int) - sz L a = (b : Int) - sz L b ∧ sz L b < sz L a)
theorem gi_sorted (L : List S37) (j : Nat) (hw : ∀ i, i < j → Wf L i) : ∀ i, i < j → (gi L i).Pairwise (glt L) := by
  intro i
  induction i using Nat.strongRecOn with
  | ind i ih =>
    intro hi
    rcases (hw i hi).2 with ⟨hk, _, _, h3⟩ | ⟨q, rfl, hk, hf1, hf2, h1, h2⟩ | ⟨q, p, rfl, hp, hk, hf1, hf2, h1, h2, h3⟩
    · rcases gi_eq L j hw i hi with ⟨_, h⟩ | ⟨a, h0, _⟩ | ⟨a, b, h0, _⟩
      · rw [h]; exact List.Pairwise.nil
      · omega
      · omega
    · rcases gi_eq L j hw _ hi with ⟨h0, h⟩ | ⟨a, h0, ha, hlt, h⟩ | ⟨a, b, h0, _⟩
      · omega
      · obtain rfl : a = q := by omega
        rw [h, List.pairwise_append]
        refine ⟨by split <;> simp, ih a (by omega) (by omega), fun x hx y hy => ?_⟩
        split at hx
        · obtain rfl := List.mem_singleton.1 hx
          obtain ⟨h4, h5, h6⟩ := (gi_mem L j hw a (by omega) y).1 hy
          have := nested L j hw _ hi y (by omega) (by omega)
          unfold glt
          by_cases e : ((a + 1 : Nat) : Int) - sz L (a + 1) < (y : Int) - sz L y
          · exact .inl e
          · exact .inr ⟨by omega, by omega⟩
        · cases hx
      · omega
    · rcases gi_eq L j hw _ hi with ⟨h0, h⟩ | ⟨a, h0, ha, hlt, h⟩ | ⟨a, b, h0, ha, hb, _, _, h⟩
      · omega
      · omega
      · obtain rfl : a = p := by omega
        obtain rfl : b = q := by omega
        rw [h, List.pairwise_append]
        refine ⟨ih a (by omega) (by omega), ih b (by omega) (by omega), fun x hx y hy => ?_⟩
        obtain ⟨h4, h5, h6⟩ := (gi_mem L j hw a (by omega) x).1 hx
        obtain ⟨h7, h8, h9⟩ := (gi_mem L j hw b (by omega) y).1 hy
        have n1 := nested L j hw b (by omega) y h7 h8
        have n2 := wf_pos (hw x (by omega))
        have n3 := wf_pos (hw y (by omega))
        unfold glt
        exact .inl (by omega)
theorem glt_irrefl (L : List S37) (a : Nat) : ¬ glt L a a := by unfold glt; omega
theorem gi_nodup (L : List S37) (j : Nat) (hw : ∀ i, i < j → Wf L i) (i : Nat) (hi : i < j) : (gi L i).Nodup :=
  (gi_sorted L j hw i hi).imp (fun {a b} h e => by subst e; exact glt_irrefl L a h)
/-- the nodes that are groups, as they stand -/
def gall (L : List S37) : List Nat := (List.range L.length).filter fun i => (rd_T37 L i).f0 == 11
theorem gall_perm {L : List S37} (h : ord L = true) : (gall L).Perm (gi L (L.length - 1)) := by
  have hw := fun i (hi : i < L.length) => ord_wf h i hi
  simp only [ord, Bool.and_eq_true, decide_eq_true_eq, beq_iff_eq] at h
  refine (List.perm_ext_iff_of_nodup (List.nodup_range.filter _) (gi_nodup L _ hw _ (by omega))).2 fun m => ?_
  rw [gi_mem L _ hw _ (by omega)]
  rw [List.mem_filter, List.mem_range, beq_iff_eq]
  constructor
  · rintro ⟨h1, h2⟩
    exact ⟨by omega, by omega, h2⟩
  · rintro ⟨h1, h2, h3⟩
    exact ⟨by omega, h3⟩
/-- what is sorted so is just that -/
theorem sorted_uniq {L : List S37} (h : ord L = true) (l : List Nat) (hp : (gall L).Perm l) (hs : l.Pairwise fun a b => ¬ glt L b a) : l = gi L (L.length - 1) := by
  have hw := fun i (hi : i < L.length) => ord_wf h i hi
  have hg := gall_perm h
  have hlen : 0 < L.length := by
    simp only [ord, Bool.and_eq_true, decide_eq_true_eq, beq_iff_eq] at h
    omega
  refine List.Perm.eq_of_pairwise (le := fun a b => ¬ glt L b a) (fun a b ha hb h1 h2 => ?_) hs ((gi_sorted L _ hw _ (by omega)).imp fun {a b} hab hba => ?_) (hp.symm.trans hg)
  · unfold glt at h1 h2
    by_cases e1 : (a : Int) - sz L a = (b : Int) - sz L b
    · omega
    · omega
  · unfold glt at hab hba
    omega
end Go.Proofs.YtaaihcojedibeaaDoor.DGrp
end
section
/- ast.Wrap: its walk. -/
namespace Go.Proofs.YtaaihcojedibeaaDoor.DWrap
open Go.RowKit CMem DRow DDeep DSizes DRowN Q Go.Proofs.YtaaihcojedibeaaDoorW.PrintWords Go.Proofs.YtaaihcojedibeaaDoorW.PrintLast Go.Proofs.YtaaihcojedibeaaDoorW.PrintMore
set_option linter.unusedVariables false
set_option linter.unusedSimpArgs false
set_option maxRecDepth 100000
theorem alloc_setRow (W : World) (a b : Array Value) (t : TypeId) : (W.alloc (.cells a t)).setRow W.heap.size b = W.alloc (.cells b t) := by
  unfold World.setRow World.alloc
  congr 1
  apply Array.ext_getElem?
  intro k
  simp only [Array.getElem?_modify, Array.getElem?_push]
  by_cases h : W.heap.size = k
  · subst h; simp
  · rw [if_neg h, if_neg (fun e => h e.symm), if_neg (fun e => h e.symm)]
theorem new3 (w : World) (a b o : Obj) : (((w.alloc a).alloc b).alloc o).heap[w.heap.size + 1 + 1]? = some o := by
  have h := heap_alloc_new ((w.alloc a).alloc b) o
  rwa [show ((w.alloc a).alloc b).heap.size = w.heap.size + 1 + 1 by simp] at h
theorem new4 (w : World) (a b c o : Obj) : ((((w.alloc a).alloc b).alloc c).alloc o).heap[w.heap.size + 1 + 1 + 1]? = some o := by
  have h := heap_alloc_new (((w.alloc a).alloc b).alloc c) o
  rwa [show (((w.alloc a).alloc b).alloc c).heap.size = w.heap.size + 1 + 1 + 1 by simp] at h
theorem hold {p : Prop} (h : Hid p) : p := h.out
/-- a row that the call made, as append's law asks it -/
theorem own_ra {w : World} {base p n cap : Nat} {xs zs : List S37} (hb : base ≤ p) (hn : xs.length = n) (hc : (xs ++ zs).length = cap) (hcap : cap ≤ 1001) (h : w.heap[p]? = some (.cells (ra (xs ++ zs)).toArray 37 (0, 0))) :
    w.ownsRow base 37 12 (.slice (some ⟨p, 0, none⟩) n cap) n (ra xs) := by
  rw [List.length_append] at hc
  refine ⟨by rw [ra_length, hn]; omega, .inr ⟨p, cap, (ra (xs ++ zs)).toArray, rfl, hb, h, by omega, by unfold maxLen; omega, by rw [List.size_toArray, ra_length, List.length_append]; omega, ?_⟩⟩
  rw [show (ra (xs ++ zs)).toArray.toList = ra (xs ++ zs) from rfl, ra_append, List.take_append_of_le_length (by rw [ra_length, hn]; omega), List.take_of_length_le (by rw [ra_length, hn]; omega)]
theorem own_C {w : World} {base n : Nat} {v : Value} {xs : List S37} (hn : xs.length = n) (hm : n ≤ 1001) (h : w.ownsRow base 37 12 v n (ra xs)) : ∃ A c, v = .slice A n c ∧ n ≤ c ∧ Kd.C k37 w A n xs := by
  rcases h.2 with ⟨rfl, h0⟩ | ⟨g, cap, cur, rfl, hg, hh, h1, h2, h3, h4⟩
  · obtain rfl : n = 0 := h0
    exact ⟨none, 0, rfl, Nat.le_refl _, hn, by omega, fun h => absurd h (Nat.lt_irrefl _)⟩
  · refine ⟨_, cap, rfl, h1, hn, by omega, fun _ => ⟨_, rfl, fun j x hj => ⟨(nc x).toList, nc_len x, k37_mk w x, fun i u hu => ?_⟩⟩⟩
    have hi : i < 12 := by
      rcases Nat.lt_or_ge i 12 with h | h
      · exact h
      · rw [List.getElem?_eq_none (by rw [nc_len]; exact h)] at hu; cases hu
    have hjl := (List.getElem?_eq_some_iff.1 hj).1
    have hadd : (⟨g, 0, none⟩ : Addr).add (j * 12 + i) = ⟨g, j * 12 + i, none⟩ := by unfold Addr.add; split <;> simp_all
    show w.cell? ((⟨g, 0, none⟩ : Addr).add (j * 12 + i)) = some u
    rw [hadd]
    refine blk_cell hh _ _ ?_
    have h5 := ra_at xs j i x hj hi
    rw [← h4, List.getElem?_take, if_pos (by omega), Array.getElem?_toList] at h5
    rw [h5, hu]
theorem wpList_copy_nodes {w : World} {ops : Array Oper} {rest : List Oper} {o : Oper} {a : Act} {Q : Exit → Act → World → Prop} (hgd : o.guard = none) (d s : Operand)
    (ho : o.op = .call { callee := .builtin .copy, args := #[d, s], argTypes := #[22, 22] }) (hty : o.type = 3) (g n dLen dCap c : Nat) (A : Option Addr) (hd : a.eval d = .slice (some ⟨g, 0, none⟩) dLen dCap) (hs : a.eval s = .slice A n c) (ys L : List S37)
    (hg : w.heap[g]? = some (.cells (ra ys).toArray 37 (0, 0))) (hL : Kd.C k37 w A n L) (hnd : n ≤ dLen) (hdy : dLen ≤ ys.length) (B : Nat) (w0 : World) (hB : Below B w0 w) (hBg : B ≤ g)
    (h : ∀ w', w'.heap[g]? = some (.cells (ra (L ++ ys.drop n)).toArray 37 (0, 0)) → (∀ k, k ≠ g → w'.heap[k]? = w.heap[k]?) → w'.heap.size = w.heap.size → Below B w0 w' → wpList Tryd.prog ops Q rest (a.put o.dst (.int .i64 (n : Int))) w') :
    wpList Tryd.prog ops Q (o :: rest) a w := by
  refine wpList_plain hgd fun K hK => ?_
  have hrun := copy_nodes w g n dCap A c dLen ys L hL hnd hdy hg
  unfold Oper.wp
  simp [execOp, ho, resolve, invoke, builtin, hd, hs, hty, hrun, Result.andThen]
  exact hK _ _ (h _ (setRow_heap w g _ _ _ _ hg) (fun k hk => setRow_other w g k _ hk) (by simp [World.setRow]) (below_setRow hB hBg _))
set_option maxHeartbeats 6400000 in
theorem wrap_calls (A : Option Addr) (c : Nat) (L : List S37) (n : Nat) (hn : L.length = n) (hn2 : n ≤ 999) (k xa xb s0 s1 s2 s3 mi ma mo nn : Int) (fo : Bool) (w : World) (hr : Kd.C k37 w A n L) :
    Calls Tryd.prog 12 #[.agg #[.slice A n c], .agg #[.int .i64 k, .int .i64 xa, .int .i64 xb, .int .u64 s0, .int .u64 s1, .int .u64 s2, .int .u64 s3, .int .i64 mi, .int .i64 ma, .int .i64 mo, .int .i64 nn, .bool fo]] w fun e w' =>
      (∃ v, e = .returned (.agg #[v]) ∧ w'.ownsRow w.heap.size 37 12 v (n + 1) (ra (L ++ [⟨k, (n : Int) - 1, 0, ⟨⟨s0, s1, s2, s3⟩⟩, mi, ma, mo, nn, fo⟩]))) ∧ Below w.heap.size w w' := by
  have BT := blk_alloc (blk_alloc (heap_alloc_new w (.cells #[.slice A n c] 24)) (.cells #[.int .i64 k, .int .i64 xa, .int .i64 xb, .int .u64 s0, .int .u64 s1, .int .u64 s2, .int .u64 s3, .int .i64 mi, .int .i64 ma, .int .i64 mo, .int .i64 nn, .bool fo] 37)) (.cells #[.slice none 0 0] 24)
  have BN := blk_alloc (blk2 w (.cells #[.slice A n c] 24) #[.int .i64 k, .int .i64 xa, .int .i64 xb, .int .u64 s0, .int .u64 s1, .int .u64 s2, .int .u64 s3, .int .i64 mi, .int .i64 ma, .int .i64 mo, .int .i64 nn, .bool fo] 37) (.cells #[.slice none 0 0] 24)
  have BR := new3 w (.cells #[.slice A n c] 24) (.cells #[.int .i64 k, .int .i64 xa, .int .i64 xb, .int .u64 s0, .int .u64 s1, .int .u64 s2, .int .u64 s3, .int .i64 mi, .int .i64 ma, .int .i64 mo, .int .i64 nn, .bool fo] 37) (.cells #[.slice none 0 0] 24)
  have HB := below3 w (.cells #[.slice A n c] 24) (.cells #[.int .i64 k, .int .i64 xa, .int .i64 xb, .int .u64 s0, .int .u64 s1, .int .u64 s2, .int .u64 s3, .int .i64 mi, .int .i64 ma, .int .i64 mo, .int .i64 nn, .bool fo] 37) (.cells #[.slice none 0 0] 24)
  have mk : ∀ W : World, (Instr.makeSlice 22 (.int .i64 (n : Int)) (.int .i64 ((n : Int) + 1))).run Tryd.prog W = .ok (.slice (some ⟨W.heap.size, 0, none⟩) n (n + 1)) (W.alloc (.cells (ra (List.replicate (n + 1) z37)).toArray 37)) := fun W => make_nodes n (n + 1) (by omega) (by omega) W
  obtain ⟨Z, hZ⟩ : ∃ Z, List.replicate (n + 1) z37 = Z := ⟨_, rfl⟩
  have hZd : Z.drop n = [z37] := by rw [← hZ]; simp
  have hZl : Z.length = n + 1 := by rw [← hZ]; simp
  rw [hZ] at mk
  have BT2 := Lib.hid (fun o => blk_alloc BT o)
  have BN2 := Lib.hid (fun o => blk_alloc BN o)
  have BR2 := Lib.hid (fun o => blk_alloc BR o)
  have HB2 := Lib.hid (fun o => HB.alloc HB.size o)
  have HC := Lib.hid (fun W h => Kd.C_below (w1 := W) hr h)
  have HZd := Lib.hid hZd
  have HZl := Lib.hid hZl
  clear BT BN BR HB hr hZ hZd hZl
  go_enter Tryd.func12, Tryd.ntmps12
  go_wp2_with ((with_reducible show wpList _ _ _ (⟨some 17, _, _, _, _, _⟩ :: _) _ _); refine hold ?_)
  refine Lib.hid ?_
  refine wpList_copy_nodes rfl (.tmp 14) (.tmp 16) rfl rfl (w.heap.size + 1 + 1 + 1) n n (n + 1) c A rfl rfl Z L (new4 _ _ _ _ _) (HC.out _ (HB2.out _)) (Nat.le_refl _) (HZl.out ▸ Nat.le_succ n) w.heap.size w (HB2.out _) (by omega) ?_
  intro w2 hY hK hsz hb
  have BN3 := Lib.hid ((hK (w.heap.size + 1) (by omega)).trans (BN2.out _))
  have BR3 := Lib.hid ((hK (w.heap.size + 1 + 1) (by omega)).trans (BR2.out _))
  have BY3 := Lib.hid hY
  have HB3 := Lib.hid hb
  have n0 := blk_cell BN3.out 0 (.int .i64 k) rfl
  have n1 := blk_cell BN3.out 1 (.int .i64 xa) rfl
  have n2 := blk_cell BN3.out 2 (.int .i64 xb) rfl
  have n3 := blk_cell BN3.out 3 (.int .u64 s0) rfl
  have n4 := blk_cell BN3.out 4 (.int .u64 s1) rfl
  have n5 := blk_cell BN3.out 5 (.int .u64 s2) rfl
  have n6 := blk_cell BN3.out 6 (.int .u64 s3) rfl
  have n7 := blk_cell BN3.out 7 (.int .i64 mi) rfl
  have n8 := blk_cell BN3.out 8 (.int .i64 ma) rfl
  have n9 := blk_cell BN3.out 9 (.int .i64 mo) rfl
  have n10 := blk_cell BN3.out 10 (.int .i64 nn) rfl
  have n11 := blk_cell BN3.out 11 (.bool fo) rfl
  have f1 := blk_free BN3.out 1
  have f2 := blk_free BN3.out 2
  clear hY hK hsz hb BT2 BN2 BR2 HB2 mk
  go_wp2_with ((with_reducible show wpList _ _ _ (⟨some 26, _, _, _, _, _⟩ :: _) _ _); refine hold ?_)
  refine Lib.hid ?_
  have BY4 := set_other (c := w.heap.size + 1) (i := 2) (v := .int .i64 0) (set_other (c := w.heap.size + 1) (i := 1) (v := .int .i64 ((n : Int) - 1)) BY3.out (by omega)) (by omega)
  have BR4 := set_other (c := w.heap.size + 1) (i := 2) (v := .int .i64 0) (set_other (c := w.heap.size + 1) (i := 1) (v := .int .i64 ((n : Int) - 1)) BR3.out (by omega)) (by omega)
  have HB4 := below_set (b := w.heap.size + 1) (i := 2) (below_set (b := w.heap.size + 1) (i := 1) HB3.out (by omega) (.int .i64 ((n : Int) - 1))) (by omega) (.int .i64 0)
  rw [HZd.out] at BY4
  have HO := own_ra (base := w.heap.size) (cap := n + 1) (show w.heap.size ≤ w.heap.size + 1 + 1 + 1 by omega) hn (by simp [hn]) (by omega) BY4
  have hbs : w.heap.size ≤ ((w2.setCell ⟨w.heap.size + 1, 1, none⟩ (.int .i64 ((n : Int) - 1))).setCell ⟨w.heap.size + 1, 2, none⟩ (.int .i64 0)).heap.size := HB4.size
  have hlt := lt_of_blk BR4
  have BR5 := Lib.hid BR4
  clear BY4 BR4 BN3 BR3 BY3 HB3 n0 n1 n2 n3 n4 n5 n6 n7 n8 n9 n10 n11 f1 f2 HC HZd HZl
  refine print_append_cells w.heap.size rfl (.tmp 23) (.tmp 25) 22 37 _ 12 96 rfl Tryd.underlying22 info37 rfl (by decide) (by decide) (.slice (some ⟨w.heap.size + 1 + 1 + 1, 0, none⟩) n (n + 1)) n (ra L) (nc ⟨k, (n : Int) - 1, 0, ⟨⟨s0, s1, s2, s3⟩⟩, mi, ma, mo, nn, fo⟩).toList rfl ?_ rfl (fun u hu => ?_) HO HB4 hbs (by omega) ?_
  · simp [Act.eval]
  · exact ra_one [⟨k, (n : Int) - 1, 0, ⟨⟨s0, s1, s2, s3⟩⟩, mi, ma, mo, nn, fo⟩] u (by simpa [ra] using hu)
  intro v3 w3 hown hb hg hat
  have BR6 := Lib.hid ((hg.block (w.heap.size + 1 + 1) hlt (by simp [Value.ownBlock])).trans BR5.out)
  have HB6 := Lib.hid hb
  rw [show ra L ++ (nc ⟨k, (n : Int) - 1, 0, ⟨⟨s0, s1, s2, s3⟩⟩, mi, ma, mo, nn, fo⟩).toList = ra (L ++ [⟨k, (n : Int) - 1, 0, ⟨⟨s0, s1, s2, s3⟩⟩, mi, ma, mo, nn, fo⟩]) by rw [ra_append]; simp [ra]] at hown
  obtain ⟨A3, c3, rfl, _, _⟩ := own_C (by simp [hn]) (by omega) hown
  have hne : ∀ j, (Value.slice A3 (n + 1) c3).ownBlock = some j → j ≠ w.heap.size + 1 + 1 := by
    rintro j hj rfl
    rcases hat with h | ⟨b, h, hle⟩
    · rw [h] at hj; simp [Value.ownBlock] at hj
    · rw [h] at hj
      have : b = w.heap.size + 1 + 1 := Option.some.inj hj
      omega
  have HO6 := Lib.hid (own_move (w1 := w3.setCell ⟨w.heap.size + 1 + 1, 0, none⟩ (.slice A3 (n + 1) c3)) hown (fun j hj => Below.heap_setCell w3 ⟨w.heap.size + 1 + 1, 0, none⟩ _ j (hne j hj)))
  have BR7 := Lib.hid (set_blk (i := 0) BR6.out (.slice A3 (n + 1) c3))
  have HB7 := Lib.hid (below_set (b := w.heap.size + 1 + 1) (i := 0) HB6.out (by omega) (.slice A3 (n + 1) c3))
  have r0 := blk_cell BR6.out 0 (.slice none 0 0) rfl
  have f0 := blk_free BR6.out 0
  clear hown hb hg hat HO HB4 hbs hlt BR5 hne BR6 HB6
  go_wp2
  refine bodyPost_ret (results_cell_row rfl _ _ (w.heap.size + 1 + 1) 24 #[.slice A3 (n + 1) c3] (0, 0) _ rfl BR7.out Tryd.underlying24 rfl (by kernel_rfl)) rfl ?_
  exact ⟨⟨_, rfl, HO6.out⟩, HB7.out⟩
end Go.Proofs.YtaaihcojedibeaaDoor.DWrap
end
section
/- clewlaw05.Cut, class.One: their walks. -/
namespace Go.Proofs.YtaaihcojedibeaaDoor.DCut
open Go.RowKit CMem DRow DDeep DSizes DRowN DWrap Q Go.Proofs.YtaaihcojedibeaaDoorW.PrintWords Go.Proofs.YtaaihcojedibeaaDoorW.PrintLast Go.Proofs.YtaaihcojedibeaaDoorW.PrintMore
set_option linter.unusedVariables false
set_option linter.unusedSimpArgs false
set_option maxRecDepth 100000
set_option maxHeartbeats 6400000 in
theorem cut_calls (A : Option Addr) (c n k m : Nat) (hk : k = min n m) (hc : n ≤ c) (hc2 : c ≤ 9223372036854775807) (hm : m ≤ 1000) (w : World) :
    Calls Tryd.prog 5 #[.agg #[.slice A n c], .int .i64 (m : Int)] w fun e w' => (∃ c', e = .returned (.agg #[.slice A k c']) ∧ k ≤ c') ∧ Below w.heap.size w w' := by
  have hmin : (if (m : Int) < (n : Int) then (m : Int) else (n : Int)) = (k : Int) := by split <;> omega
  have hkn : k ≤ n := by omega
  go_enter Tryd.func5, Tryd.ntmps5
  first
  | go_wp2
    · have e : min n m = m := by omega
      refine bodyPost_ret (results_cell_row rfl _ _ (w.heap.size + 1) 24 #[.slice A m c] (0, 0) _ rfl (blk2 w _ _ _) Tryd.underlying24 rfl (by kernel_rfl)) rfl ?_
      exact ⟨⟨c, by rw [e], by omega⟩, below2 _ _ _⟩
    · have e : min n m = n := by omega
      refine bodyPost_ret (results_cell_row rfl _ _ (w.heap.size + 1) 24 #[.slice A n c] (0, 0) _ rfl (blk2 w _ _ _) Tryd.underlying24 rfl (by kernel_rfl)) rfl ?_
      exact ⟨⟨c, by rw [e], by omega⟩, below2 _ _ _⟩
  | go_wp2
    have e : (min (n : Int) (m : Int)).toNat = k := by omega
    refine bodyPost_ret (results_cell_row rfl _ _ (w.heap.size + 1) 24 #[.slice A (min (n : Int) (m : Int)).toNat c] (0, 0) _ rfl (blk2 w _ _ _) Tryd.underlying24 rfl (by kernel_rfl)) rfl ?_
    exact ⟨⟨c, by rw [e], by omega⟩, below2 _ _ _⟩
/-- a set's cells, of the second word alone -/
def sc (v : Int) : Array Value := #[.int .u64 0, .int .u64 v, .int .u64 0, .int .u64 0]
set_option maxHeartbeats 6400000 in
theorem add_calls (b : Nat) (hb : b = 97 ∨ b = 98) (g : Nat) (w : World) (hg : w.heap[g]? = some (.cells (sc 0) 35 (0, 0))) :
    Calls Tryd.prog 33 #[.pointer (some ⟨g, 0, none⟩), .int .u8 (b : Nat)] w fun e w' => e = .returned (.tuple #[]) ∧ w'.heap[g]? = some (.cells (sc (2 ^ (b - 64) : Nat)) 35 (0, 0)) ∧ (∀ k, k ≠ g → w'.heap[k]? = w.heap[k]?) ∧ w'.heap.size = w.heap.size ∧ w'.os = w.os ∧ w'.tape = w.tape ∧ w'.output = w.output := by
  have c1 := blk_cell hg 1 (.int .u64 0) rfl
  have f1 := blk_free hg 1
  have HG := Lib.hid hg
  clear hg
  have e1 : IntKind.u8.wrap 1 = 1 := by decide
  have e2 : IntKind.u64.wrap 8589934592 = 8589934592 := by decide
  have e3 : IntKind.u64.wrap 17179869184 = 17179869184 := by decide
  have e4 : IntKind.u8.wrap 33 = 33 := by decide
  have e5 : IntKind.u8.wrap 34 = 34 := by decide
  rcases hb with rfl | rfl
  · go_enter Tryd.func33, Tryd.ntmps33
    go_wp2
    refine start_ (n := 15) (S := fun w' => w'.cell? ⟨g, 1, none⟩ = some (.int .u64 0)) (ds := [14]) #[false, false, false, false, false, false, false, false, false, false, false, false, false, false, false] (by kernel_rfl) rfl rfl (c1) (fun hHeld => ?_)
    refine pure_ (i := 0) (N := some 4) (v := ?_) (a' := ?_) #[true, false, false, false, false, false, false, false, false, false, false, false, false, false, false] rfl rfl (by kernel_rfl) (fun _ _ _ h => h) (Or.inl ⟨by rfl, ?_⟩) ?_ ?_
    rotate_left
    · intro w'
      go_simp
      with_reducible rfl
    rotate_left
    · simp only [Act.put, List.setIfInBounds_toArray, List.set_cons_zero, List.set_cons_succ, i64_w, i32_w]
      rfl
    refine pure_ (i := 1) (N := some 5) (v := ?_) (a' := ?_) #[true, true, false, false, false, false, false, false, false, false, false, false, false, false, false] rfl rfl (by kernel_rfl) (fun _ _ _ h => h) (Or.inl ⟨by rfl, ?_⟩) ?_ ?_
    rotate_left
    · intro w'
      go_simp
      with_reducible rfl
    rotate_left
    · simp only [Act.put, List.setIfInBounds_toArray, List.set_cons_zero, List.set_cons_succ, i64_w, i32_w]
      rfl
    refine pure_ (i := 2) (N := some 6) (v := ?_) (a' := ?_) #[true, true, true, false, false, false, false, false, false, false, false, false, false, false, false] rfl rfl (by kernel_rfl) (fun _ _ _ h => h) (Or.inl ⟨by rfl, ?_⟩) ?_ ?_
    rotate_left
    · intro w'
      go_simp
      with_reducible rfl
    rotate_left
    · simp only [Act.put, List.setIfInBounds_toArray, List.set_cons_zero, List.set_cons_succ, i64_w, i32_w]
      rfl
    refine pure_ (i := 3) (N := some 7) (v := ?_) (a' := ?_) #[true, true, true, true, false, false, false, false, false, false, false, false, false, false, false] rfl rfl (by kernel_rfl) (fun _ _ _ h => h) (Or.inl ⟨by rfl, ?_⟩) ?_ ?_
    rotate_left
    · intro w'
      go_simp
      with_reducible rfl
    rotate_left
    · simp only [Act.put, List.setIfInBounds_toArray, List.set_cons_zero, List.set_cons_succ, i64_w, i32_w]
      rfl
    refine pure_ (i := 4) (N := some 8) (v := ?_) (a' := ?_) #[true, true, true, true, true, false, false, false, false, false, false, false, false, false, false] rfl rfl (by kernel_rfl) (fun _ _ _ h => h) (Or.inl ⟨by rfl, ?_⟩) ?_ ?_
    rotate_left
    · intro w'
      go_simp
      with_reducible rfl
    rotate_left
    · simp only [Act.put, List.setIfInBounds_toArray, List.set_cons_zero, List.set_cons_succ, i64_w, i32_w]
      rfl
    refine pure_ (i := 5) (N := some 9) (v := ?_) (a' := ?_) #[true, true, true, true, true, true, false, false, false, false, false, false, false, false, false] rfl rfl (by kernel_rfl) (fun _ _ _ h => h) (Or.inl ⟨by rfl, ?_⟩) ?_ ?_
    rotate_left
    · intro w'
      go_simp
      with_reducible rfl
    rotate_left
    · simp only [Act.put, List.setIfInBounds_toArray, List.set_cons_zero, List.set_cons_succ, i64_w, i32_w]
      rfl
    refine pure_ (i := 7) (N := some 11) (v := ?_) (a' := ?_) #[true, true, true, true, true, true, false, true, false, false, false, false, false, false, false] rfl rfl (by kernel_rfl) (fun _ _ _ h => h) (Or.inl ⟨by rfl, ?_⟩) ?_ ?_
    rotate_left
    · intro w'
      go_simp
      with_reducible rfl
    rotate_left
    · simp only [Act.put, List.setIfInBounds_toArray, List.set_cons_zero, List.set_cons_succ, i64_w, i32_w]
      rfl
    refine pure_ (i := 8) (N := some 12) (v := ?_) (a' := ?_) #[true, true, true, true, true, true, false, true, true, false, false, false, false, false, false] rfl rfl (by kernel_rfl) (fun _ _ _ h => h) (Or.inl ⟨by rfl, ?_⟩) ?_ ?_
    rotate_left
    · intro w'
      go_simp
      with_reducible rfl
    rotate_left
    · simp only [Act.put, List.setIfInBounds_toArray, List.set_cons_zero, List.set_cons_succ, i64_w, i32_w]
      rfl
    refine pure_ (i := 9) (N := some 13) (v := ?_) (a' := ?_) #[true, true, true, true, true, true, false, true, true, true, false, false, false, false, false] rfl rfl (by kernel_rfl) (fun _ _ _ h => h) (Or.inl ⟨by rfl, ?_⟩) ?_ ?_
    rotate_left
    · intro w'
      go_simp
      with_reducible rfl
    rotate_left
    · simp only [Act.put, List.setIfInBounds_toArray, List.set_cons_zero, List.set_cons_succ, i64_w, i32_w]
      rfl
    refine pure_ (i := 11) (N := some 15) (v := ?_) (a' := ?_) #[true, true, true, true, true, true, false, true, true, true, false, true, false, false, false] rfl rfl (by kernel_rfl) (fun _ _ _ h => h) (Or.inl ⟨by rfl, ?_⟩) ?_ ?_
    rotate_left
    · intro w'
      go_simp
      with_reducible rfl
    rotate_left
    · simp only [Act.put, List.setIfInBounds_toArray, List.set_cons_zero, List.set_cons_succ, i64_w, i32_w]
      rfl
    refine pure_ (i := 12) (N := some 16) (v := ?_) (a' := ?_) #[true, true, true, true, true, true, false, true, true, true, false, true, true, false, false] rfl rfl (by kernel_rfl) (fun _ _ _ h => h) (Or.inl ⟨by rfl, ?_⟩) ?_ ?_
    rotate_left
    · intro w'
      go_simp
      with_reducible rfl
    rotate_left
    · simp only [Act.put, List.setIfInBounds_toArray, List.set_cons_zero, List.set_cons_succ, i64_w, i32_w]
      rfl
    refine take_ (i := 6) (N := some 10) (v := ?_) (a' := ?_) #[true, true, true, true, true, true, true, true, true, true, false, true, true, false, false] rfl rfl (by kernel_rfl) (fun _ _ _ h => h) (Or.inl ⟨by rfl, ?_⟩) hHeld ?_ ?_
    rotate_left
    · intro w' s0
      go_simp
      with_reducible rfl
    rotate_left
    · simp only [Act.put, List.setIfInBounds_toArray, List.set_cons_zero, List.set_cons_succ, i64_w, i32_w]
      rfl
    refine pure_ (i := 10) (N := some 14) (v := ?_) (a' := ?_) #[true, true, true, true, true, true, true, true, true, true, true, true, true, false, false] rfl rfl (by kernel_rfl) (fun _ _ _ h => h) (Or.inl ⟨by rfl, ?_⟩) ?_ ?_
    rotate_left
    · intro w'
      go_simp
      with_reducible rfl
    rotate_left
    · simp only [Act.put, List.setIfInBounds_toArray, List.set_cons_zero, List.set_cons_succ, i64_w, i32_w]
      rfl
    refine pure_ (i := 13) (N := some 17) (v := ?_) (a' := ?_) #[true, true, true, true, true, true, true, true, true, true, true, true, true, true, false] rfl rfl (by kernel_rfl) (fun _ _ _ h => h) (Or.inl ⟨by rfl, ?_⟩) ?_ ?_
    rotate_left
    · intro w'
      go_simp
      with_reducible rfl
    rotate_left
    · simp only [Act.put, List.setIfInBounds_toArray, List.set_cons_zero, List.set_cons_succ, i64_w, i32_w]
      rfl
    refine last_ (i := 14) (N := none) #[true, true, true, true, true, true, true, true, true, true, true, true, true, true, true] rfl rfl (by kernel_rfl) (by decide) (fun K hK => ?_)
    refine skip_ (w1 := ?_) (by rfl) rfl ?_ ?_
    rotate_left
    · go_simp
      rfl
    refine hK.out _ _ ?_
    clear hK K
    refine done_ (by kernel_rfl) ?_
    go_wp2
    go_end0
    have hv : bits BinOp.or IntKind.u64 0 8589934592 = ((2 ^ (97 - 64) : Nat) : Int) := by decide
    rw [hv]
    refine ⟨rfl, set_blk (i := 1) HG.out _, fun k hk => Below.heap_setCell w ⟨g, 1, none⟩ _ k hk, by simp, rfl, rfl, rfl⟩
  · go_enter Tryd.func33, Tryd.ntmps33
    go_wp2
    refine start_ (n := 15) (S := fun w' => w'.cell? ⟨g, 1, none⟩ = some (.int .u64 0)) (ds := [14]) #[false, false, false, false, false, false, false, false, false, false, false, false, false, false, false] (by kernel_rfl) rfl rfl (c1) (fun hHeld => ?_)
    refine pure_ (i := 0) (N := some 4) (v := ?_) (a' := ?_) #[true, false, false, false, false, false, false, false, false, false, false, false, false, false, false] rfl rfl (by kernel_rfl) (fun _ _ _ h => h) (Or.inl ⟨by rfl, ?_⟩) ?_ ?_
    rotate_left
    · intro w'
      go_simp
      with_reducible rfl
    rotate_left
    · simp only [Act.put, List.setIfInBounds_toArray, List.set_cons_zero, List.set_cons_succ, i64_w, i32_w]
      rfl
    refine pure_ (i := 1) (N := some 5) (v := ?_) (a' := ?_) #[true, true, false, false, false, false, false, false, false, false, false, false, false, false, false] rfl rfl (by kernel_rfl) (fun _ _ _ h => h) (Or.inl ⟨by rfl, ?_⟩) ?_ ?_
    rotate_left
    · intro w'
      go_simp
      with_reducible rfl
    rotate_left
    · simp only [Act.put, List.setIfInBounds_toArray, List.set_cons_zero, List.set_cons_succ, i64_w, i32_w]
      rfl
    refine pure_ (i := 2) (N := some 6) (v := ?_) (a' := ?_) #[true, true, true, false, false, false, false, false, false, false, false, false, false, false, false] rfl rfl (by kernel_rfl) (fun _ _ _ h => h) (Or.inl ⟨by rfl, ?_⟩) ?_ ?_
    rotate_left
    · intro w'
      go_simp
      with_reducible rfl
    rotate_left
    · simp only [Act.put, List.setIfInBounds_toArray, List.set_cons_zero, List.set_cons_succ, i64_w, i32_w]
      rfl
    refine pure_ (i := 3) (N := some 7) (v := ?_) (a' := ?_) #[true, true, true, true, false, false, false, false, false, false, false, false, false, false, false] rfl rfl (by kernel_rfl) (fun _ _ _ h => h) (Or.inl ⟨by rfl, ?_⟩) ?_ ?_
    rotate_left
    · intro w'
      go_simp
      with_reducible rfl
    rotate_left
    · simp only [Act.put, List.setIfInBounds_toArray, List.set_cons_zero, List.set_cons_succ, i64_w, i32_w]
      rfl
    refine pure_ (i := 4) (N := some 8) (v := ?_) (a' := ?_) #[true, true, true, true, true, false, false, false, false, false, false, false, false, false, false] rfl rfl (by kernel_rfl) (fun _ _ _ h => h) (Or.inl ⟨by rfl, ?_⟩) ?_ ?_
    rotate_left
    · intro w'
      go_simp
      with_reducible rfl
    rotate_left
    · simp only [Act.put, List.setIfInBounds_toArray, List.set_cons_zero, List.set_cons_succ, i64_w, i32_w]
      rfl
    refine pure_ (i := 5) (N := some 9) (v := ?_) (a' := ?_) #[true, true, true, true, true, true, false, false, false, false, false, false, false, false, false] rfl rfl (by kernel_rfl) (fun _ _ _ h => h) (Or.inl ⟨by rfl, ?_⟩) ?_ ?_
    rotate_left
    · intro w'
      go_simp
      with_reducible rfl
    rotate_left
    · simp only [Act.put, List.setIfInBounds_toArray, List.set_cons_zero, List.set_cons_succ, i64_w, i32_w]
      rfl
    refine pure_ (i := 7) (N := some 11) (v := ?_) (a' := ?_) #[true, true, true, true, true, true, false, true, false, false, false, false, false, false, false] rfl rfl (by kernel_rfl) (fun _ _ _ h => h) (Or.inl ⟨by rfl, ?_⟩) ?_ ?_
    rotate_left
    · intro w'
      go_simp
      with_reducible rfl
    rotate_left
    · simp only [Act.put, List.setIfInBounds_toArray, List.set_cons_zero, List.set_cons_succ, i64_w, i32_w]
      rfl
    refine pure_ (i := 8) (N := some 12) (v := ?_) (a' := ?_) #[true, true, true, true, true, true, false, true, true, false, false, false, false, false, false] rfl rfl (by kernel_rfl) (fun _ _ _ h => h) (Or.inl ⟨by rfl, ?_⟩) ?_ ?_
    rotate_left
    · intro w'
      go_simp
      with_reducible rfl
    rotate_left
    · simp only [Act.put, List.setIfInBounds_toArray, List.set_cons_zero, List.set_cons_succ, i64_w, i32_w]
      rfl
    refine pure_ (i := 9) (N := some 13) (v := ?_) (a' := ?_) #[true, true, true, true, true, true, false, true, true, true, false, false, false, false, false] rfl rfl (by kernel_rfl) (fun _ _ _ h => h) (Or.inl ⟨by rfl, ?_⟩) ?_ ?_
    rotate_left
    · intro w'
      go_simp
      with_reducible rfl
    rotate_left
    · simp only [Act.put, List.setIfInBounds_toArray, List.set_cons_zero, List.set_cons_succ, i64_w, i32_w]
      rfl
    refine pure_ (i := 11) (N := some 15) (v := ?_) (a' := ?_) #[true, true, true, true, true, true, false, true, true, true, false, true, false, false, false] rfl rfl (by kernel_rfl) (fun _ _ _ h => h) (Or.inl ⟨by rfl, ?_⟩) ?_ ?_
    rotate_left
    · intro w'
      go_simp
      with_reducible rfl
    rotate_left
    · simp only [Act.put, List.setIfInBounds_toArray, List.set_cons_zero, List.set_cons_succ, i64_w, i32_w]
      rfl
    refine pure_ (i := 12) (N := some 16) (v := ?_) (a' := ?_) #[true, true, true, true, true, true, false, true, true, true, false, true, true, false, false] rfl rfl (by kernel_rfl) (fun _ _ _ h => h) (Or.inl ⟨by rfl, ?_⟩) ?_ ?_
    rotate_left
    · intro w'
      go_simp
      with_reducible rfl
    rotate_left
    · simp only [Act.put, List.setIfInBounds_toArray, List.set_cons_zero, List.set_cons_succ, i64_w, i32_w]
      rfl
    refine take_ (i := 6) (N := some 10) (v := ?_) (a' := ?_) #[true, true, true, true, true, true, true, true, true, true, false, true, true, false, false] rfl rfl (by kernel_rfl) (fun _ _ _ h => h) (Or.inl ⟨by rfl, ?_⟩) hHeld ?_ ?_
    rotate_left
    · intro w' s0
      go_simp
      with_reducible rfl
    rotate_left
    · simp only [Act.put, List.setIfInBounds_toArray, List.set_cons_zero, List.set_cons_succ, i64_w, i32_w]
      rfl
    refine pure_ (i := 10) (N := some 14) (v := ?_) (a' := ?_) #[true, true, true, true, true, true, true, true, true, true, true, true, true, false, false] rfl rfl (by kernel_rfl) (fun _ _ _ h => h) (Or.inl ⟨by rfl, ?_⟩) ?_ ?_
    rotate_left
    · intro w'
      go_simp
      with_reducible rfl
    rotate_left
    · simp only [Act.put, List.setIfInBounds_toArray, List.set_cons_zero, List.set_cons_succ, i64_w, i32_w]
      rfl
    refine pure_ (i := 13) (N := some 17) (v := ?_) (a' := ?_) #[true, true, true, true, true, true, true, true, true, true, true, true, true, true, false] rfl rfl (by kernel_rfl) (fun _ _ _ h => h) (Or.inl ⟨by rfl, ?_⟩) ?_ ?_
    rotate_left
    · intro w'
      go_simp
      with_reducible rfl
    rotate_left
    · simp only [Act.put, List.setIfInBounds_toArray, List.set_cons_zero, List.set_cons_succ, i64_w, i32_w]
      rfl
    refine last_ (i := 14) (N := none) #[true, true, true, true, true, true, true, true, true, true, true, true, true, true, true] rfl rfl (by kernel_rfl) (by decide) (fun K hK => ?_)
    refine skip_ (w1 := ?_) (by rfl) rfl ?_ ?_
    rotate_left
    · go_simp
      rfl
    refine hK.out _ _ ?_
    clear hK K
    refine done_ (by kernel_rfl) ?_
    go_wp2
    go_end0
    have hv : bits BinOp.or IntKind.u64 0 17179869184 = ((2 ^ (98 - 64) : Nat) : Int) := by decide
    rw [hv]
    refine ⟨rfl, set_blk (i := 1) HG.out _, fun k hk => Below.heap_setCell w ⟨g, 1, none⟩ _ k hk, by simp, rfl, rfl, rfl⟩
set_option maxHeartbeats 6400000 in
theorem one_calls (b : Nat) (hb : b = 97 ∨ b = 98) (w : World) :
    Calls Tryd.prog 20 #[.int .u8 (b : Nat)] w fun e w' => e = .returned (.agg (sc (2 ^ (b - 64) : Nat))) ∧ Below w.heap.size w w' := by
  have KA := Lib.hid (fun g W h => add_calls b hb g W h)
  have BR := Lib.hid (blk_alloc (heap_alloc_new w (.cells (sc 0) 35)) (.cells (sc 0) 35))
  have BS := Lib.hid (blk2 w (.cells (sc 0) 35) (sc 0) 35)
  have HB := Lib.hid (below2 w (.cells (sc 0) 35) (.cells (sc 0) 35))
  generalize ((2 ^ (b - 64) : Nat) : Int) = v at *
  go_enter Tryd.func20, Tryd.ntmps20
  go_wp2_with fail
  refine (KA.out (w.heap.size + 1) _ BS.out).mono ?_
  rintro e w3 ⟨rfl, h1, h2, h3, h4, h5, h6⟩
  have HB3 := Lib.hid (show Below w.heap.size w w3 from ⟨h4.trans HB.out.os, h5.trans HB.out.tape, h6.trans HB.out.output, by rw [h3]; exact HB.out.size, fun k hk => (h2 k (by omega)).trans (HB.out.block k hk)⟩)
  have BR3 := Lib.hid ((h2 w.heap.size (by omega)).trans BR.out)
  have BS3 := Lib.hid h1
  have BE := Lib.hid (setRow_heap w3 w.heap.size _ (sc v) _ _ BR3.out)
  clear h1 h2 h3 h4 h5 h6 HB BR BS KA
  have s0 := blk_cell BS3.out 0 (.int .u64 0) rfl
  have s1 := blk_cell BS3.out 1 (.int .u64 v) rfl
  have s2 := blk_cell BS3.out 2 (.int .u64 0) rfl
  have s3 := blk_cell BS3.out 3 (.int .u64 0) rfl
  have r0 := blk_cell BR3.out 0 (.int .u64 0) rfl
  have f0 := blk_free BR3.out 0
  have r1 := blk_cell BR3.out 1 (.int .u64 0) rfl
  have f1 := blk_free BR3.out 1
  have r2 := blk_cell BR3.out 2 (.int .u64 0) rfl
  have f2 := blk_free BR3.out 2
  have r3 := blk_cell BR3.out 3 (.int .u64 0) rfl
  have f3 := blk_free BR3.out 3
  go_wp2
  refine bodyPost_ret (results_cell_row rfl _ _ w.heap.size 35 (sc v) (0, 0) _ rfl ?_ Tryd.underlying35 rfl (by kernel_rfl)) rfl ?_
  · have h := set_blk (i := 3) (set_blk (i := 2) (set_blk (i := 1) (set_blk (i := 0) BR3.out (.int .u64 0)) (.int .u64 v)) (.int .u64 0)) (.int .u64 0)
    exact h
  · refine ⟨rfl, ?_⟩
    repeat (first | exact HB3.out | refine CMem.below_set ?_ (Nat.le_refl _) _)
end Go.Proofs.YtaaihcojedibeaaDoor.DCut
end
section
/- ast.Join: its walk. -/
namespace Go.Proofs.YtaaihcojedibeaaDoor.DJoin
open Go.RowKit CMem DRow DDeep DSizes DRowN DWrap Q Go.Proofs.YtaaihcojedibeaaDoorW.PrintWords Go.Proofs.YtaaihcojedibeaaDoorW.PrintLast Go.Proofs.YtaaihcojedibeaaDoorW.PrintMore
set_option linter.unusedVariables false
set_option linter.unusedSimpArgs false
set_option maxRecDepth 100000
/-- a node, its children so many nodes further on -/
def shift (n : Int) (x : S37) : S37 := { x with f1 := if kd x.f0 > 0 then wrap64 (x.f1 + n) else x.f1, f2 := if kd x.f0 > 1 then wrap64 (x.f2 + n) else x.f2 }
theorem ra_set (xs : List S37) (i : Nat) (x : S37) (h : i < xs.length) : (ra xs).take (12 * i) ++ (nc x).toList ++ (ra xs).drop (12 * i + 12) = ra (xs.set i x) := by
  rw [ra_take, show 12 * i + 12 = 12 * (i + 1) by omega, ra_drop, List.set_eq_take_append_cons_drop, if_pos h, ra_append, ra, List.append_assoc]
theorem wpList_store_node {w : World} {ops : Array Oper} {rest : List Oper} {o : Oper} {a : Act} {Q : Exit → Act → World → Prop} (hgd : o.guard = none) (p s : Operand)
    (ho : o.op = .store 37 p s) (g i : Nat) (x : S37) (hp : a.eval p = .pointer (some ⟨g, i * 12, none⟩)) (hs : a.eval s = .agg (nc x)) (xs : List S37) (hi : i < xs.length)
    (hg : w.heap[g]? = some (.cells (ra xs).toArray 37 (0, 0))) (B : Nat) (w0 : World) (hB : Below B w0 w) (hBg : B ≤ g)
    (h : ∀ w', w'.heap[g]? = some (.cells (ra (xs.set i x)).toArray 37 (0, 0)) → (∀ k, k ≠ g → w'.heap[k]? = w.heap[k]?) → w'.heap.size = w.heap.size → Below B w0 w' → wpList Tryd.prog ops Q rest (a.put o.dst undef) w') :
    wpList Tryd.prog ops Q (o :: rest) a w := by
  have hrun : (storeVar 37 ⟨g, i * 12, none⟩ (.agg (nc x))).run Tryd.prog w = .ok () (w.setRow g (ra (xs.set i x)).toArray) := by
    have h1 := run_storeCells_at Tryd.prog g (i * 12) 37 (nc x).toList 0 (ra xs).toArray w hg (by rw [nc_len, List.size_toArray, ra_length]; omega) (fun v hv => ra_one [x] v (by simpa [ra] using hv))
    have e : (ra xs).toArray.toList.take (i * 12 + 0) ++ (nc x).toList ++ (ra xs).toArray.toList.drop (i * 12 + 0 + (nc x).toList.length) = ra (xs.set i x) := by
      rw [nc_len, ← ra_set xs i x hi, Nat.add_zero, Nat.mul_comm i 12]
    rw [e] at h1
    have hi : (Tryd.prog.info? 37).map (·.size) = some 12 := by kernel_rfl
    have hsz : (nc x).size = 12 := rfl
    cases hq : Tryd.prog.info? 37 with
    | none => simp [hq] at hi
    | some j =>
      have hj : j.size = 12 := by simpa [hq] using hi
      simp [storeVar, sizeOf, typeInfo, hq, Value.cells, hj, hsz, h1]
  refine wpList_plain hgd fun K hK => ?_
  have hfin := hK _ _ (h _ (setRow_heap w g _ _ _ _ hg) (fun k hk => setRow_other w g k _ hk) (by simp [World.setRow]) (below_setRow hB hBg _))
  unfold Oper.wp execOp
  simp only [ho, hp, hs, Instr.storeAt, Instr.sureAddr, Sem.run_bind, Sem.run_pure, Result.andThen_ok, hrun]
  exact hfin
set_option maxHeartbeats 6400000 in
theorem join_calls (A : Option Addr) (c : Nat) (L : List S37) (n : Nat) (hn : L.length = n) (A2 : Option Addr) (c2 : Nat) (M : List S37) (m : Nat) (hm : M.length = m) (hnm : n + m ≤ 999) (kind : Int) (w : World) (hr : Kd.C k37 w A n L) (hr2 : Kd.C k37 w A2 m M) :
    Calls Tryd.prog 11 #[.agg #[.slice A n c], .agg #[.slice A2 m c2], .int .i64 kind] w fun e w' =>
      (∃ v, e = .returned (.agg #[v]) ∧ w'.ownsRow w.heap.size 37 12 v (n + m + 1) (ra (L ++ M.map (shift n) ++ [⟨kind, (n : Int) - 1, (n : Int) + m - 1, z35, 0, 0, 0, 0, false⟩]))) ∧ Below w.heap.size w w' := by
  have BA2 := Lib.hid (fun o => blk_alloc (blk_alloc (blk_alloc (heap_alloc_new w (.cells #[.slice A n c] 24)) (.cells #[.slice A2 m c2] 24)) (.cells #[.slice none 0 0] 24)) o)
  have BB2 := Lib.hid (fun o => blk_alloc (blk_alloc (blk2 w (.cells #[.slice A n c] 24) #[.slice A2 m c2] 24) (.cells #[.slice none 0 0] 24)) o)
  have BR2 := Lib.hid (fun o => blk_alloc (new3 w (.cells #[.slice A n c] 24) (.cells #[.slice A2 m c2] 24) (.cells #[.slice none 0 0] 24)) o)
  have HB2 := Lib.hid (fun o => (below3 w (.cells #[.slice A n c] 24) (.cells #[.slice A2 m c2] 24) (.cells #[.slice none 0 0] 24)).alloc (below3 w (.cells #[.slice A n c] 24) (.cells #[.slice A2 m c2] 24) (.cells #[.slice none 0 0] 24)).size o)
  have mk : ∀ W : World, (Instr.makeSlice 22 (.int .i64 ((n : Int) + (m : Int))) (.int .i64 ((n : Int) + (m : Int) + 1))).run Tryd.prog W = .ok (.slice (some ⟨W.heap.size, 0, none⟩) (n + m) (n + m + 1)) (W.alloc (.cells (ra (List.replicate (n + m + 1) z37)).toArray 37)) := fun W => by
    have h := make_nodes (n + m) (n + m + 1) (by omega) (by omega) W
    rwa [show ((n + m : Nat) : Int) = (n : Int) + (m : Int) by omega, show ((n + m + 1 : Nat) : Int) = (n : Int) + (m : Int) + 1 by omega] at h
  obtain ⟨Z, hZ⟩ : ∃ Z, List.replicate (n + m + 1) z37 = Z := ⟨_, rfl⟩
  have hZd : Z.drop n = List.replicate (m + 1) z37 := by rw [← hZ, List.drop_replicate]; congr 1; omega
  have hZl : Z.length = n + m + 1 := by rw [← hZ]; simp
  rw [hZ] at mk
  have HC := Lib.hid (fun W h => Kd.C_below (w1 := W) hr h)
  have HC2 := Lib.hid (fun W h => Kd.C_below (w1 := W) hr2 h)
  have HZd := Lib.hid hZd
  have HZl := Lib.hid hZl
  clear hr hr2 hZ hZd hZl
  go_enter Tryd.func11, Tryd.ntmps11
  go_wp2_with ((with_reducible show wpList _ _ _ (⟨some 29, _, _, _, _, _⟩ :: _) _ _); refine hold ?_)
  refine Lib.hid ?_
  refine wpList_copy_nodes rfl (.tmp 26) (.tmp 28) rfl rfl (w.heap.size + 1 + 1 + 1) n (n + m) (n + m + 1) c A rfl rfl Z L (new4 _ _ _ _ _) (HC.out _ (HB2.out _)) (by omega) (HZl.out ▸ Nat.le_succ (n + m)) w.heap.size w (HB2.out _) (by omega) ?_
  intro w2 hY hK hsz hb
  have BB3 := Lib.hid ((hK (w.heap.size + 1) (by omega)).trans (BB2.out _))
  have BR3 := Lib.hid ((hK (w.heap.size + 1 + 1) (by omega)).trans (BR2.out _))
  rw [HZd.out] at hY
  have BY3 := Lib.hid hY
  have HB3 := Lib.hid hb
  have tb := blk_cell BB3.out 0 (.slice A2 m c2) rfl
  clear hY hK hsz hb BA2 BB2 BR2 HB2 mk HC HZd HZl
  go_wp2
  go_loopw [33] (fun t wr => ∃ i : Nat, i ≤ m ∧ t = .int .i64 (i : Nat) ∧ Hid (wr.heap[w.heap.size + 1 + 1 + 1]? = some (.cells (ra (L ++ (M.map (shift n)).take i ++ List.replicate (m + 1 - i) z37)).toArray 37 (0, 0))) ∧ Hid (wr.heap[w.heap.size + 1 + 1]? = some (.cells #[.slice none 0 0] 24 (0, 0))) ∧ Hid (Below w.heap.size w wr)) (fun t _ => m - (intOf t).toNat)
  case atStart => exact ⟨0, Nat.zero_le _, rfl, Lib.hid (by rw [List.take_zero, List.append_nil]; exact BY3.out), BR3, HB3⟩
  case round =>
    clear BY3 BB3 BR3 HB3 tb
    obtain ⟨i, hi, rfl, PO, RO, HB⟩ := hrel
    by_cases h : i < m
    · obtain ⟨ad, hA, a0, a1, a2, a3, a4, a5, a6, a7, a8, a9, a10, a11⟩ := at_T37 (HC2.out _ HB.out) (i : Int) (by omega) (by omega)
      subst hA
      rw [Int.toNat_natCast] at a0 a1 a2 a3 a4 a5 a6 a7 a8 a9 a10 a11
      have hi2 : (i : Int) < (m : Int) := by omega
      have hx : M[i]? = some (rd_T37 M i) := by
        unfold rd_T37
        rw [Int.toNat_natCast, List.getD_eq_getElem?_getD, List.getElem?_eq_getElem (by omega)]
        rfl
      have hgrow : ∀ y, shift n (rd_T37 M i) = y → ((L ++ (M.map (shift n)).take i ++ List.replicate (m + 1 - i) z37).set (n + i) y) = L ++ (M.map (shift n)).take (i + 1) ++ List.replicate (m + 1 - (i + 1)) z37 := by
        intro y hy
        have h1 : (M.map (shift n)).take (i + 1) = (M.map (shift n)).take i ++ [y] := by
          rw [List.take_add_one, List.getElem?_map, hx, ← hy]; rfl
        rw [h1, show m + 1 - i = (m + 1 - (i + 1)) + 1 by omega, List.replicate_succ, List.set_append_right _ _ (by simp [hn]; omega)]
        rw [show n + i - (L ++ (M.map (shift n)).take i).length = 0 by simp [hn, hm]; omega]
        simp
      have HG := Lib.hid hgrow
      clear hgrow hx
      have hrl : (L ++ (M.map (shift n)).take i ++ List.replicate (m + 1 - i) z37).length = n + m + 1 := by simp [hn, hm]; omega
      generalize L ++ (M.map (shift n)).take i ++ List.replicate (m + 1 - i) z37 = XS at *
      generalize rd_T37 M i = x at *
      obtain ⟨xk, xa, xb, ⟨⟨s0, s1, s2, s3⟩⟩, x4, x5, x6, x7, x8⟩ := x
      simp only [] at a0 a1 a2 a3 a4 a5 a6 a7 a8 a9 a10 a11
      have KK := Lib.hid (kids_calls xk)
      have BN := Lib.hid (heap_alloc_new wr (.cells #[.int .i64 xk, .int .i64 xa, .int .i64 xb, .int .u64 s0, .int .u64 s1, .int .u64 s2, .int .u64 s3, .int .i64 x4, .int .i64 x5, .int .i64 x6, .int .i64 x7, .bool x8] 37))
      have BO := Lib.hid (blk_alloc PO.out (.cells #[.int .i64 xk, .int .i64 xa, .int .i64 xb, .int .u64 s0, .int .u64 s1, .int .u64 s2, .int .u64 s3, .int .i64 x4, .int .i64 x5, .int .i64 x6, .int .i64 x7, .bool x8] 37))
      have BT := Lib.hid (blk_alloc RO.out (.cells #[.int .i64 xk, .int .i64 xa, .int .i64 xb, .int .u64 s0, .int .u64 s1, .int .u64 s2, .int .u64 s3, .int .i64 x4, .int .i64 x5, .int .i64 x6, .int .i64 x7, .bool x8] 37))
      have HB1 := Lib.hid (HB.out.alloc HB.out.size (.cells #[.int .i64 xk, .int .i64 xa, .int .i64 xb, .int .u64 s0, .int .u64 s1, .int .u64 s2, .int .u64 s3, .int .i64 x4, .int .i64 x5, .int .i64 x6, .int .i64 x7, .bool x8] 37))
      have LQ := Lib.hid (lt_of_blk PO.out)
      clear HB PO RO
      go_wp2_with fail
      refine (KK.out _).mono ?_
      rintro e w3 ⟨rfl, hb⟩
      have BN2 := Lib.hid (below_blk hb BN.out)
      have BO2 := Lib.hid (below_blk hb BO.out)
      have BT2 := Lib.hid (below_blk hb BT.out)
      have HB2 := Lib.hid (below_step HB1.out hb)
      clear hb BN BO BT HB1 a0 a1 a2 a3 a4 a5 a6 a7 a8 a9 a10 a11
      generalize wr.heap.size = QN at *
      have lq := LQ.out
      have hq1 : QN ≠ w.heap.size + 1 + 1 + 1 := by omega
      have hq2 : QN ≠ w.heap.size + 1 + 1 := by omega
      have hq3 : w.heap.size ≤ QN := by omega
      clear LQ lq
      rcases kd_cases xk with hk | hk | hk
      · have hs : shift n ⟨xk, xa, xb, ⟨⟨s0, s1, s2, s3⟩⟩, x4, x5, x6, x7, x8⟩ = ⟨xk, xa, xb, ⟨⟨s0, s1, s2, s3⟩⟩, x4, x5, x6, x7, x8⟩ := by unfold shift; simp only [hk]; rfl
        have HSET := Lib.hid (HG.out _ hs)
        clear hs HG
        have n0 := blk_cell BN2.out 0 (.int .i64 xk) rfl
        rw [hk]
        go_wp2_with fail
        refine (KK.out _).mono ?_
        rintro e w4 ⟨rfl, hb⟩
        rw [hk]
        have BN3 := Lib.hid (below_blk hb BN2.out)
        have BO3 := Lib.hid (below_blk hb BO2.out)
        have BT3 := Lib.hid (below_blk hb BT2.out)
        have HB3 := Lib.hid (below_step HB2.out hb)
        clear hb n0 BN2 BO2 BT2 HB2
        have n0 := blk_cell BN3.out 0 (.int .i64 xk) rfl
        have n1 := blk_cell BN3.out 1 (.int .i64 xa) rfl
        have n2 := blk_cell BN3.out 2 (.int .i64 xb) rfl
        have n3 := blk_cell BN3.out 3 (.int .u64 s0) rfl
        have n4 := blk_cell BN3.out 4 (.int .u64 s1) rfl
        have n5 := blk_cell BN3.out 5 (.int .u64 s2) rfl
        have n6 := blk_cell BN3.out 6 (.int .u64 s3) rfl
        have n7 := blk_cell BN3.out 7 (.int .i64 x4) rfl
        have n8 := blk_cell BN3.out 8 (.int .i64 x5) rfl
        have n9 := blk_cell BN3.out 9 (.int .i64 x6) rfl
        have n10 := blk_cell BN3.out 10 (.int .i64 x7) rfl
        have n11 := blk_cell BN3.out 11 (.bool x8) rfl
        go_wp2_with ((with_reducible show wpList _ _ _ (⟨none, .store _ (.tmp 61) _, _, _, _, _⟩ :: _) _ _); refine hold ?_)
        refine Lib.hid ?_
        refine wpList_store_node rfl (.tmp 61) (.tmp 60) rfl (w.heap.size + 1 + 1 + 1) (n + i) ⟨xk, xa, xb, ⟨⟨s0, s1, s2, s3⟩⟩, x4, x5, x6, x7, x8⟩ ?_ rfl XS (by omega) BO3.out w.heap.size w HB3.out (by omega) ?_
        · first | rfl | (simp [Act.eval]; done) | (simp [Act.eval]; omega)
        intro w5 hO hK hsz hb
        rw [HSET.out] at hO
        have PO := Lib.hid hO
        have RO := Lib.hid ((hK _ (by omega)).trans BT3.out)
        have HB := Lib.hid hb
        clear hO hK hsz hb HSET BN3 BO3 BT3 HB3 n0 n1 n2 n3 n4 n5 n6 n7 n8 n9 n10 n11
        go_wp2
        go_roundw
        case rel => exact ⟨i + 1, by omega, by simp, PO, RO, HB⟩
        case measure => simp [intOf]; omega
      · have hs : shift n ⟨xk, xa, xb, ⟨⟨s0, s1, s2, s3⟩⟩, x4, x5, x6, x7, x8⟩ = ⟨xk, (wrap64 (xa + (n : Int))), xb, ⟨⟨s0, s1, s2, s3⟩⟩, x4, x5, x6, x7, x8⟩ := by unfold shift; simp only [hk]; rfl
        have HSET := Lib.hid (HG.out _ hs)
        clear hs HG
        have n0 := blk_cell BN2.out 0 (.int .i64 xk) rfl
        have n1 := blk_cell BN2.out 1 (.int .i64 xa) rfl
        have g1 := blk_free BN2.out 1
        rw [hk]
        go_wp2_with fail
        refine (KK.out _).mono ?_
        rintro e w4 ⟨rfl, hb⟩
        rw [hk]
        have BN3 : Hid (w4.heap[QN]? = some (.cells #[.int .i64 xk, .int .i64 (wrap64 (xa + (n : Int))), .int .i64 xb, .int .u64 s0, .int .u64 s1, .int .u64 s2, .int .u64 s3, .int .i64 x4, .int .i64 x5, .int .i64 x6, .int .i64 x7, .bool x8] 37 (0, 0))) := Lib.hid (below_blk hb (set_blk (i := 1) BN2.out (.int .i64 (wrap64 (xa + (n : Int))))))
        have BO3 := Lib.hid (below_blk hb (set_other (c := QN) (i := 1) (v := .int .i64 (wrap64 (xa + (n : Int)))) BO2.out (fun e => hq1 e.symm)))
        have BT3 := Lib.hid (below_blk hb (set_other (c := QN) (i := 1) (v := .int .i64 (wrap64 (xa + (n : Int)))) BT2.out (fun e => hq2 e.symm)))
        have HB3 := Lib.hid (below_step (below_set (b := QN) (i := 1) HB2.out hq3 (.int .i64 (wrap64 (xa + (n : Int))))) hb)
        clear hb n0 n1 g1 BN2 BO2 BT2 HB2
        have n0 := blk_cell BN3.out 0 (.int .i64 xk) rfl
        have n1 := blk_cell BN3.out 1 (.int .i64 (wrap64 (xa + (n : Int)))) rfl
        have n2 := blk_cell BN3.out 2 (.int .i64 xb) rfl
        have n3 := blk_cell BN3.out 3 (.int .u64 s0) rfl
        have n4 := blk_cell BN3.out 4 (.int .u64 s1) rfl
        have n5 := blk_cell BN3.out 5 (.int .u64 s2) rfl
        have n6 := blk_cell BN3.out 6 (.int .u64 s3) rfl
        have n7 := blk_cell BN3.out 7 (.int .i64 x4) rfl
        have n8 := blk_cell BN3.out 8 (.int .i64 x5) rfl
        have n9 := blk_cell BN3.out 9 (.int .i64 x6) rfl
        have n10 := blk_cell BN3.out 10 (.int .i64 x7) rfl
        have n11 := blk_cell BN3.out 11 (.bool x8) rfl
        go_wp2_with ((with_reducible show wpList _ _ _ (⟨none, .store _ (.tmp 61) _, _, _, _, _⟩ :: _) _ _); refine hold ?_)
        refine Lib.hid ?_
        refine wpList_store_node rfl (.tmp 61) (.tmp 60) rfl (w.heap.size + 1 + 1 + 1) (n + i) ⟨xk, (wrap64 (xa + (n : Int))), xb, ⟨⟨s0, s1, s2, s3⟩⟩, x4, x5, x6, x7, x8⟩ ?_ rfl XS (by omega) BO3.out w.heap.size w HB3.out (by omega) ?_
        · first | rfl | (simp [Act.eval]; done) | (simp [Act.eval]; omega)
        intro w5 hO hK hsz hb
        rw [HSET.out] at hO
        have PO := Lib.hid hO
        have RO := Lib.hid ((hK _ (by omega)).trans BT3.out)
        have HB := Lib.hid hb
        clear hO hK hsz hb HSET BN3 BO3 BT3 HB3 n0 n1 n2 n3 n4 n5 n6 n7 n8 n9 n10 n11
        go_wp2
        go_roundw
        case rel => exact ⟨i + 1, by omega, by simp, PO, RO, HB⟩
        case measure => simp [intOf]; omega
      · have hs : shift n ⟨xk, xa, xb, ⟨⟨s0, s1, s2, s3⟩⟩, x4, x5, x6, x7, x8⟩ = ⟨xk, (wrap64 (xa + (n : Int))), (wrap64 (xb + (n : Int))), ⟨⟨s0, s1, s2, s3⟩⟩, x4, x5, x6, x7, x8⟩ := by unfold shift; simp only [hk]; rfl
        have HSET := Lib.hid (HG.out _ hs)
        clear hs HG
        have n0 := blk_cell BN2.out 0 (.int .i64 xk) rfl
        have n1 := blk_cell BN2.out 1 (.int .i64 xa) rfl
        have g1 := blk_free BN2.out 1
        rw [hk]
        go_wp2_with fail
        refine (KK.out _).mono ?_
        rintro e w4 ⟨rfl, hb⟩
        rw [hk]
        have BN3 : Hid (w4.heap[QN]? = some (.cells #[.int .i64 xk, .int .i64 (wrap64 (xa + (n : Int))), .int .i64 xb, .int .u64 s0, .int .u64 s1, .int .u64 s2, .int .u64 s3, .int .i64 x4, .int .i64 x5, .int .i64 x6, .int .i64 x7, .bool x8] 37 (0, 0))) := Lib.hid (below_blk hb (set_blk (i := 1) BN2.out (.int .i64 (wrap64 (xa + (n : Int))))))
        have BO3 := Lib.hid (below_blk hb (set_other (c := QN) (i := 1) (v := .int .i64 (wrap64 (xa + (n : Int)))) BO2.out (fun e => hq1 e.symm)))
        have BT3 := Lib.hid (below_blk hb (set_other (c := QN) (i := 1) (v := .int .i64 (wrap64 (xa + (n : Int)))) BT2.out (fun e => hq2 e.symm)))
        have HB3 := Lib.hid (below_step (below_set (b := QN) (i := 1) HB2.out hq3 (.int .i64 (wrap64 (xa + (n : Int))))) hb)
        clear hb n0 n1 g1 BN2 BO2 BT2 HB2
        have n0 := blk_cell BN3.out 0 (.int .i64 xk) rfl
        have n1 := blk_cell BN3.out 1 (.int .i64 (wrap64 (xa + (n : Int)))) rfl
        have n2 := blk_cell BN3.out 2 (.int .i64 xb) rfl
        have n3 := blk_cell BN3.out 3 (.int .u64 s0) rfl
        have n4 := blk_cell BN3.out 4 (.int .u64 s1) rfl
        have n5 := blk_cell BN3.out 5 (.int .u64 s2) rfl
        have n6 := blk_cell BN3.out 6 (.int .u64 s3) rfl
        have n7 := blk_cell BN3.out 7 (.int .i64 x4) rfl
        have n8 := blk_cell BN3.out 8 (.int .i64 x5) rfl
        have n9 := blk_cell BN3.out 9 (.int .i64 x6) rfl
        have n10 := blk_cell BN3.out 10 (.int .i64 x7) rfl
        have n11 := blk_cell BN3.out 11 (.bool x8) rfl
        have g2 := blk_free BN3.out 2
        go_wp2_with ((with_reducible show wpList _ _ _ (⟨none, .store _ (.tmp 61) _, _, _, _, _⟩ :: _) _ _); refine hold ?_)
        refine Lib.hid ?_
        refine wpList_store_node rfl (.tmp 61) (.tmp 60) rfl (w.heap.size + 1 + 1 + 1) (n + i) ⟨xk, (wrap64 (xa + (n : Int))), (wrap64 (xb + (n : Int))), ⟨⟨s0, s1, s2, s3⟩⟩, x4, x5, x6, x7, x8⟩ ?_ rfl XS (by omega) (set_other (c := QN) (i := 2) (v := .int .i64 (wrap64 (xb + (n : Int)))) BO3.out (fun e => hq1 e.symm)) w.heap.size w (below_set (b := QN) (i := 2) HB3.out hq3 (.int .i64 (wrap64 (xb + (n : Int))))) (by omega) ?_
        · first | rfl | (simp [Act.eval]; done) | (simp [Act.eval]; omega)
        intro w5 hO hK hsz hb
        rw [HSET.out] at hO
        have PO := Lib.hid hO
        have RO := Lib.hid ((hK _ (by omega)).trans (set_other (c := QN) (i := 2) (v := .int .i64 (wrap64 (xb + (n : Int)))) BT3.out (fun e => hq2 e.symm)))
        have HB := Lib.hid hb
        clear hO hK hsz hb HSET BN3 BO3 BT3 HB3 n0 n1 n2 n3 n4 n5 n6 n7 n8 n9 n10 n11 g2
        go_wp2
        go_roundw
        case rel => exact ⟨i + 1, by omega, by simp, PO, RO, HB⟩
        case measure => simp [intOf]; omega
    · obtain rfl : i = m := by omega
      have hi2 : ¬ ((i : Int) < (i : Int)) := by omega
      rw [List.take_of_length_le (by simp [hm]), show i + 1 - i = 1 by omega] at PO
      go_wp2_with ((with_reducible show wpList _ _ _ (⟨some 72, _, _, _, _, _⟩ :: _) _ _); refine hold ?_)
      refine Lib.hid ?_
      have BY4 := PO.out
      rw [show List.replicate 1 z37 = [z37] from rfl] at BY4
      have BR5 := RO
      have HB4 := HB.out
      have HO := own_ra (base := w.heap.size) (n := n + i) (cap := n + i + 1) (show w.heap.size ≤ w.heap.size + 1 + 1 + 1 by omega) (by simp [hn, hm]) (by simp [hn, hm]; omega) (by omega) BY4
      have hbs : w.heap.size ≤ wr.heap.size := HB4.size
      have hlt := lt_of_blk RO.out
      clear BY4 PO RO HB HC2
      refine print_append_cells w.heap.size rfl (.tmp 63) (.tmp 71) 22 37 _ 12 96 rfl Tryd.underlying22 info37 rfl (by decide) (by decide) (.slice (some ⟨w.heap.size + 1 + 1 + 1, 0, none⟩) (n + i) (n + i + 1)) (n + i) (ra (L ++ M.map (shift n))) (nc ⟨kind, (n : Int) - 1, (n : Int) + (i : Int) - 1, z35, 0, 0, 0, 0, false⟩).toList rfl ?_ rfl (fun u hu => ?_) HO HB4 hbs (by omega) ?_
      · first | rfl | (simp [Act.eval]; done)
      · exact ra_one [⟨kind, (n : Int) - 1, (n : Int) + (i : Int) - 1, z35, 0, 0, 0, 0, false⟩] u (by simpa [ra] using hu)
      intro v3 w3 hown hb hg hat
      have BR6 := Lib.hid ((hg.block (w.heap.size + 1 + 1) hlt (by simp [Value.ownBlock])).trans BR5.out)
      have HB6 := Lib.hid hb
      rw [show ra (L ++ M.map (shift n)) ++ (nc ⟨kind, (n : Int) - 1, (n : Int) + (i : Int) - 1, z35, 0, 0, 0, 0, false⟩).toList = ra (L ++ M.map (shift n) ++ [⟨kind, (n : Int) - 1, (n : Int) + (i : Int) - 1, z35, 0, 0, 0, 0, false⟩]) by rw [ra_append (L ++ M.map (shift n))]; simp [ra]] at hown
      obtain ⟨A3, c3, rfl, _, _⟩ := own_C (by simp [hn, hm]; omega) (by omega) hown
      have hne : ∀ j, (Value.slice A3 (n + i + 1) c3).ownBlock = some j → j ≠ w.heap.size + 1 + 1 := by
        rintro j hj rfl
        rcases hat with h | ⟨b, h, hle⟩
        · rw [h] at hj; simp [Value.ownBlock] at hj
        · rw [h] at hj
          have : b = w.heap.size + 1 + 1 := Option.some.inj hj
          omega
      have HO6 := Lib.hid (own_move (w1 := w3.setCell ⟨w.heap.size + 1 + 1, 0, none⟩ (.slice A3 (n + i + 1) c3)) hown (fun j hj => Below.heap_setCell w3 ⟨w.heap.size + 1 + 1, 0, none⟩ _ j (hne j hj)))
      have BR7 := Lib.hid (set_blk (i := 0) BR6.out (.slice A3 (n + i + 1) c3))
      have HB7 := Lib.hid (below_set (b := w.heap.size + 1 + 1) (i := 0) HB6.out (by omega) (.slice A3 (n + i + 1) c3))
      have r0 := blk_cell BR6.out 0 (.slice none 0 0) rfl
      have f0 := blk_free BR6.out 0
      clear hown hb hg hat HO HB4 hbs hlt BR5 hne BR6 HB6
      go_wp2
      refine bodyPost_ret (results_cell_row rfl _ _ (w.heap.size + 1 + 1) 24 #[.slice A3 (n + i + 1) c3] (0, 0) _ rfl BR7.out Tryd.underlying24 rfl (by kernel_rfl)) rfl ?_
      exact ⟨⟨_, rfl, HO6.out⟩, HB7.out⟩
end Go.Proofs.YtaaihcojedibeaaDoor.DJoin
end
section
/- Decimal numerals: what they are made of; unlike numbers have unlike ones. -/
namespace Go.Proofs.YtaaihcojedibeaaDoor.HNum
set_option maxRecDepth 100000
open Go.Lib
theorem dec_small {u : Nat} (h : u < 10) : decDigits u = [UInt8.ofNat (48 + u)] := by rw [decDigits, dif_pos h]
theorem dec_big {u : Nat} (h : ¬ u < 10) : decDigits u = decDigits (u / 10) ++ [UInt8.ofNat (48 + u % 10)] := by rw [decDigits, dif_neg h]
theorem dec_ne (u : Nat) : decDigits u ≠ [] := by
  by_cases h : u < 10
  · rw [dec_small h]; simp
  · rw [dec_big h]; simp
theorem dig_toNat (d : Nat) (h : d < 10) : (UInt8.ofNat (48 + d)).toNat = 48 + d := by
  rw [UInt8.toNat_ofNat']; omega
theorem dec_range (u : Nat) : ∀ c ∈ decDigits u, 48 ≤ c.toNat ∧ c.toNat ≤ 57 := by
  induction u using Nat.strongRecOn with
  | _ u ih =>
    intro c hc
    by_cases h : u < 10
    · rw [dec_small h, List.mem_singleton] at hc
      subst hc
      rw [dig_toNat u h]
      omega
    · rw [dec_big h, List.mem_append, List.mem_singleton] at hc
      rcases hc with hc | hc
      · exact ih (u / 10) (by omega) c hc
      · subst hc
        rw [dig_toNat _ (by omega)]
        omega
/-- the number that digits are -/
def decVal (l : List UInt8) : Nat := l.foldl (fun a c => a * 10 + (c.toNat - 48)) 0
theorem dec_val (u : Nat) : decVal (decDigits u) = u := by
  induction u using Nat.strongRecOn with
  | _ u ih =>
    by_cases h : u < 10
    · rw [dec_small h]
      show 0 * 10 + ((UInt8.ofNat (48 + u)).toNat - 48) = u
      rw [dig_toNat u h]
      omega
    · rw [dec_big h]
      have := ih (u / 10) (by omega)
      unfold decVal at this ⊢
      rw [List.foldl_append, this]
      show u / 10 * 10 + ((UInt8.ofNat (48 + u % 10)).toNat - 48) = u
      rw [dig_toNat _ (by omega)]
      omega
theorem dec_inj {u v : Nat} (h : decDigits u = decDigits v) : u = v := by rw [← dec_val u, ← dec_val v, h]
theorem itoa_ne (n : Int) : itoa n ≠ [] := by
  unfold itoa
  split
  · simp
  · exact dec_ne _
theorem itoa_mem (n : Int) : ∀ c ∈ itoa n, c = 45 ∨ (48 ≤ c.toNat ∧ c.toNat ≤ 57) := by
  intro c hc
  unfold itoa at hc
  split at hc
  · rcases List.mem_cons.1 hc with h | h
    · exact .inl h
    · exact .inr (dec_range _ c h)
  · exact .inr (dec_range _ c hc)
theorem itoa_inj {a b : Int} (h : itoa a = itoa b) : a = b := by
  have hd : ∀ u v : Nat, (45 : UInt8) :: decDigits u ≠ decDigits v := fun u v e => by
    have := dec_range v 45 (by rw [← e]; exact List.mem_cons_self)
    simp at this
  unfold itoa at h
  split at h <;> split at h
  · have := dec_inj (List.cons.inj h).2
    omega
  · exact absurd h (hd _ _)
  · exact absurd h.symm (hd _ _)
  · have := dec_inj h
    omega
theorem itoa_no {n : Int} {c : UInt8} (h : c ≠ 45) (h2 : c.toNat < 48 ∨ 57 < c.toNat) : c ∉ itoa n := fun hc => by
  rcases itoa_mem n c hc with e | e
  · exact h e
  · omega
theorem itoa_small {n : Int} (h0 : -10 < n) (h1 : n < 10) : itoa n = if n < 0 then [45, UInt8.ofNat (48 + n.natAbs)] else [UInt8.ofNat (48 + n.natAbs)] := by
  unfold itoa
  by_cases h : n < 0
  · rw [if_pos h, if_pos h, dec_small (by omega)]
  · rw [if_neg h, if_neg h, dec_small (by omega), show n.toNat = n.natAbs by omega]
theorem itoa_step {n : Int} (h : Int.tdiv n 10 ≠ 0) : itoa n = itoa (Int.tdiv n 10) ++ [UInt8.ofNat (48 + (Int.tmod n 10).natAbs)] := by
  have e1 := Int.natAbs_tdiv n 10
  have e2 := Int.natAbs_tmod n 10
  have hbig : ¬ n.natAbs < 10 := fun hl => h (by
    have : (Int.tdiv n 10).natAbs = 0 := by rw [e1]; exact Nat.div_eq_of_lt (by simpa using hl)
    omega)
  have e1' : (Int.tdiv n 10).natAbs = n.natAbs / 10 := e1
  have e2' : (Int.tmod n 10).natAbs = n.natAbs % 10 := e2
  unfold itoa
  by_cases hn : n < 0
  · have hq : Int.tdiv n 10 < 0 := by
      have : 0 ≤ Int.tdiv (-n) 10 := Int.tdiv_nonneg (by omega) (by decide)
      rw [Int.neg_tdiv] at this
      omega
    rw [if_pos hn, if_pos hq, dec_big hbig, e1', e2']
    rfl
  · have hq : ¬ Int.tdiv n 10 < 0 := by
      have : 0 ≤ Int.tdiv n 10 := Int.tdiv_nonneg (by omega) (by decide)
      omega
    rw [if_neg hn, if_neg hq, show n.toNat = n.natAbs by omega, show (Int.tdiv n 10).toNat = (Int.tdiv n 10).natAbs by omega, dec_big hbig, e1', e2']
end Go.Proofs.YtaaihcojedibeaaDoor.HNum
end
