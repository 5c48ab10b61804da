/- Lengths: no tree has more bytes at least than at most; what repeats it. Plain. -/
import Derived.Test.YtjeoiebdchlilaaDForkK
namespace Go.Proofs.Ytjeoiebdchlilaa.DLenP
open Go.RowKit CMem DRow DDeep DSizes DFits DLens DSpec DGrp DCon DOdd DRowN DWrap DJoin DGrouped DRight DRJoin DRFits DRef DRefB DCut DTree DKit DAlg DAlgB DForkK Q Go.Proofs.YtjeoiebdchlilaaW.PrintWords
set_option linter.unusedVariables false
set_option linter.unusedSimpArgs false
theorem pl_le {a b c d : Int} (ha : 0 ≤ a) (hc : 0 ≤ c) (h1 : b = -1 ∨ a ≤ b) (h2 : d = -1 ∨ c ≤ d) : pl b d = -1 ∨ pl a c ≤ pl b d := by
  unfold pl
  rw [if_neg (show ¬ a = -1 by omega), if_neg (show ¬ c = -1 by omega)]
  split
  · exact .inl rfl
  · split
    · exact .inl rfl
    · right; omega
theorem tm_le {a b m x : Int} (ha : 0 ≤ a) (hm : 0 ≤ m) (h1 : b = -1 ∨ a ≤ b) (h2 : x = -1 ∨ m ≤ x) : tm b x = -1 ∨ tm a m ≤ tm b x := by
  by_cases h0 : tm a m = 0
  · by_cases hn : tm b x = -1
    · exact .inl hn
    · right
      rw [h0]
      unfold tm at hn ⊢
      split
      · omega
      · rename_i g
        rw [if_neg g] at hn
        split
        · rename_i e; rw [if_pos e] at hn; exact absurd rfl hn
        · rename_i e
          rw [if_neg e] at hn
          split
          · rename_i e2; rw [if_pos e2] at hn; exact absurd rfl hn
          · have : 0 ≤ b * x := Int.mul_nonneg (by omega) (by omega)
            omega
  · unfold tm at h0
    have g : ¬ (a = 0 ∨ m = 0) := fun g => h0 (if_pos g)
    unfold tm
    rw [if_neg g, if_neg (show ¬ a = -1 by omega), if_neg (show ¬ m = -1 by omega), if_neg (show ¬ (b = 0 ∨ x = 0) by omega)]
    split
    · exact .inl rfl
    · split
      · exact .inl rfl
      · right
        have := Int.mul_le_mul (show a ≤ b by omega) (show m ≤ x by omega) hm (by omega)
        omega
theorem tm_more {a m : Int} (ha : 0 ≤ a) (hm : 0 ≤ m) : tm a m ≤ tm a (m + 1) := by
  rcases tm_le (b := a) (x := m + 1) ha hm (.inr (Int.le_refl _)) (.inr (by omega)) with h | h
  · unfold tm at h
    split at h
    · omega
    · rw [if_neg (by omega), if_neg (by omega)] at h
      have : 0 ≤ a * (m + 1) := Int.mul_nonneg (by omega) (by omega)
      omega
  · exact h
theorem tm_nn {a m : Int} (ha : 0 ≤ a) (hm : 0 ≤ m) : 0 ≤ tm a m := by
  unfold tm
  split
  · omega
  · rw [if_neg (by omega), if_neg (by omega)]
    have : 0 ≤ a * m := Int.mul_nonneg (by omega) (by omega)
    omega
theorem tm_open (b : Int) : tm b (-1) = if b = 0 then 0 else -1 := by
  unfold tm
  by_cases h : b = 0
  · rw [if_pos (.inl h), if_pos h]
  · rw [if_neg (by omega), if_neg h]
    split <;> rfl
theorem ln_le (L : List S43) (j : Nat) (hw : ∀ i, i < j → Wf L i) : ∀ i, i < j → (ln L i).2 = -1 ∨ (ln L i).1 ≤ (ln L i).2 := by
  intro i
  induction i using Nat.strongRecOn with
  | ind i ih =>
    intro hi
    rw [ln_eq L j hw i hi]
    have K1 : kd (rd_T43 L i).f0 = 1 → 0 ≤ (ln L (rd_T43 L i).f1.toNat).1 ∧ ((ln L (rd_T43 L i).f1.toNat).2 = -1 ∨ (ln L (rd_T43 L i).f1.toNat).1 ≤ (ln L (rd_T43 L i).f1.toNat).2) := by
      intro hk
      obtain ⟨a, h1, h2⟩ := kid1 (hw i hi) hk
      rw [h1, Int.toNat_natCast]
      exact ⟨(ln_rng L j hw a (by omega)).1, ih a h2 (by omega)⟩
    have K2 : kd (rd_T43 L i).f0 = 2 → (0 ≤ (ln L (rd_T43 L i).f1.toNat).1 ∧ ((ln L (rd_T43 L i).f1.toNat).2 = -1 ∨ (ln L (rd_T43 L i).f1.toNat).1 ≤ (ln L (rd_T43 L i).f1.toNat).2)) ∧ (0 ≤ (ln L (rd_T43 L i).f2.toNat).1 ∧ ((ln L (rd_T43 L i).f2.toNat).2 = -1 ∨ (ln L (rd_T43 L i).f2.toNat).1 ≤ (ln L (rd_T43 L i).f2.toNat).2)) := by
      intro hk
      obtain ⟨a, b, h1, h2, h3, h4⟩ := kid2 (hw i hi) hk
      rw [h1, h2, Int.toNat_natCast, Int.toNat_natCast]
      exact ⟨⟨(ln_rng L j hw a (by omega)).1, ih a h3 (by omega)⟩, (ln_rng L j hw b (by omega)).1, ih b h4 (by omega)⟩
    have hf := (hw i hi).1
    refine lnStep_cases (fun p => p.2 = -1 ∨ p.1 ≤ p.2) (fun _ => ?_) (fun _ => ?_) (fun h => ?_) (fun h => ?_) (fun h => ?_) (fun h => ?_) (fun _ _ _ _ _ _ _ => ?_)
    · exact .inr (Int.le_refl _)
    · exact .inl rfl
    · obtain ⟨⟨a1, a2⟩, b1, b2⟩ := K2 (by rw [h]; rfl)
      exact pl_le a1 b1 a2 b2
    · obtain ⟨⟨a1, a2⟩, b1, b2⟩ := K2 (by rw [h]; rfl)
      show ite _ _ _ = -1 ∨ min _ _ ≤ ite _ _ _
      split
      · exact .inl rfl
      · right; omega
    · obtain ⟨a1, a2⟩ := K1 (by rw [h]; rfl)
      obtain ⟨m1, m2, m3, m4, _⟩ := fit10 hf h
      exact tm_le a1 m1 a2 m4
    · exact (K1 (by rcases h with h | h <;> rw [h] <;> rfl)).2
    · exact .inr (Int.le_refl _)
theorem first_len (La : List S43) (k : Nat) (h1 : La.length = k) (hk : k ≤ 60) :
    ∃ I0 a b e, wrap64 ((k : Int) - 1) = I0 ∧ lenr La I0 = (a, b, e) ∧ (e ≠ 0 → a = 0 ∧ b = 0) ∧ (e = 0 → ord La = true ∧ (a, b) = ln La (k - 1)) := by
  have hl : lenr La ((k : Int) - 1) = if frm La = 0 then (if (k : Int) - 1 < 0 ∨ (La.length : Int) ≤ (k : Int) - 1 then (0, 0, 5) else ((ln La ((k : Int) - 1).toNat).1, (ln La ((k : Int) - 1).toNat).2, 0)) else (0, 0, frm La) := rfl
  by_cases hf : frm La = 0
  · have ho : ord La = true := by
      cases hc : ord La
      · unfold frm at hf; rw [hc, if_neg (by decide)] at hf; exact absurd hf (by decide)
      · rfl
    have hp := ord_pos ho
    have e : ((k : Int) - 1).toNat = k - 1 := by omega
    rw [if_pos hf, if_neg (by omega), e] at hl
    exact ⟨(k : Int) - 1, _, _, _, by unfold wrap64; omega, hl, fun h => absurd rfl h, fun _ => ⟨ho, rfl⟩⟩
  · rw [if_neg hf] at hl
    exact ⟨(k : Int) - 1, _, _, _, by unfold wrap64; omega, hl, fun _ => ⟨rfl, rfl⟩, fun h => absurd h hf⟩
theorem wraps_len (La LR LS LW : List S43) (k N : Nat) (a b n n1 : Int) (h1 : La.length = k) (hk : k ≤ 60) (ho : ord La = true) (hd : dep La < 39) (hab : (a, b) = ln La (k - 1)) (hn : 0 ≤ n) (hn9 : n ≤ 99) (hn1 : n1 = n + 1) (hN : k + 1 = N)
    (hR : La ++ [⟨10, (k : Int) - 1, 0, ⟨⟨0, 0, 0, 0⟩⟩, n, n, 0, 0, false⟩] = LR) (hS : La ++ [⟨10, (k : Int) - 1, 0, ⟨⟨0, 0, 0, 0⟩⟩, n1, -1, 0, 0, false⟩] = LS) (hW : La ++ [⟨17, (k : Int) - 1, 0, ⟨⟨0, 0, 0, 0⟩⟩, 0, 0, 0, 0, false⟩] = LW) :
    ∃ I c d u v, wrap64 ((N : Int) - 1) = I ∧ lenr LR I = (c, d, 0) ∧ lenr LS I = (u, v, 0) ∧ lenr LW I = (a, b, 0) ∧ (b = -1 ∨ a ≤ b) ∧ (d = -1 ∨ c ≤ d) ∧ c ≤ u ∧ v = if b = 0 then 0 else -1 := by
  subst h1 hN hn1
  have eR : LR = wrapl La 10 n n 0 0 := hR.symm
  have eS : LS = wrapl La 10 (n + 1) (-1) 0 0 := hS.symm
  have eW : LW = wrapl La 17 0 0 0 0 := hW.symm
  have fR : fit ⟨10, (La.length : Int) - 1, 0, z41, n, n, 0, 0, false⟩ = true := by
    unfold fit rfit z41 z39
    simp only [Bool.and_eq_true, decide_eq_true_eq, Bool.or_eq_true, bne_iff_ne, beq_iff_eq, Bool.not_eq_true']
    simp
    omega
  have fS : fit ⟨10, (La.length : Int) - 1, 0, z41, n + 1, -1, 0, 0, false⟩ = true := by
    unfold fit rfit z41 z39
    simp only [Bool.and_eq_true, decide_eq_true_eq, Bool.or_eq_true, bne_iff_ne, beq_iff_eq, Bool.not_eq_true']
    simp
    omega
  have pA := ord_pos ho
  have hw := fun i (hi : i < La.length) => ord_wf ho i hi
  have le := ln_le La La.length hw (La.length - 1) (by omega)
  have bA := ln_bnd ho
  rw [← hab] at le bA
  simp only [] at le bA
  have dR := wrap_dp ho (by omega) 10 n n 0 0 rfl fR
  have dS := wrap_dp ho (by omega) 10 (n + 1) (-1) 0 0 rfl fS
  have dW := wrap_dp ho (by omega) 17 0 0 0 0 rfl rfl
  have oR := wrap_ord ho (by omega) 10 n n 0 0 rfl fR
  have oS := wrap_ord ho (by omega) 10 (n + 1) (-1) 0 0 rfl fS
  have oW := wrap_ord ho (by omega) 17 0 0 0 0 rfl rfl
  have lR := wrap_ln ho (by omega) 10 n n 0 0 rfl fR (Or.inl rfl)
  have lS := wrap_ln ho (by omega) 10 (n + 1) (-1) 0 0 rfl fS (Or.inl rfl)
  have lW := wrap_ln ho (by omega) 17 0 0 0 0 rfl rfl (Or.inr rfl)
  have nR := wrapl_len La 10 n n 0 0
  have nS := wrapl_len La 10 (n + 1) (-1) 0 0
  have nW := wrapl_len La 17 0 0 0 0
  rw [if_pos rfl, ← hab] at lR lS
  rw [if_neg (by decide), ← hab] at lW
  rw [← eR] at dR oR lR nR
  rw [← eS] at dS oS lS nS
  rw [← eW] at dW oW lW nW
  refine ⟨(La.length : Int), tm a n, tm b n, tm a (n + 1), tm b (-1), by unfold wrap64; omega, ?_, ?_, ?_, le, tm_le bA.1 hn le (.inr (Int.le_refl _)), tm_more bA.1 hn, tm_open b⟩
  · rw [lenr_last oR (by omega) _ (by omega), nR, Nat.add_sub_cancel, lR]
  · rw [lenr_last oS (by omega) _ (by omega), nS, Nat.add_sub_cancel, lS]
  · rw [lenr_last oW (by omega) _ (by omega), nW, Nat.add_sub_cancel, lW]
end Go.Proofs.Ytjeoiebdchlilaa.DLenP
