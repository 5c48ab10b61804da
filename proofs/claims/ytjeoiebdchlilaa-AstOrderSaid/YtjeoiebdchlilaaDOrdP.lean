/- Two trees joined in either order: plain. -/
import Derived.Test.YtjeoiebdchlilaaDForkK
namespace Go.Proofs.Ytjeoiebdchlilaa.DOrdP
open Go.RowKit CMem DRow DDeep DSizes DFits DLens DSpec DGrp DCon DOdd DRowN DWrap DJoin DGrouped DRight DRJoin DRFits DRef DRefB DTree DKit DAlg DAlgB DForkK Q Go.Proofs.YtjeoiebdchlilaaW.PrintWords
set_option linter.unusedVariables false
set_option linter.unusedSimpArgs false
theorem pl_comm (a b : Int) : pl a b = pl b a := by
  unfold pl
  rw [Int.add_comm b a]
  by_cases h1 : a = -1 <;> by_cases h2 : b = -1 <;> simp [h1, h2]
theorem rgt_parts {L : List S43} (h : rgt L = 0) : frm L = 0 ∧ grp L = true ∧ bhd L = true := by
  unfold rgt at h
  by_cases h1 : frm L = 0
  · rw [if_pos h1] at h
    by_cases h2 : grp L = true
    · rw [if_pos h2] at h
      by_cases h3 : bhd L = true
      · exact ⟨h1, h2, h3⟩
      · rw [if_neg h3] at h; omega
    · rw [if_neg h2] at h; omega
  · rw [if_neg h1] at h; exact absurd h h1
theorem gi_none {L : List S43} (ho : ord L = true) (hg : grn L = 0) : gi L (L.length - 1) = [] := by
  have h := (gall_perm ho).length_eq
  unfold grn at hg
  exact List.eq_nil_of_length_eq_zero (by omega)
theorem grp_none {L : List S43} (ho : ord L = true) (hg : grn L = 0) : grp L = !L.any (oddb 0) := by
  unfold grp
  rw [gi_none ho hg]
  simp
theorem bhd_at {L : List S43} (h : bhd L = true) (i : Nat) (hi : i < L.length) : bhd1 L i = true := by
  unfold bhd at h
  exact List.all_eq_true.1 h i (List.mem_range.2 hi)
theorem bhd_join {L M : List S43} (oL : ord L = true) (oM : ord M = true) (oX : ord (joinl L M 8) = true) (hL : bhd L = true) (hM : bhd M = true) (l1 : L.length ≤ 60) (l2 : M.length ≤ 60) : bhd (joinl L M 8) = true := by
  have hw := fun i (hi : i < (joinl L M 8).length) => ord_wf oX i hi
  have hwL := fun i (hi : i < L.length) => ord_wf oL i hi
  have hwM := fun i (hi : i < M.length) => ord_wf oM i hi
  have nX := joinl_len L M 8
  unfold bhd
  refine List.all_eq_true.2 fun i hi => ?_
  rw [List.mem_range, nX] at hi
  rcases Nat.lt_or_ge i L.length with h | h
  · have hb := bhd_at hL i h
    unfold bhd1 at hb ⊢
    rw [joinl_left L M 8 i h]
    by_cases hk : ((rd_T43 L i).f0 == 15 || (rd_T43 L i).f0 == 16) = true
    · have hkd : kd (rd_T43 L i).f0 = 1 := by
        simp only [Bool.or_eq_true, beq_iff_eq] at hk
        rcases hk with e | e <;> rw [e] <;> rfl
      rcases (hwL i h).2 with ⟨hk', _⟩ | ⟨q, rfl, hk', hf1, _⟩ | ⟨q, p, rfl, hp, hk', _⟩
      · omega
      · have e : (rd_T43 L (q + 1 : Nat)).f1.toNat = q := by omega
        rw [e] at hb ⊢
        rw [ln_first _ L L.length (fun i hi => joinl_left L M 8 i hi) hwL q (by omega)]
        exact hb
      · omega
    · rw [Bool.not_eq_true] at hk
      rw [hk]; rfl
  · rcases Nat.lt_or_ge i (L.length + M.length) with h2 | h2
    · obtain ⟨j, rfl⟩ : ∃ j, i = L.length + j := ⟨i - L.length, by omega⟩
      have hj : j < M.length := by omega
      have hb := bhd_at hM j hj
      unfold bhd1 at hb ⊢
      rw [joinl_mid L M 8 j hj]
      have e0 : (shift (L.length : Nat) (rd_T43 M j)).f0 = (rd_T43 M j).f0 := rfl
      rw [e0]
      by_cases hk : ((rd_T43 M j).f0 == 15 || (rd_T43 M j).f0 == 16) = true
      · have hkd : kd (rd_T43 M j).f0 = 1 := by
          simp only [Bool.or_eq_true, beq_iff_eq] at hk
          rcases hk with e | e <;> rw [e] <;> rfl
        rcases (hwM j hj).2 with ⟨hk', _⟩ | ⟨q, rfl, hk', hf1, _⟩ | ⟨q, p, rfl, hp, hk', _⟩
        · omega
        · have e : (rd_T43 M (q + 1 : Nat)).f1.toNat = q := by omega
          have e1 : (shift (L.length : Nat) (rd_T43 M (q + 1 : Nat))).f1.toNat = L.length + q := by
            unfold shift
            simp only []
            rw [if_pos (by omega)]
            unfold wrap64
            omega
          rw [e] at hb
          rw [e1, ln_later _ M L.length M.length (by omega) (by omega) (fun i hi => joinl_mid L M 8 i hi) hwM (fun i hi => hw i (by omega)) q (by omega)]
          exact hb
        · omega
      · rw [Bool.not_eq_true] at hk
        rw [hk]; rfl
    · obtain rfl : i = L.length + M.length := by omega
      unfold bhd1
      rw [joinl_last]
      rfl
theorem rgt_join {L M : List S43} (hA : rgt L = 0) (hB : rgt M = 0) (gL : grn L = 0) (gM : grn M = 0) (dL : dep L < 40) (dM : dep M < 40) (l1 : L.length ≤ 60) (l2 : M.length ≤ 60) : rgt (joinl L M 8) = 0 := by
  obtain ⟨fA, qA, bA⟩ := rgt_parts hA
  obtain ⟨fB, qB, bB⟩ := rgt_parts hB
  have oA := frm_ord fA
  have oB := frm_ord fB
  have oX := join_ord oA oB (by omega) (by omega) 8 (Or.inl rfl)
  have dX := join_dp oA oB (by omega) (by omega) 8 (Or.inl rfl)
  have gX := join_grn L M 8 (by decide)
  have hg : grp (joinl L M 8) = true := by
    rw [grp_none oX (by omega)]
    rw [grp_none oA gL] at qA
    rw [grp_none oB gM] at qB
    unfold joinl
    rw [List.any_append, List.any_append, List.any_map]
    have e : (oddb 0 ∘ shift (L.length : Nat)) = oddb 0 := rfl
    rw [e]
    simp only [Bool.not_eq_true'] at qA qB
    rw [qA, qB]
    rfl
  unfold rgt
  rw [if_pos (frm_ok oX (by omega)), if_pos hg, if_pos (bhd_join oA oB oX bA bB l1 l2)]
theorem plain (La Lb LX LY : List S43) (k q N : Nat) (x y : Int) (h1 : La.length = k) (h2 : Lb.length = q) (hk : k ≤ 60) (hq : q ≤ 60) (hA : rgt La = 0) (hB : rgt Lb = 0) (gA : ¬ 0 < grn La + grn Lb) (hx : dep La = x) (hy : dep Lb = y) (hz : ¬ 40 ≤ max x y) (hN : k + q + 1 = N)
    (hX : La ++ Lb.map (shift k) ++ [⟨8, (k : Int) - 1, (k : Int) + q - 1, z41, 0, 0, 0, 0, false⟩] = LX) (hY : Lb ++ La.map (shift q) ++ [⟨8, (q : Int) - 1, (q : Int) + k - 1, z41, 0, 0, 0, 0, false⟩] = LY) :
    ∃ I u v sb, wrap64 ((N : Int) - 1) = I ∧ rgt LX = 0 ∧ rgt LY = 0 ∧ lenr LX I = (u, v, 0) ∧ lenr LY I = (u, v, 0) ∧ sameb La Lb = sb ∧ sameb LX LY = sb := by
  have w (x : Int) (h : -1000 ≤ x ∧ x ≤ 1000) : wrap64 x = x := by unfold wrap64; omega
  subst h1 h2
  have eX : LX = joinl La Lb 8 := hX.symm
  have eY : LY = joinl Lb La 8 := hY.symm
  obtain ⟨fA, _, _⟩ := rgt_parts hA
  obtain ⟨fB, _, _⟩ := rgt_parts hB
  have oA := frm_ord fA
  have oB := frm_ord fB
  have rA := grn_rng La
  have rB := grn_rng Lb
  have gA0 : grn La = 0 := by omega
  have gB0 : grn Lb = 0 := by omega
  have pA := ord_pos oA
  have pB := ord_pos oB
  have oX := join_ord oA oB (by omega) (by omega) 8 (Or.inl rfl)
  have oY := join_ord oB oA (by omega) (by omega) 8 (Or.inl rfl)
  have dX := join_dp oA oB (by omega) (by omega) 8 (Or.inl rfl)
  have dY := join_dp oB oA (by omega) (by omega) 8 (Or.inl rfl)
  have lX := join_ln oA oB (by omega) (by omega) 8 (Or.inl rfl)
  have lY := join_ln oB oA (by omega) (by omega) 8 (Or.inl rfl)
  have nX := joinl_len La Lb 8
  have nY := joinl_len Lb La 8
  rw [if_pos rfl] at lX lY
  refine ⟨(N : Int) - 1, pl (ln La (La.length - 1)).1 (ln Lb (Lb.length - 1)).1, pl (ln La (La.length - 1)).2 (ln Lb (Lb.length - 1)).2, sameb La Lb, w _ (by omega), ?_, ?_, ?_, ?_, rfl, ?_⟩
  · rw [eX]; exact rgt_join hA hB gA0 gB0 (by omega) (by omega) hk hq
  · rw [eY]; exact rgt_join hB hA gB0 gA0 (by omega) (by omega) hq hk
  · rw [eX, lenr_last oX (by omega) _ (by omega), nX, Nat.add_sub_cancel, lX]
  · rw [eY, lenr_last oY (by omega) _ (by omega), nY, Nat.add_sub_cancel, lY, pl_comm (ln Lb _).1, pl_comm (ln Lb _).2]
  · rw [eX, eY, Bool.eq_iff_iff, sameb_iff, sameb_iff]
    constructor
    · intro h
      have e1 := joinl_last La Lb 8
      have e2 := joinl_last Lb La 8
      rw [h, Nat.add_comm La.length, e2] at e1
      have e3 := congrArg S43.f1 e1
      simp only [] at e3
      have hl : La.length = Lb.length := by omega
      unfold joinl at h
      rw [List.append_assoc, List.append_assoc] at h
      exact (List.append_inj h hl).1
    · rintro rfl; rfl
end Go.Proofs.Ytjeoiebdchlilaa.DOrdP
