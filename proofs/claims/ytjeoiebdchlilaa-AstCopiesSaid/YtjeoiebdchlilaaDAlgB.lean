/- Trees joined, and wrapped: in order, how deep, how long, what is wrong; plain. -/
import Derived.Test.YtjeoiebdchlilaaDAlg
namespace Go.Proofs.Ytjeoiebdchlilaa.DAlgB
open Go.RowKit CMem DRow DDeep DSizes DFits DLens DSpec DGrp DCon DOdd DRowN DWrap DJoin DGrouped DRight DRJoin DRFits DRef DRefB DTree DKit DAlg Q Go.Proofs.YtjeoiebdchlilaaW.PrintWords
set_option linter.unusedVariables false
set_option linter.unusedSimpArgs false
def joinl (L M : List S43) (k : Int) : List S43 := L ++ M.map (shift (L.length : Nat)) ++ [⟨k, (L.length : Int) - 1, (L.length : Int) + (M.length : Nat) - 1, z41, 0, 0, 0, 0, false⟩]
def wrapl (L : List S43) (k mi ma mo nn : Int) : List S43 := L ++ [⟨k, (L.length : Int) - 1, 0, z41, mi, ma, mo, nn, false⟩]
theorem joinl_len (L M : List S43) (k : Int) : (joinl L M k).length = L.length + M.length + 1 := by unfold joinl; simp; omega
theorem wrapl_len (L : List S43) (k mi ma mo nn : Int) : (wrapl L k mi ma mo nn).length = L.length + 1 := by unfold wrapl; simp
theorem joinl_left (L M : List S43) (k : Int) (i : Nat) (h : i < L.length) : rd_T43 (joinl L M k) i = rd_T43 L i := by
  unfold joinl
  rw [List.append_assoc, rd_left _ _ _ h]
theorem joinl_mid (L M : List S43) (k : Int) (i : Nat) (h : i < M.length) : rd_T43 (joinl L M k) (L.length + i : Nat) = shift (L.length : Nat) (rd_T43 M i) := by
  unfold joinl
  rw [List.append_assoc, rd_right, rd_left _ _ _ (by rw [List.length_map]; exact h), rd_shift _ _ _ h]
theorem joinl_last (L M : List S43) (k : Int) : rd_T43 (joinl L M k) (L.length + M.length : Nat) = ⟨k, (L.length : Int) - 1, (L.length : Int) + (M.length : Nat) - 1, z41, 0, 0, 0, 0, false⟩ := by
  unfold joinl
  have h := rd_right (L ++ M.map (shift (L.length : Nat))) [⟨k, (L.length : Int) - 1, (L.length : Int) + (M.length : Nat) - 1, z41, 0, 0, 0, 0, false⟩] 0
  rw [List.length_append, List.length_map, Nat.add_zero] at h
  rw [h]; rfl
theorem wrapl_left (L : List S43) (k mi ma mo nn : Int) (i : Nat) (h : i < L.length) : rd_T43 (wrapl L k mi ma mo nn) i = rd_T43 L i := rd_left _ _ _ h
theorem wrapl_last (L : List S43) (k mi ma mo nn : Int) : rd_T43 (wrapl L k mi ma mo nn) (L.length : Nat) = ⟨k, (L.length : Int) - 1, 0, z41, mi, ma, mo, nn, false⟩ := by
  unfold wrapl
  have h := rd_right L [⟨k, (L.length : Int) - 1, 0, z41, mi, ma, mo, nn, false⟩] 0
  rw [Nat.add_zero] at h
  rw [h]; rfl
section
variable {L M : List S43} (hL : ord L = true) (hM : ord M = true) (h1 : L.length ≤ 400) (h2 : M.length ≤ 400) (k : Int) (hk : k = 8 ∨ k = 9)
include hL hM h1 h2 hk
theorem join_sz : sz (joinl L M k) (L.length + M.length) = (L.length : Int) + (M.length : Int) + 1 := by
  have hwL := fun i (hi : i < L.length) => ord_wf hL i hi
  have hwM := fun i (hi : i < M.length) => ord_wf hM i hi
  have pL := ord_pos hL
  have pM := ord_pos hM
  have sL := ord_sz hL
  have sM := ord_sz hM
  obtain ⟨a, ha⟩ : ∃ a, L.length = a + 1 := ⟨L.length - 1, by omega⟩
  obtain ⟨b, hb⟩ : ∃ b, M.length = b + 1 := ⟨M.length - 1, by omega⟩
  have e1 : ((L.length + M.length : Nat) : Int) - 1 = ((L.length + b : Nat) : Int) := by omega
  have s1 : szi (joinl L M k) ((L.length + b : Nat) : Int) = (M.length : Int) := by
    unfold szi
    rw [if_neg (by omega), Int.toNat_natCast, sz_later _ M L.length M.length (by omega) (by omega) (fun i hi => joinl_mid L M k i hi) hwM b (by omega), ← sM]
    congr 1
    omega
  have e2 : ((L.length + b : Nat) : Int) - (M.length : Int) = ((a : Nat) : Int) := by omega
  have s2 : szi (joinl L M k) ((a : Nat) : Int) = (L.length : Int) := by
    unfold szi
    rw [if_neg (by omega), Int.toNat_natCast, sz_first _ L L.length (fun i hi => joinl_left L M k i hi) a (by omega), ← sL]
    congr 1
    omega
  have hkd : kd k = 2 := by rcases hk with h | h <;> rw [h] <;> rfl
  have hfit : fit ⟨k, (L.length : Int) - 1, (L.length : Int) + (M.length : Nat) - 1, z41, 0, 0, 0, 0, false⟩ = true := by rcases hk with h | h <;> rw [h] <;> rfl
  rw [sz_step, joinl_last, hfit]
  simp only []
  rw [if_neg (by decide), hkd, if_neg (by decide), e1, s1, if_neg (by omega), if_neg (by decide), e2, s2, if_neg (by omega), if_pos ⟨by omega, by omega⟩]
theorem join_ord : ord (joinl L M k) = true := by
  have h := join_sz hL hM h1 h2 k hk
  have hl := joinl_len L M k
  have e : (joinl L M k).length - 1 = L.length + M.length := by omega
  unfold ord
  rw [e, h, hl]
  simp
theorem join_dp : dep (joinl L M k) = 1 + max (dep L) (dep M) := by
  have ho := join_ord hL hM h1 h2 k hk
  have hw := fun i (hi : i < (joinl L M k).length) => ord_wf ho i hi
  have hwL := fun i (hi : i < L.length) => ord_wf hL i hi
  have hwM := fun i (hi : i < M.length) => ord_wf hM i hi
  have pL := ord_pos hL
  have pM := ord_pos hM
  have hl := joinl_len L M k
  have e : (joinl L M k).length - 1 = L.length + M.length := by omega
  have hkd : kd k = 2 := by rcases hk with h | h <;> rw [h] <;> rfl
  have hd : dep (joinl L M k) = dp (joinl L M k) (L.length + M.length) := by unfold dep; rw [if_pos ho, e]
  have hdL : dep L = dp L (L.length - 1) := by unfold dep; rw [if_pos hL]
  have hdM : dep M = dp M (M.length - 1) := by unfold dep; rw [if_pos hM]
  rw [hd, hdL, hdM]
  rcases dp_eq (joinl L M k) _ hw (L.length + M.length) (by omega) with ⟨g0, g⟩ | ⟨c, g0, _⟩ | ⟨c, d, g0, g1, g2, g3, g4, g⟩
  · rw [joinl_last] at g0; simp only [] at g0; omega
  · rw [joinl_last] at g0; simp only [] at g0; omega
  · rw [joinl_last] at g1 g2
    simp only [] at g1 g2
    obtain rfl : c = L.length - 1 := by omega
    obtain rfl : d = L.length + (M.length - 1) := by omega
    rw [g, dp_first _ L L.length (fun i hi => joinl_left L M k i hi) hwL _ (by omega), dp_later _ M L.length M.length (by omega) (by omega) (fun i hi => joinl_mid L M k i hi) hwM (fun i hi => hw i (by omega)) _ (by omega)]
theorem join_ln : ln (joinl L M k) (L.length + M.length) = if k = 8 then (pl (ln L (L.length - 1)).1 (ln M (M.length - 1)).1, pl (ln L (L.length - 1)).2 (ln M (M.length - 1)).2) else (min (ln L (L.length - 1)).1 (ln M (M.length - 1)).1, if min (ln L (L.length - 1)).2 (ln M (M.length - 1)).2 = -1 then -1 else max (ln L (L.length - 1)).2 (ln M (M.length - 1)).2) := by
  have ho := join_ord hL hM h1 h2 k hk
  have hw := fun i (hi : i < (joinl L M k).length) => ord_wf ho i hi
  have hwL := fun i (hi : i < L.length) => ord_wf hL i hi
  have hwM := fun i (hi : i < M.length) => ord_wf hM i hi
  have pL := ord_pos hL
  have pM := ord_pos hM
  have hl := joinl_len L M k
  have e1 : ((L.length : Int) - 1).toNat = L.length - 1 := by omega
  have e2 : ((L.length : Int) + (M.length : Nat) - 1).toNat = L.length + (M.length - 1) := by omega
  have f1 := ln_first (joinl L M k) L L.length (fun i hi => joinl_left L M k i hi) hwL (L.length - 1) (by omega)
  have f2 := ln_later (joinl L M k) M L.length M.length (by omega) (by omega) (fun i hi => joinl_mid L M k i hi) hwM (fun i hi => hw i (by omega)) (M.length - 1) (by omega)
  rw [ln_eq _ _ hw _ (by omega)]
  unfold lnStep
  rw [joinl_last]
  simp only [e1, e2, f1, f2]
  rcases hk with h | h
  · subst h; rfl
  · subst h; rfl
end
theorem grn_count (L : List S43) : grn L = ((L.countP fun x => x.f0 == 11 : Nat) : Int) := by
  unfold grn gall
  congr 1
  have : ∀ (L : List S43) (n : Nat), n ≤ L.length → ((List.range n).filter fun i : Nat => (rd_T43 L (i : Nat)).f0 == 11).length = (L.take n).countP fun x => x.f0 == 11 := by
    intro L n
    induction n with
    | zero => intro _; rfl
    | succ n ih =>
      intro hn
      have hx : L[n]? = some (rd_T43 L n) := by
        unfold rd_T43
        rw [Int.toNat_natCast, List.getD_eq_getElem?_getD, List.getElem?_eq_getElem (by omega)]; rfl
      rw [gall_upto, ih (by omega), List.take_add_one, hx, List.countP_append]
      congr 1
      by_cases h : (rd_T43 L n).f0 = 11
      · rw [if_pos h]; simp [h]
      · rw [if_neg h]; simp [h]
  have h := this L L.length (Nat.le_refl _)
  rw [List.take_length] at h
  exact h
theorem join_grn (L M : List S43) (k : Int) (hk : k ≠ 11) : grn (joinl L M k) = grn L + grn M := by
  rw [grn_count, grn_count, grn_count]
  unfold joinl
  rw [List.countP_append, List.countP_append, List.countP_map]
  have e : ((fun x : S43 => x.f0 == 11) ∘ shift (L.length : Nat)) = fun x : S43 => x.f0 == 11 := rfl
  rw [e]
  have e2 : (([⟨k, (L.length : Int) - 1, (L.length : Int) + (M.length : Nat) - 1, z41, 0, 0, 0, 0, false⟩] : List S43).countP fun x => x.f0 == 11) = 0 := by simp [hk]
  rw [e2]
  omega
section
variable {L : List S43} (hL : ord L = true) (h1 : L.length ≤ 900) (k mi ma mo nn : Int) (hkd : kd k = 1) (hfit : fit ⟨k, (L.length : Int) - 1, 0, z41, mi, ma, mo, nn, false⟩ = true)
include hL h1 hkd hfit
theorem wrap_sz : sz (wrapl L k mi ma mo nn) L.length = (L.length : Int) + 1 := by
  have pL := ord_pos hL
  have sL := ord_sz hL
  obtain ⟨a, ha⟩ : ∃ a, L.length = a + 1 := ⟨L.length - 1, by omega⟩
  have e1 : ((L.length : Nat) : Int) - 1 = ((a : Nat) : Int) := by omega
  have s2 : szi (wrapl L k mi ma mo nn) ((a : Nat) : Int) = (L.length : Int) := by
    unfold szi
    rw [if_neg (by omega), Int.toNat_natCast, sz_first _ L L.length (fun i hi => wrapl_left L k mi ma mo nn i hi) a (by omega), ← sL]
    congr 1
    omega
  rw [sz_step, wrapl_last, hfit]
  simp only []
  rw [if_neg (by decide), hkd, if_neg (by decide), e1, s2, if_neg (by omega), if_pos rfl, if_pos (by constructor <;> first | trivial | omega)]
theorem wrap_ord : ord (wrapl L k mi ma mo nn) = true := by
  have h := wrap_sz hL h1 k mi ma mo nn hkd hfit
  have hl := wrapl_len L k mi ma mo nn
  have e : (wrapl L k mi ma mo nn).length - 1 = L.length := by omega
  unfold ord
  rw [e, h, hl]
  simp
theorem wrap_dp : dep (wrapl L k mi ma mo nn) = 1 + dep L := by
  have ho := wrap_ord hL h1 k mi ma mo nn hkd hfit
  have hw := fun i (hi : i < (wrapl L k mi ma mo nn).length) => ord_wf ho i hi
  have hwL := fun i (hi : i < L.length) => ord_wf hL i hi
  have pL := ord_pos hL
  have hl := wrapl_len L k mi ma mo nn
  have e : (wrapl L k mi ma mo nn).length - 1 = L.length := by omega
  have hd : dep (wrapl L k mi ma mo nn) = dp (wrapl L k mi ma mo nn) L.length := by unfold dep; rw [if_pos ho, e]
  have hdL : dep L = dp L (L.length - 1) := by unfold dep; rw [if_pos hL]
  rw [hd, hdL]
  rcases dp_eq (wrapl L k mi ma mo nn) _ hw L.length (by omega) with ⟨g0, g⟩ | ⟨c, g0, g1, g2, g⟩ | ⟨c, d, g0, _⟩
  · rw [wrapl_last] at g0; simp only [] at g0; omega
  · rw [wrapl_last] at g1
    simp only [] at g1
    obtain rfl : c = L.length - 1 := by omega
    rw [g, dp_first _ L L.length (fun i hi => wrapl_left L k mi ma mo nn i hi) hwL _ (by omega)]
  · rw [wrapl_last] at g0; simp only [] at g0; omega
theorem wrap_ln (hk10 : k = 10 ∨ k = 17) : ln (wrapl L k mi ma mo nn) L.length = if k = 10 then (tm (ln L (L.length - 1)).1 mi, tm (ln L (L.length - 1)).2 ma) else ln L (L.length - 1) := by
  have ho := wrap_ord hL h1 k mi ma mo nn hkd hfit
  have hw := fun i (hi : i < (wrapl L k mi ma mo nn).length) => ord_wf ho i hi
  have hwL := fun i (hi : i < L.length) => ord_wf hL i hi
  have pL := ord_pos hL
  have hl := wrapl_len L k mi ma mo nn
  have e1 : ((L.length : Int) - 1).toNat = L.length - 1 := by omega
  have f1 := ln_first (wrapl L k mi ma mo nn) L L.length (fun i hi => wrapl_left L k mi ma mo nn i hi) hwL (L.length - 1) (by omega)
  rw [ln_eq _ _ hw _ (by omega)]
  unfold lnStep
  rw [wrapl_last]
  simp only [e1, f1]
  rcases hk10 with h | h
  · subst h; rfl
  · subst h; rfl
end
end Go.Proofs.Ytjeoiebdchlilaa.DAlgB
