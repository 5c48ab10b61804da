/- Sets as numbers: how many, the least one, the runs: plain. -/
import Derived.Test.YtdociniomegpnaaDoorCFold
import Derived.Test.YtdociniomegpnaaDoorCMin
import Derived.Test.YtdociniomegpnaaDoorCRuns
namespace Go.Proofs.YtdociniomegpnaaDoor.CPlain
open CBits CMake CMin CFold CRuns
set_option linter.unusedVariables false
set_option linter.unusedSimpArgs false

theorem cnt_le (N n : Nat) : cnt N n ≤ n := by
  unfold cnt
  exact Nat.le_trans List.countP_le_length (by simp)
theorem cnt_not {N : Nat} (hN : N < 2 ^ 256) : cnt (notN N) 256 + cnt N 256 = 256 := by
  have h : ∀ n, n ≤ 256 → cnt (notN N) n + cnt N n = n := by
    intro n hn
    induction n with
    | zero => rfl
    | succ n ih =>
      have ih := ih (by omega)
      unfold cnt at ih ⊢
      rw [List.range_succ, List.countP_append, List.countP_append, List.countP_singleton, List.countP_singleton, tb_not hN, decide_eq_true (show n < 256 by omega)]
      cases N.testBit n <;> simp <;> omega
  exact h 256 (Nat.le_refl _)
theorem cnt_or_and (N M n : Nat) : cnt (N ||| M) n + cnt (N &&& M) n = cnt N n + cnt M n := by
  induction n with
  | zero => rfl
  | succ n ih =>
    unfold cnt at ih ⊢
    simp only [List.range_succ, List.countP_append, List.countP_singleton, Nat.testBit_or, Nat.testBit_and]
    cases N.testBit n <;> cases M.testBit n <;> simp <;> simp [Nat.testBit_or, Nat.testBit_and] at ih <;> omega
theorem cnt_rg (a k n : Nat) (h : a + k ≤ n) : cnt (rg a k) n = k := by
  have hh : ∀ n, cnt (rg a k) n = min (n - a) k := by
    intro n
    induction n with
    | zero => simp [cnt]
    | succ n ih =>
      unfold cnt at ih ⊢
      rw [List.range_succ, List.countP_append, ih, List.countP_singleton, tb_rg]
      by_cases h1 : a ≤ n
      · by_cases h2 : n < a + k
        · simp [h1, h2]; omega
        · simp [h1, h2]; omega
      · simp [h1]; omega
  rw [hh]
  omega
theorem rg_lt (a k : Nat) (h : a + k ≤ 256) : rg a k < 2 ^ 256 := by
  apply Nat.lt_pow_two_of_testBit
  intro i hi
  rw [tb_rg]
  simp
  omega
theorem out_of {N i : Nat} (hN : N < 2 ^ 256) (h : N.testBit i = true) : i < 256 := by
  rcases Nat.lt_or_ge i 256 with g | g
  · exact g
  · rw [Nat.testBit_lt_two_pow (Nat.lt_of_lt_of_le hN (Nat.pow_le_pow_right (by decide) g))] at h
    cases h
theorem cnt_pos {N : Nat} (hN : N < 2 ^ 256) : 0 < cnt N 256 ↔ N ≠ 0 := by
  unfold cnt
  rw [List.countP_pos_iff]
  constructor
  · rintro ⟨i, _, h⟩ rfl
    simp at h
  · intro h
    obtain ⟨i, hi⟩ := Nat.exists_testBit_of_ne_zero h
    exact ⟨i, by simpa using out_of hN hi, hi⟩
/-- the least bit of a word -/
theorem ctz_spec (x : Nat) (h0 : x ≠ 0) (hx : x < 18446744073709551616) : Go.Lib.ctz 64 x < 64 ∧ x.testBit (Go.Lib.ctz 64 x) = true ∧ ∀ i, i < Go.Lib.ctz 64 x → x.testBit i = false := by
  obtain ⟨m, h1, h2⟩ := Go.Lib.ctzFrom_spec 64 x (by omega) hx
  have e : Go.Lib.ctz 64 x = Go.Lib.ctzFrom 64 x := by unfold Go.Lib.ctz; rw [if_neg h0]
  rw [e]
  generalize Go.Lib.ctzFrom 64 x = c at *
  refine ⟨h2, ?_, fun i hi => ?_⟩
  · rw [h1, Nat.testBit_two_pow_mul]
    simp
  · rw [h1, Nat.testBit_two_pow_mul]
    simp
    omega
theorem someF_eq {N : Nat} (hN : N < 2 ^ 256) : someF N = decide (N ≠ 0) := by
  unfold someF
  rw [decide_eq_decide]
  constructor
  · rintro h rfl
    simp [wd] at h
  · intro h
    by_cases g : wd N 0 ≠ 0 ∨ wd N 1 ≠ 0 ∨ wd N 2 ≠ 0 ∨ wd N 3 ≠ 0
    · exact g
    · exfalso
      apply h
      apply ext_wd hN (by decide)
      intro j hj
      have hc : j = 0 ∨ j = 1 ∨ j = 2 ∨ j = 3 := by omega
      have z : ∀ j, wd 0 j = 0 := fun j => by simp [wd]
      rw [z]
      rcases hc with rfl | rfl | rfl | rfl <;> omega
theorem minF_spec {N : Nat} (hN : N < 2 ^ 256) (h : N ≠ 0) : minF N < 256 ∧ N.testBit (minF N) = true ∧ ∀ i, i < minF N → N.testBit i = false := by
  have hs := someF_eq hN
  rw [decide_eq_true h] at hs
  unfold someF at hs
  have hs := of_decide_eq_true hs
  have key : ∀ j, wd N j ≠ 0 → (∀ k, k < j → wd N k = 0) → j < 4 → 64 * j + Go.Lib.ctz 64 (wd N j) < 256 ∧ N.testBit (64 * j + Go.Lib.ctz 64 (wd N j)) = true ∧ ∀ i, i < 64 * j + Go.Lib.ctz 64 (wd N j) → N.testBit i = false := by
    intro j hj hk h4
    obtain ⟨c1, c2, c3⟩ := ctz_spec (wd N j) hj (wd_lt N j)
    generalize Go.Lib.ctz 64 (wd N j) = c at *
    refine ⟨by omega, ?_, fun i hi => ?_⟩
    · rw [tb_wd] at c2
      simp [c1] at c2
      exact c2
    · by_cases g : i < 64 * j
      · have := tb_wd N (i / 64) (i % 64)
        rw [hk (i / 64) (by omega), show 64 * (i / 64) + i % 64 = i by omega] at this
        simp [show i % 64 < 64 by omega] at this
        exact this
      · have := c3 (i - 64 * j) (by omega)
        rw [tb_wd, show 64 * j + (i - 64 * j) = i by omega, decide_eq_true (show i - 64 * j < 64 by omega)] at this
        simpa using this
  unfold minF
  by_cases h0 : wd N 0 ≠ 0
  · rw [if_pos h0]
    simpa using key 0 h0 (fun k hk => by omega) (by omega)
  · rw [if_neg h0]
    by_cases h1 : wd N 1 ≠ 0
    · rw [if_pos h1]
      exact key 1 h1 (fun k hk => by obtain rfl : k = 0 := by omega
                                     omega) (by omega)
    · rw [if_neg h1]
      by_cases h2 : wd N 2 ≠ 0
      · rw [if_pos h2]
        exact key 2 h2 (fun k hk => by rcases (show k = 0 ∨ k = 1 by omega) with rfl | rfl <;> omega) (by omega)
      · rw [if_neg h2]
        exact key 3 (by omega) (fun k hk => by rcases (show k = 0 ∨ k = 1 ∨ k = 2 by omega) with rfl | rfl | rfl <;> omega) (by omega)
theorem rst_rg (a k j : Nat) : rst (rg a (k + 1)) j = if j ≤ a then ([], -1) else if j ≤ a + k + 1 then ([], (a : Int)) else ([(a, a + k)], -1) := by
  induction j with
  | zero => simp [rst]
  | succ j ih =>
    rw [rst, ih, tb_rg]
    by_cases h1 : j < a
    · rw [if_pos (show j ≤ a by omega), if_pos (show j + 1 ≤ a by omega)]
      simp
      omega
    · rw [if_neg (show ¬ j + 1 ≤ a by omega)]
      by_cases h2 : j = a
      · rw [if_pos (show j ≤ a by omega), if_pos (show j + 1 ≤ a + k + 1 by omega)]
        simp [h2]
      · rw [if_neg (show ¬ j ≤ a by omega)]
        by_cases h3 : j ≤ a + k
        · rw [if_pos (show j ≤ a + k + 1 by omega), if_pos (show j + 1 ≤ a + k + 1 by omega), if_pos (decide_eq_true (show a ≤ j ∧ j < a + (k + 1) by omega))]
          rw [if_neg (show ¬ ((a : Int) < 0) by omega)]
        · rw [if_neg (show ¬ j + 1 ≤ a + k + 1 by omega), if_neg (show ¬ (decide (a ≤ j ∧ j < a + (k + 1)) = true) by simp; omega)]
          by_cases h4 : j = a + k + 1
          · rw [if_pos (show j ≤ a + k + 1 by omega), if_neg (show ¬ ((a : Int) < 0) by omega)]
            subst h4
            simp
          · rw [if_neg (show ¬ j ≤ a + k + 1 by omega)]
            simp
theorem runs_rg (a k : Nat) (h : a + k < 256) : runs (rg a (k + 1)) = [(a, a + k)] := by
  unfold runs
  rw [rst_rg, if_neg (show ¬ 256 ≤ a by omega)]
  by_cases g : 256 ≤ a + k + 1
  · rw [if_pos g, if_neg (show ¬ ((a : Int) < 0) by omega)]
    simp
    omega
  · rw [if_neg g]
    simp
end Go.Proofs.YtdociniomegpnaaDoor.CPlain
