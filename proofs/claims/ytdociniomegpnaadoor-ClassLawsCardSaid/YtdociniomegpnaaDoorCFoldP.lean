/- Folding, plain. -/
import Derived.Test.YtdociniomegpnaaDoorCPlain
namespace Go.Proofs.YtdociniomegpnaaDoor.CFoldP
open CBits CMake CMin CFold CRuns CPlain
set_option linter.unusedVariables false
set_option linter.unusedSimpArgs false
theorem fd_lo (N i : Nat) (h : 97 ≤ i) (h' : i < 123) : (fd N 26).testBit i = (N.testBit i || N.testBit (i - 32)) := by
  rw [tb_fd N 26 i (by decide), decide_eq_true (show 97 ≤ i ∧ i < 97 + 26 by omega), decide_eq_false (show ¬ (65 ≤ i ∧ i < 65 + 26) by omega)]
  simp
theorem fd_up (N i : Nat) (h : 65 ≤ i) (h' : i < 91) : (fd N 26).testBit i = (N.testBit i || N.testBit (i + 32)) := by
  rw [tb_fd N 26 i (by decide), decide_eq_false (show ¬ (97 ≤ i ∧ i < 97 + 26) by omega), decide_eq_true (show 65 ≤ i ∧ i < 65 + 26 by omega)]
  simp
theorem fd_no (N i : Nat) (h : ¬ (97 ≤ i ∧ i < 123)) (h' : ¬ (65 ≤ i ∧ i < 91)) : (fd N 26).testBit i = N.testBit i := by
  rw [tb_fd N 26 i (by decide), decide_eq_false (show ¬ (97 ≤ i ∧ i < 97 + 26) by omega), decide_eq_false (show ¬ (65 ≤ i ∧ i < 65 + 26) by omega)]
  simp
theorem fd_fd (N : Nat) : fd (fd N 26) 26 = fd N 26 := by
  apply Nat.eq_of_testBit_eq
  intro i
  by_cases h : 97 ≤ i ∧ i < 123
  · rw [fd_lo _ i h.1 h.2, fd_lo N i h.1 h.2, fd_up N (i - 32) (by omega) (by omega), show i - 32 + 32 = i by omega]
    cases N.testBit i <;> cases N.testBit (i - 32) <;> rfl
  · by_cases h' : 65 ≤ i ∧ i < 91
    · rw [fd_up _ i h'.1 h'.2, fd_up N i h'.1 h'.2, fd_lo N (i + 32) (by omega) (by omega), show i + 32 - 32 = i by omega]
      cases N.testBit i <;> cases N.testBit (i + 32) <;> rfl
    · rw [fd_no _ i h h']
theorem fd_or (N M : Nat) : fd (N ||| M) 26 = fd N 26 ||| fd M 26 := by
  apply Nat.eq_of_testBit_eq
  intro i
  rw [Nat.testBit_or]
  by_cases h : 97 ≤ i ∧ i < 123
  · rw [fd_lo _ i h.1 h.2, fd_lo N i h.1 h.2, fd_lo M i h.1 h.2, Nat.testBit_or, Nat.testBit_or]
    cases N.testBit i <;> cases N.testBit (i - 32) <;> cases M.testBit i <;> cases M.testBit (i - 32) <;> rfl
  · by_cases h' : 65 ≤ i ∧ i < 91
    · rw [fd_up _ i h'.1 h'.2, fd_up N i h'.1 h'.2, fd_up M i h'.1 h'.2, Nat.testBit_or, Nat.testBit_or]
      cases N.testBit i <;> cases N.testBit (i + 32) <;> cases M.testBit i <;> cases M.testBit (i + 32) <;> rfl
    · rw [fd_no _ i h h', fd_no _ i h h', fd_no _ i h h', Nat.testBit_or]
theorem and_fd (N : Nat) : N &&& fd N 26 = N := by
  apply Nat.eq_of_testBit_eq
  intro i
  rw [Nat.testBit_and, tb_fd N 26 i (by decide)]
  cases N.testBit i <;> simp
theorem not_not {N : Nat} (hN : N < 2 ^ 256) : notN (notN N) = N := by unfold notN; omega
theorem or_not {N M : Nat} (hN : N < 2 ^ 256) (hM : M < 2 ^ 256) : notN (notN N &&& notN M) = N ||| M := by
  apply Nat.eq_of_testBit_eq
  intro i
  rw [tb_not (and_lt _ (not_lt N)), Nat.testBit_and, tb_not hN, tb_not hM, Nat.testBit_or]
  by_cases h : i < 256
  · rw [decide_eq_true h]
    cases N.testBit i <;> cases M.testBit i <;> rfl
  · have h1 : N.testBit i = false := by
      cases e : N.testBit i
      · rfl
      · exact absurd (out_of hN e) h
    have h2 : M.testBit i = false := by
      cases e : M.testBit i
      · rfl
      · exact absurd (out_of hM e) h
    rw [decide_eq_false h, h1, h2]
    rfl
theorem and_not {N : Nat} (hN : N < 2 ^ 256) : N &&& notN N = 0 := by
  apply Nat.eq_of_testBit_eq
  intro i
  rw [Nat.testBit_and, tb_not hN]
  cases N.testBit i <;> simp
end Go.Proofs.YtdociniomegpnaaDoor.CFoldP
