/- Sets of bytes as numbers: plain. -/
import Derived.ProofKit
import Derived.Lib.BitFns
namespace Go.Proofs.YtdociniomegpnaaDoor.CBits
def wd (N j : Nat) : Nat := N / 2 ^ (64 * j) % 2 ^ 64
theorem tb_wd (N j i : Nat) : (wd N j).testBit i = (decide (i < 64) && N.testBit (64 * j + i)) := by
  unfold wd
  rw [Nat.testBit_mod_two_pow, Nat.testBit_div_two_pow, Nat.add_comm]
theorem wd_lt (N j : Nat) : wd N j < 2 ^ 64 := Nat.mod_lt _ (by decide)
theorem ext_wd {N M : Nat} (hN : N < 2 ^ 256) (hM : M < 2 ^ 256) (h : ∀ j, j < 4 → wd N j = wd M j) : N = M := by
  apply Nat.eq_of_testBit_eq
  intro i
  by_cases hi : i < 256
  · have h1 := tb_wd N (i / 64) (i % 64)
    have h2 := tb_wd M (i / 64) (i % 64)
    rw [h (i / 64) (by omega)] at h1
    rw [show 64 * (i / 64) + i % 64 = i by omega] at h1 h2
    simp [show i % 64 < 64 by omega] at h1 h2
    rw [← h1, ← h2]
  · have hp : 2 ^ 256 ≤ 2 ^ i := Nat.pow_le_pow_right (by decide) (by omega)
    rw [Nat.testBit_lt_two_pow (by omega), Nat.testBit_lt_two_pow (by omega)]
theorem wd_or (N M j : Nat) : wd (N ||| M) j = wd N j ||| wd M j := by
  apply Nat.eq_of_testBit_eq
  intro i
  rw [Nat.testBit_or, tb_wd, tb_wd, tb_wd, Nat.testBit_or]
  cases decide (i < 64) <;> simp
theorem wd_and (N M j : Nat) : wd (N &&& M) j = wd N j &&& wd M j := by
  apply Nat.eq_of_testBit_eq
  intro i
  rw [Nat.testBit_and, tb_wd, tb_wd, tb_wd, Nat.testBit_and]
  cases decide (i < 64) <;> simp
/-- what is not in -/
def notN (N : Nat) : Nat := 2 ^ 256 - 1 - N
theorem tb_not {N : Nat} (hN : N < 2 ^ 256) (i : Nat) : (notN N).testBit i = (decide (i < 256) && !N.testBit i) := by
  unfold notN
  rw [show 2 ^ 256 - 1 - N = 2 ^ 256 - (N + 1) by omega, Nat.testBit_two_pow_sub_succ hN]
theorem wd_not {N : Nat} (hN : N < 2 ^ 256) (j : Nat) (hj : j < 4) : wd (notN N) j = 2 ^ 64 - 1 - wd N j := by
  apply Nat.eq_of_testBit_eq
  intro i
  rw [tb_wd, tb_not hN, show 2 ^ 64 - 1 - wd N j = 2 ^ 64 - (wd N j + 1) by omega, Nat.testBit_two_pow_sub_succ (wd_lt N j), tb_wd]
  by_cases h : i < 64
  · simp [h, show 64 * j + i < 256 by omega]
  · simp [h]
theorem not_lt (N : Nat) : notN N < 2 ^ 256 := by unfold notN; omega
theorem or_lt {N M : Nat} (h : N < 2 ^ 256) (g : M < 2 ^ 256) : N ||| M < 2 ^ 256 := Nat.or_lt_two_pow h g
theorem and_lt {N : Nat} (M : Nat) (h : N < 2 ^ 256) : N &&& M < 2 ^ 256 := Nat.lt_of_le_of_lt Nat.and_le_left h
/-- how many -/
def cnt (N n : Nat) : Nat := (List.range n).countP fun i => N.testBit i
theorem pop_cnt (f x : Nat) : Go.Lib.popAux f x = cnt x f := by
  induction f generalizing x with
  | zero => rfl
  | succ f ih =>
    unfold Go.Lib.popAux cnt
    rw [ih, List.range_succ_eq_map, List.countP_cons, List.countP_map, Nat.add_comm]
    congr 1
    · unfold cnt
      congr 1
      funext i
      simp [Nat.testBit_succ]
    · rw [Nat.testBit_zero]
      by_cases h : x % 2 = 1
      · simp [h]
      · simp [h]; omega
theorem cnt_wd (N j : Nat) : Go.Lib.onesCount (wd N j) = (List.range 64).countP fun i => N.testBit (64 * j + i) := by
  unfold Go.Lib.onesCount
  rw [pop_cnt]
  unfold cnt
  apply List.countP_congr
  intro i hi
  simp at hi
  rw [tb_wd]
  simp [hi]
theorem cnt_words (N : Nat) : Go.Lib.onesCount (wd N 0) + Go.Lib.onesCount (wd N 1) + Go.Lib.onesCount (wd N 2) + Go.Lib.onesCount (wd N 3) = cnt N 256 := by
  rw [cnt_wd, cnt_wd, cnt_wd, cnt_wd]
  unfold cnt
  have e : List.range 256 = List.range 64 ++ (List.range 64).map (64 + ·) ++ (List.range 64).map (128 + ·) ++ (List.range 64).map (192 + ·) := by decide +kernel
  rw [e]
  simp only [List.countP_append, List.countP_map, Function.comp_def]
  simp
end Go.Proofs.YtdociniomegpnaaDoor.CBits
