/- Twice a whole number, and half of that. -/
import Derived.Test.YtijnncnglkjpgaaKOrd
namespace Go.Proofs.Ytijnncnglkjpgaa.KEnds
open Ieee KFlt KKind KRight KLeast KScale KMeter KStep KOrd
set_option linter.unusedVariables false

theorem read_word (E m : Nat) (h0 : 4503599627370496 ≤ m) (h1 : m < 9007199254740992) (hE : E ≤ 2000) : double.read (E * 4503599627370496 + m) = .number false m (-1074 + (E : Int)) := by
  have hlt : E * 4503599627370496 ≤ 2000 * 4503599627370496 := Nat.mul_le_mul_right _ hE
  rw [show 2000 * 4503599627370496 = 9007199254740992000 from rfl] at hlt
  have hq : (E * 4503599627370496 + m) / 4503599627370496 = E + 1 := by omega
  have hr : (E * 4503599627370496 + m) % 4503599627370496 = m - 4503599627370496 := by omega
  obtain ⟨W, hW⟩ : ∃ W, E * 4503599627370496 + m = W := ⟨_, rfl⟩
  rw [hW] at hq hr ⊢
  have hWl : W < 9218868437227405312 := by omega
  have hrung : rung W = W := by unfold rung; omega
  have hneg : neg W = false := by unfold neg; rw [show W / 9223372036854775808 = 0 by omega]; rfl
  have hmg : mg W = m := by unfold mg; rw [if_neg (by omega), hr]; omega
  have hsh : sh W = E := by unfold sh; rw [if_neg (by omega), hq]; omega
  rw [read_num W (by rw [hrung]; exact hWl), hrung, hneg, hmg, hsh]
theorem log_of {n k : Nat} (h0 : 2 ^ k ≤ n) (h1 : n < 2 ^ (k + 1)) : n.log2 = k := by
  have hn : n ≠ 0 := by have := Nat.two_pow_pos k; omega
  have a := log_lo hn
  have b := log_hi n
  rcases Nat.lt_trichotomy n.log2 k with h | h | h
  · have : 2 ^ (n.log2 + 1) ≤ 2 ^ k := Nat.pow_le_pow_right (by decide) h
    omega
  · exact h
  · have : 2 ^ (k + 1) ≤ 2 ^ n.log2 := Nat.pow_le_pow_right (by decide) h
    omega
theorem near (E m : Nat) (h0 : 4503599627370496 ≤ m) (h1 : m < 9007199254740992) (hE : E ≤ 2000) : double.nearest false (m * 4503599627370496) ((E : Int) - 1126) = E * 4503599627370496 + m := by
  have hb : double.binade = 4503599627370496 := by decide
  have hi : double.infRung = inf := by decide
  have hl : double.leastPlace = -1074 := by decide
  have hf : double.fractionBits = 52 := rfl
  have hlog : (m * 4503599627370496).log2 = 104 := by
    apply log_of
    · rw [show (2 : Nat) ^ 104 = 4503599627370496 * 4503599627370496 by decide]
      exact Nat.mul_le_mul_right _ h0
    · rw [show (2 : Nat) ^ (104 + 1) = 9007199254740992 * 4503599627370496 by decide]
      exact Nat.mul_lt_mul_of_pos_right h1 (by decide)
  unfold Format.nearest
  rw [if_neg (by omega)]
  simp only [hb, hi, hl, hf, hlog, Format.word, Bool.false_eq_true, if_false]
  have hmax : max ((E : Int) - 1126 + (104 : Nat) - (52 : Nat)) (-1074) = (E : Int) - 1074 := by omega
  rw [hmax]
  have hk : Toward.even.cut false ((m * 4503599627370496) <<< (((E : Int) - 1126) - ((E : Int) - 1074)).toNat) (((E : Int) - 1074) - ((E : Int) - 1126)).toNat = m := by
    rw [show (((E : Int) - 1126) - ((E : Int) - 1074)).toNat = 0 by omega, show (((E : Int) - 1074) - ((E : Int) - 1126)).toNat = 52 by omega, Nat.shiftLeft_zero]
    unfold Toward.cut
    rw [hlog, show min 52 (104 + 2) = 52 by decide, show (1 <<< 52 : Nat) = 4503599627370496 by decide]
    simp
  rw [hk, show ((E : Int) - 1074 - -1074).toNat = E by omega]
  have hlt : E * 4503599627370496 ≤ 2000 * 4503599627370496 := Nat.mul_le_mul_right _ hE
  rw [show 2000 * 4503599627370496 = 9007199254740992000 from rfl] at hlt
  have fin : ∀ u v : Nat, u ≤ 9007199254740992000 → v < 9007199254740992 → u + v ≤ 9218868437227405312 := fun u v a b => by omega
  exact Nat.min_eq_left (fin _ _ hlt h1)
theorem twice (E m : Nat) (h0 : 4503599627370496 ≤ m) (h1 : m < 9007199254740992) (hE : E ≤ 1999) : mulF (E * 4503599627370496 + m) 4611686018427387904 = some ((E + 1) * 4503599627370496 + m) := by
  show ((double.read _).product (double.read 4611686018427387904)).map double.write = _
  rw [read_word E m h0 h1 (by omega), show double.read 4611686018427387904 = .number false 4503599627370496 (-51) by decide]
  simp only [Datum.product, Option.map_some]
  congr 1
  show double.nearest (false ^^ false) _ _ = _
  rw [show (false ^^ false) = false by rfl, show (-1074 + (E : Int) + -51) = ((E + 1 : Nat) : Int) - 1126 by omega]
  exact near (E + 1) m h0 h1 (by omega)
theorem halve (E m : Nat) (h0 : 4503599627370496 ≤ m) (h1 : m < 9007199254740992) (hE : E ≤ 1999) : mulF ((E + 1) * 4503599627370496 + m) 4602678819172646912 = some (E * 4503599627370496 + m) := by
  show ((double.read _).product (double.read 4602678819172646912)).map double.write = _
  rw [read_word (E + 1) m h0 h1 (by omega), show double.read 4602678819172646912 = .number false 4503599627370496 (-53) by decide]
  simp only [Datum.product, Option.map_some]
  congr 1
  show double.nearest (false ^^ false) _ _ = _
  rw [show (false ^^ false) = false by rfl, show (-1074 + ((E + 1 : Nat) : Int) + -53) = (E : Int) - 1126 by omega]
  exact near E m h0 h1 (by omega)
/-- a number below 2^52 is its float, and twice it too -/
theorem both (n : Nat) (h : n < 4294967296) : ∃ d, mulF (rn n) 4611686018427387904 = some d ∧ mulF d 4602678819172646912 = some (rn n) ∧ d < 9218868437227405312 := by
  by_cases h0 : n = 0
  · subst h0
    exact ⟨0, by kernel_rfl, by kernel_rfl, by decide⟩
  · have k0 := kp_lo h0
    have hlog : n.log2 ≤ 32 := by
      have h1 := log_lo h0
      rcases Nat.lt_or_ge 32 n.log2 with hg | hg
      · have : 2 ^ 33 ≤ 2 ^ n.log2 := Nat.pow_le_pow_right (by decide) hg
        have e : (2 : Nat) ^ 33 = 8589934592 := by decide
        omega
      · exact hg
    have k1 : kp n < 9007199254740992 := by
      unfold kp
      rw [if_pos (by omega)]
      calc n * 2 ^ (52 - n.log2) < 2 ^ (n.log2 + 1) * 2 ^ (52 - n.log2) := Nat.mul_lt_mul_of_pos_right (log_hi n) (Nat.two_pow_pos _)
        _ = 9007199254740992 := by rw [← Nat.pow_add, show n.log2 + 1 + (52 - n.log2) = 53 by omega]
    unfold rn
    rw [if_neg h0]
    refine ⟨_, twice (n.log2 + 1022) (kp n) k0 k1 (by omega), halve (n.log2 + 1022) (kp n) k0 k1 (by omega), ?_⟩
    have hlt : (n.log2 + 1022 + 1) * 4503599627370496 ≤ 1055 * 4503599627370496 := Nat.mul_le_mul_right _ (by omega)
    rw [show 1055 * 4503599627370496 = 4751297606875873280 from rfl] at hlt
    have fin : ∀ u v : Nat, u ≤ 4751297606875873280 → v < 9007199254740992 → u + v < 9218868437227405312 := fun u v a b => by omega
    exact fin _ _ hlt k1
theorem kd_up {x : Nat} (h : x < 9218868437227405312) : 3 ≤ kd x := by
  have hr : rung x = x := by unfold rung; omega
  have hn : neg x = false := by unfold neg; rw [show x / 9223372036854775808 = 0 by omega]; rfl
  unfold kd nan inf
  rw [hr, hn]
  simp only [show ¬ (9218868437227405312 < x) by omega, show ¬ (x = 9218868437227405312) by omega, decide_false, Bool.false_eq_true, if_false]
  split <;> decide
theorem right_up {a b : Nat} (ha : a < 9218868437227405312) (hb : b < 9218868437227405312) : rightB a b = true := by
  unfold rightB
  simp [kd_up ha, kd_up hb]
theorem rn_lt (n : Nat) (h : n < 4294967296) : rn n < 9218868437227405312 := by
  have := rn_le n (by omega)
  omega
theorem scale_both (x n : Nat) (hx : x < 4294967296) (hn : n < 4294967296) : ∃ d e, scaleF (rn x) (rn n) 4611686018427387904 = (d, e, 0) ∧ scaleF d e 4602678819172646912 = (rn x, rn n, 0) ∧ d < 9218868437227405312 ∧ e < 9218868437227405312 := by
  obtain ⟨d, h1, h2, h3⟩ := both x hx
  obtain ⟨e, g1, g2, g3⟩ := both n hn
  have r1 := right_up (rn_lt x hx) (rn_lt n hn)
  have r2 := right_up h3 g3
  refine ⟨d, e, ?_, ?_, h3, g3⟩
  · unfold scaleF
    rw [h1, g1]
    simp [r1, r2]
  · unfold scaleF
    rw [h2, g2]
    simp [r1, r2]
theorem le_inf {n : Int} (h0 : 0 ≤ n) (h1 : n ≤ 4611686018427387904) : leB (floatOfInt .f64 n) 9218868437227405312 = true := by
  rw [le_int h0 h1 (by decide)]
  have hk : key 9218868437227405312 = 9218868437227405312 := by decide
  have := rn_le n.toNat (by omega)
  rw [hk]
  simp
  omega
theorem rn_one : rn 1 = 4607182418800017408 := by kernel_rfl
theorem not_le_zero {n : Int} (h0 : 1 ≤ n) (h1 : n ≤ 4611686018427387904) {y : Nat} (hy : nan y = false) (hk : key y = 0) : leB (floatOfInt .f64 n) y = false := by
  rw [le_int (by omega) h1 hy, hk]
  have := rn_mono (show 1 ≤ n.toNat by omega)
  rw [rn_one] at this
  simp
  omega
end Go.Proofs.Ytijnncnglkjpgaa.KEnds
