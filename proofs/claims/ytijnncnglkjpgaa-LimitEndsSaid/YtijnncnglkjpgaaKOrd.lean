/- Numbers as floats: what is at most what. -/
import Derived.Test.YtijnncnglkjpgaaKArg
namespace Go.Proofs.Ytijnncnglkjpgaa.KOrd
open Go.RowKit KFlt KKind KRight KLeast KScale KMeter KStep
set_option linter.unusedVariables false

theorem le_key {x y : Nat} (hx : nan x = false) (hy : nan y = false) : leB x y = decide (key x ≤ key y) := by
  unfold leB
  rw [f_lt hx hy, f_eq hx hy]
  by_cases h : key x < key y
  · simp [h]; omega
  · simp [h]; omega
theorem ls_key {x y : Nat} (hx : nan x = false) (hy : nan y = false) : lsB x y = decide (key x < key y) := by
  unfold lsB
  exact f_lt hx hy
theorem le_nan {x y : Nat} (h : nan x = true ∨ nan y = true) : leB x y = false := by
  unfold leB
  rw [f_none h]
  rfl
theorem ls_nan {x y : Nat} (h : nan x = true ∨ nan y = true) : lsB x y = false := by
  unfold lsB
  rw [f_none h]
  rfl
theorem kd3_nan {x : Nat} (h : 3 ≤ kd x) : nan x = false := by
  unfold kd at h
  cases hn : nan x
  · rfl
  · rw [hn] at h; simp at h
theorem right_parts {s r : Nat} (h : rightB s r = true) : nan s = false ∧ nan r = false ∧ 3 ≤ kd s ∧ 3 ≤ kd r := by
  unfold rightB at h
  simp at h
  exact ⟨kd3_nan h.1, kd3_nan h.2, h.1, h.2⟩
/-- the number of a whole number -/
theorem int_key {n : Int} (h0 : 0 ≤ n) (h1 : n ≤ 4611686018427387904) : nan (floatOfInt .f64 n) = false ∧ key (floatOfInt .f64 n) = (rn n.toNat : Int) := by
  obtain ⟨k, rfl⟩ := Int.eq_ofNat_of_zero_le h0
  rw [fl_eq k (by omega)]
  have := key_rn k (by omega)
  exact ⟨this.2.1, by simpa using this.1⟩
theorem le_int {n : Int} {y : Nat} (h0 : 0 ≤ n) (h1 : n ≤ 4611686018427387904) (hy : nan y = false) : leB (floatOfInt .f64 n) y = decide ((rn n.toNat : Int) ≤ key y) := by
  have h := int_key h0 h1
  rw [le_key h.1 hy, h.2]
theorem le_100 {n : Int} (h0 : 0 ≤ n) (h1 : n ≤ 4611686018427387904) : leB (floatOfInt .f64 n) 4636737291354636288 = decide (n ≤ 100) := by
  rw [le_int h0 h1 (by decide)]
  have hk : key 4636737291354636288 = 4636737291354636288 := by decide
  have r0 : rn 100 = 4636737291354636288 := by kernel_rfl
  have r1 : rn 101 = 4636807660098813952 := by kernel_rfl
  rw [hk]
  by_cases h : n ≤ 100
  · have := rn_mono (show n.toNat ≤ 100 by omega)
    rw [r0] at this
    simp [h]
    omega
  · have := rn_mono (show 101 ≤ n.toNat by omega)
    rw [r1] at this
    simp [h]
    omega
end Go.Proofs.Ytijnncnglkjpgaa.KOrd
