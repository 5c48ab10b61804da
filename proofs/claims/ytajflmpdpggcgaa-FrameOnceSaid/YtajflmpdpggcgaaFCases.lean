/- What Put answers, in four cases. -/
import Derived.Test.YtajflmpdpggcgaaFMath
namespace Go.Proofs.Ytajflmpdpggcgaa.FMath

set_option linter.unusedVariables false
theorem put_cases (most : Int) (T : List Fr) (a : Fr) (g : Good T) (hr : (T.length : Int) ≤ most) :
    (bad T a ∧ put most T a = (0, 1, T)) ∨ (∃ j, ∃ h : j < T.length, T[j] = a ∧ ¬ bad T a ∧ put most T a = ((j : Int) + 1, 0, T)) ∨
    (a ∉ T ∧ ¬ bad T a ∧ (T.length : Int) = most ∧ put most T a = (0, 4, T)) ∨ (a ∉ T ∧ ¬ bad T a ∧ (T.length : Int) < most ∧ put most T a = ((T.length : Int) + 1, 0, T ++ [a])) := by
  unfold put
  by_cases hb : bad T a
  · exact .inl ⟨hb, if_pos hb⟩
  · rw [if_neg hb]
    by_cases hm : a ∈ T
    · rw [if_pos hm]
      have hl := List.idxOf_lt_length_of_mem hm
      exact .inr (.inl ⟨T.idxOf a, hl, List.getElem_idxOf hl, hb, rfl⟩)
    · rw [if_neg hm]
      by_cases hf : most ≤ T.length
      · rw [if_pos hf]
        exact .inr (.inr (.inl ⟨hm, hb, by omega, rfl⟩))
      · rw [if_neg hf]
        exact .inr (.inr (.inr ⟨hm, hb, by omega, rfl⟩))
theorem get_at (T : List Fr) (j : Nat) (h : j < T.length) : FMath.get T ((j : Int) + 1) = (T[j], true) := by
  unfold FMath.get
  rw [if_pos (by omega), show ((j : Int) + 1).toNat = j + 1 by omega, List.getD_cons_succ, List.getD_eq_getElem?_getD, List.getElem?_eq_getElem h]
  rfl
theorem get_zero (T : List Fr) : FMath.get T 0 = (zero, true) := by
  unfold FMath.get
  rw [if_pos (by omega)]
  rfl
theorem get_last (T : List Fr) (a : Fr) : FMath.get (T ++ [a]) ((T.length : Int) + 1) = (a, true) := by
  rw [get_at _ T.length (by simp)]
  simp
end Go.Proofs.Ytajflmpdpggcgaa.FMath
