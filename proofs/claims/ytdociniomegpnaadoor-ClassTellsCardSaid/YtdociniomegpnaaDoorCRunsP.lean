/- Sets: what the runs are, in plain Lean. -/
import Derived.Test.YtdociniomegpnaaDoorCPlain
namespace Go.Proofs.YtdociniomegpnaaDoor.CRunsP
open CBits CMake COps CRuns CPlain
set_option linter.unusedVariables false
set_option linter.unusedSimpArgs false
/-- all the runs together -/
def orl (L : List (Nat × Nat)) : Nat := L.foldl (fun a x => a ||| rg x.1 (x.2 + 1 - x.1)) 0
theorem orl_snoc (L : List (Nat × Nat)) (x : Nat × Nat) : orl (L ++ [x]) = orl L ||| rg x.1 (x.2 + 1 - x.1) := by
  unfold orl
  rw [List.foldl_append]
  rfl
theorem orl_take (L : List (Nat × Nat)) (k : Nat) (h : k < L.length) : orl (L.take (k + 1)) = orl (L.take k) ||| rg L[k].1 (L[k].2 + 1 - L[k].1) := by
  rw [← orl_snoc, List.take_append_getElem]
def Chain (L : List (Nat × Nat)) : Prop := L.Pairwise (fun a b => a.2 + 1 < b.1)
theorem chain_snoc {L : List (Nat × Nat)} {x : Nat × Nat} (h : Chain L) (g : ∀ y ∈ L, y.2 + 1 < x.1) : Chain (L ++ [x]) := by
  unfold Chain
  rw [List.pairwise_append]
  exact ⟨h, by simp, fun a ha b hb => by rw [List.mem_singleton] at hb; subst hb; exact g a ha⟩
structure Ok (N k : Nat) (L : List (Nat × Nat)) (f : Int) : Prop where
  rise : ∀ x ∈ L, x.1 ≤ x.2 ∧ x.2 < k ∧ (f < 0 → x.2 + 1 < k + 1) ∧ (0 ≤ f → x.2 + 1 < f)
  chain : Chain L
  gap : f < 0 → ∀ x ∈ L, x.2 + 1 < k
  low : f < k
  all : ∀ i, i < k → N.testBit i = ((orl L).testBit i || decide (0 ≤ f ∧ f ≤ i))
  none : ∀ i, k ≤ i → (orl L).testBit i = false
theorem ok_all (N k : Nat) : Ok N k (rst N k).1 (rst N k).2 := by
  induction k with
  | zero => exact ⟨by simp [rst], by simp [rst, Chain], by simp [rst], by simp [rst], by omega, by simp [rst, orl]⟩
  | succ k ih =>
    obtain ⟨r, c, g, l, a, n⟩ := ih
    rw [rst]
    generalize (rst N k).1 = L at *
    generalize (rst N k).2 = f at *
    have hn : (orl L).testBit k = false := n k (by omega)
    cases hk : N.testBit k
    · rw [if_neg (by simp)]
      by_cases hf : f < 0
      · rw [if_pos hf]
        refine ⟨fun x hx => ?_, c, fun _ x hx => ?_, by simp; omega, fun i hi => ?_, fun i hi => n i (by omega)⟩
        · have := r x hx
          exact ⟨this.1, by omega, fun _ => by omega, fun h => by simp at h⟩
        · have := r x hx; have := g hf x hx; omega
        · have e : decide (0 ≤ f ∧ f ≤ i) = false := decide_eq_false (by omega)
          by_cases h : i < k
          · rw [a i h, e]; simp
          · obtain rfl : i = k := by omega
            rw [hk, hn]; simp
      · rw [if_neg hf]
        have hfl : f.toNat < k := by omega
        refine ⟨fun x hx => ?_, chain_snoc c fun y hy => ?_, fun _ x hx => ?_, by simp; omega, fun i hi => ?_, fun i hi => ?_⟩
        · simp only [List.mem_append, List.mem_singleton] at hx
          rcases hx with hx | rfl
          · have := r x hx
            exact ⟨this.1, by omega, fun _ => by omega, fun h => by simp at h⟩
          · exact ⟨by simp only []; omega, by simp only []; omega, fun _ => by simp only []; omega, fun h => by simp at h⟩
        · have := (r y hy).2.2.2 (by omega)
          simp only []; omega
        · simp only [List.mem_append, List.mem_singleton] at hx
          rcases hx with hx | rfl
          · have := (r x hx).2.2.2 (by omega); omega
          · simp only []; omega
        · rw [orl_snoc, Nat.testBit_or, tb_rg]
          by_cases h : i < k
          · rw [a i h]
            by_cases h2 : f ≤ i
            · rw [decide_eq_true (show 0 ≤ f ∧ f ≤ i by omega), decide_eq_true (show f.toNat ≤ i ∧ i < f.toNat + (k - 1 + 1 - f.toNat) by omega)]; simp
            · rw [decide_eq_false (show ¬ (0 ≤ f ∧ f ≤ i) by omega), decide_eq_false (show ¬ (f.toNat ≤ i ∧ i < f.toNat + (k - 1 + 1 - f.toNat)) by omega)]; simp
          · obtain rfl : i = k := by omega
            rw [hk, hn, decide_eq_false (show ¬ (f.toNat ≤ i ∧ i < f.toNat + (i - 1 + 1 - f.toNat)) by omega)]; simp
        · rw [orl_snoc, Nat.testBit_or, tb_rg, n i (by omega), decide_eq_false (show ¬ (f.toNat ≤ i ∧ i < f.toNat + (k - 1 + 1 - f.toNat)) by omega)]; simp
    · rw [if_pos rfl]
      by_cases hf : f < 0
      · rw [if_pos hf]
        refine ⟨fun x hx => ?_, c, fun h => by simp at h; omega, by simp; omega, fun i hi => ?_, fun i hi => n i (by omega)⟩
        · have := r x hx; have := g hf x hx
          exact ⟨by omega, by omega, fun _ => by omega, fun h => by simp only []; omega⟩
        · have e : decide (0 ≤ f ∧ f ≤ i) = false := decide_eq_false (by omega)
          by_cases h : i < k
          · rw [a i h, e, decide_eq_false (show ¬ ((0 : Int) ≤ (k : Int) ∧ (k : Int) ≤ (i : Int)) by omega)]
          · obtain rfl : i = k := by omega
            rw [hk, hn, decide_eq_true (show ((0 : Int) ≤ (i : Int) ∧ (i : Int) ≤ (i : Int)) by omega)]; rfl
      · rw [if_neg hf]
        refine ⟨fun x hx => ?_, c, fun h => absurd h hf, by simp only []; omega, fun i hi => ?_, fun i hi => n i (by omega)⟩
        · have := r x hx
          exact ⟨this.1, by omega, fun h => absurd h hf, fun h => this.2.2.2 h⟩
        · by_cases h : i < k
          · rw [a i h]
          · obtain rfl : i = k := by omega
            rw [hk, hn, decide_eq_true (show (0 ≤ f ∧ f ≤ i) by omega)]; rfl
theorem runs_ok {N : Nat} (hN : N < 2 ^ 256) : (∀ x ∈ runs N, x.1 ≤ x.2 ∧ x.2 < 256) ∧ Chain (runs N) ∧ orl (runs N) = N := by
  obtain ⟨r, c, g, l, a, n⟩ := ok_all N 256
  have hout : ∀ i, 256 ≤ i → N.testBit i = false := fun i h => Nat.testBit_lt_two_pow (Nat.lt_of_lt_of_le hN (Nat.pow_le_pow_right (by decide) h))
  unfold runs
  generalize (rst N 256).1 = L at *
  generalize (rst N 256).2 = f at *
  by_cases hf : f < 0
  · rw [if_pos hf]
    refine ⟨fun x hx => ⟨(r x hx).1, (r x hx).2.1⟩, c, ?_⟩
    apply Nat.eq_of_testBit_eq
    intro i
    by_cases h : i < 256
    · rw [a i h, decide_eq_false (by omega)]; simp
    · rw [hout i (by omega), n i (by omega)]
  · rw [if_neg hf]
    refine ⟨fun x hx => ?_, chain_snoc c fun y hy => ?_, ?_⟩
    · simp only [List.mem_append, List.mem_singleton] at hx
      rcases hx with hx | rfl
      · exact ⟨(r x hx).1, (r x hx).2.1⟩
      · simp only []; omega
    · have := (r y hy).2.2.2 (by omega)
      simp only []; omega
    · apply Nat.eq_of_testBit_eq
      intro i
      rw [orl_snoc, Nat.testBit_or, tb_rg]
      by_cases h : i < 256
      · rw [a i h]
        by_cases h2 : f ≤ i
        · rw [decide_eq_true (show 0 ≤ f ∧ f ≤ i by omega), decide_eq_true (show f.toNat ≤ i ∧ i < f.toNat + (255 + 1 - f.toNat) by omega)]
        · rw [decide_eq_false (show ¬ (0 ≤ f ∧ f ≤ i) by omega), decide_eq_false (show ¬ (f.toNat ≤ i ∧ i < f.toNat + (255 + 1 - f.toNat)) by omega)]
      · rw [hout i (by omega), n i (by omega), decide_eq_false (show ¬ (f.toNat ≤ i ∧ i < f.toNat + (255 + 1 - f.toNat)) by omega)]; rfl
theorem chain_at {L : List (Nat × Nat)} (h : Chain L) (k : Nat) (hk : k + 1 < L.length) : L[k].2 + 1 < L[k + 1].1 :=
  List.pairwise_iff_getElem.1 h k (k + 1) (by omega) hk (by omega)
end Go.Proofs.YtdociniomegpnaaDoor.CRunsP
