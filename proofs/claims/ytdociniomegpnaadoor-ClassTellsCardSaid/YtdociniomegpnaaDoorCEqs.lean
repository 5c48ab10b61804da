/- Sets: the same? -/
import Derived.Test.YtdociniomegpnaaDoorCOps
import Derived.ChangeKeysEq
namespace Go.Proofs.YtdociniomegpnaaDoor.CEqs
open Go.RowKit CMem CBits CSet CMake COps
set_option linter.unusedVariables false
set_option linter.unusedSimpArgs false

theorem arr_run (d : Nat) (x0 x1 x2 x3 y0 y1 y2 y3 : Int) (W : World) : (Op.equalIn (d + 2) 23 (.agg #[.int .u64 x0, .int .u64 x1, .int .u64 x2, .int .u64 x3]) (.agg #[.int .u64 y0, .int .u64 y1, .int .u64 y2, .int .u64 y3])).run Tryd.prog W = .ok (x0 == y0 && (x1 == y1 && (x2 == y2 && x3 == y3))) W := by
  obtain ⟨i, hi⟩ : ∃ i, Tryd.prog.info? 22 = some i := ⟨_, rfl⟩
  have hc : Tryd.prog.cellsOf 22 = 1 := by kernel_rfl
  have he : ∀ a b W, (Op.equalIn (d + 1) 22 (.int .u64 a) (.int .u64 b)).run Tryd.prog W = .ok (a == b) W := fun a b W => run_equalIn_int W d _ .u64 .u64 a b Tryd.underlying22
  have p0 : ∀ (a b c e : Int) W, (part 22 #[.int .u64 a, .int .u64 b, .int .u64 c, .int .u64 e] (0 * 1)).run Tryd.prog W = .ok (.int .u64 a) W := fun a b c e W => by kernel_rfl
  have p1 : ∀ (a b c e : Int) W, (part 22 #[.int .u64 a, .int .u64 b, .int .u64 c, .int .u64 e] (1 * 1)).run Tryd.prog W = .ok (.int .u64 b) W := fun a b c e W => by kernel_rfl
  have p2 : ∀ (a b c e : Int) W, (part 22 #[.int .u64 a, .int .u64 b, .int .u64 c, .int .u64 e] (2 * 1)).run Tryd.prog W = .ok (.int .u64 c) W := fun a b c e W => by kernel_rfl
  have p3 : ∀ (a b c e : Int) W, (part 22 #[.int .u64 a, .int .u64 b, .int .u64 c, .int .u64 e] (3 * 1)).run Tryd.prog W = .ok (.int .u64 e) W := fun a b c e W => by kernel_rfl
  rw [run_equalIn_array W (d + 1) _ _ Tryd.underlying23 hi, hc]
  show (Op.eqItems (d + 1) 22 1 _ _ [0, 1, 2, 3]).run Tryd.prog W = _
  simp only [Op.eqItems, Sem.run_bind, p0, p1, p2, p3, Result.andThen_ok, he, Sem.run_ite, Sem.run_pure]
  cases (x0 == y0) <;> cases (x1 == y1) <;> cases (x2 == y2) <;> cases (x3 == y3) <;> rfl
theorem arr_eq (x0 x1 x2 x3 y0 y1 y2 y3 : Int) (W : World) : (binOp .eql 23 (.agg #[.int .u64 x0, .int .u64 x1, .int .u64 x2, .int .u64 x3]) (.agg #[.int .u64 y0, .int .u64 y1, .int .u64 y2, .int .u64 y3])).run Tryd.prog W = .ok (.bool (x0 == y0 && (x1 == y1 && (x2 == y2 && x3 == y3)))) W := by
  rw [run_eql_struct, arr_run 9998]
  rfl
theorem set_eq (x0 x1 x2 x3 y0 y1 y2 y3 : Int) (W : World) : (binOp .eql 25 (.agg #[.int .u64 x0, .int .u64 x1, .int .u64 x2, .int .u64 x3]) (.agg #[.int .u64 y0, .int .u64 y1, .int .u64 y2, .int .u64 y3])).run Tryd.prog W = .ok (.bool (x0 == y0 && (x1 == y1 && (x2 == y2 && x3 == y3)))) W := by
  have hu := Tryd.underlying25
  have h1 := arr_run 9997 x0 x1 x2 x3 y0 y1 y2 y3
  go_simp
  by_cases a0 : x0 = y0
  · by_cases a1 : x1 = y1
    · by_cases a2 : x2 = y2
      · by_cases a3 : x3 = y3
        · simp [a0, a1, a2, a3]
        · simp [a0, a1, a2, a3]
      · simp [a0, a1, a2]
    · simp [a0, a1]
  · simp [a0]
theorem words_same {N M : Nat} (hN : N < 2 ^ 256) (hM : M < 2 ^ 256) : (((wd N 0 : Nat) : Int) == (wd M 0 : Nat) && (((wd N 1 : Nat) : Int) == (wd M 1 : Nat) && (((wd N 2 : Nat) : Int) == (wd M 2 : Nat) && ((wd N 3 : Nat) : Int) == (wd M 3 : Nat)))) = decide (N = M) := by
  by_cases h : N = M
  · subst h; simp
  · rw [decide_eq_false h]
    by_cases a0 : wd N 0 = wd M 0
    · by_cases a1 : wd N 1 = wd M 1
      · by_cases a2 : wd N 2 = wd M 2
        · by_cases a3 : wd N 3 = wd M 3
          · exfalso
            apply h
            apply ext_wd hN hM
            intro j hj
            have hc : j = 0 ∨ j = 1 ∨ j = 2 ∨ j = 3 := by omega
            rcases hc with rfl | rfl | rfl | rfl <;> assumption
          · have : ((wd N 3 : Nat) : Int) ≠ (wd M 3 : Nat) := by omega
            simp [this]
        · have : ((wd N 2 : Nat) : Int) ≠ (wd M 2 : Nat) := by omega
          simp [this]
      · have : ((wd N 1 : Nat) : Int) ≠ (wd M 1 : Nat) := by omega
        simp [this]
    · have : ((wd N 0 : Nat) : Int) ≠ (wd M 0 : Nat) := by omega
      simp [this]
theorem sets_same {N M : Nat} (hN : N < 2 ^ 256) (hM : M < 2 ^ 256) (W : World) : (binOp .eql 25 (.agg (sc N)) (.agg (sc M))).run Tryd.prog W = .ok (.bool (decide (N = M))) W := by
  unfold sc
  rw [set_eq, words_same hN hM]
theorem words_eql {N M : Nat} (hN : N < 2 ^ 256) (hM : M < 2 ^ 256) (W : World) : (binOp .eql 23 (.agg (sc N)) (.agg (sc M))).run Tryd.prog W = .ok (.bool (decide (N = M))) W := by
  unfold sc
  rw [arr_eq, words_same hN hM]
end Go.Proofs.YtdociniomegpnaaDoor.CEqs
