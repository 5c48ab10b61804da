/- Go functions as Lean functions, each with the proof that its call answers just so; written by wip/tools/myprint.py. -/
import Derived.Test.YtaaihcojedibeaaGreatDoorQ0
namespace Go.Proofs.YtaaihcojedibeaaGreatDoor.Q
set_option maxRecDepth 100000
open Go.RowKit Go.Proofs.YtaaihcojedibeaaGreatDoorW.PrintWords Go.Proofs.YtaaihcojedibeaaGreatDoorW.PrintLast Go.Proofs.YtaaihcojedibeaaGreatDoorW.PrintMore
attribute [local go_sem] max2_int min2_int max_two min_two max_three min_three max_four min_four   -- for this text's walks alone
set_option linter.unusedVariables false
set_option linter.unusedSimpArgs false

theorem eqA26 (d : Nat) (w : World) (x0 y0 : Int) (x1 y1 : Int) (x2 y2 : Int) (x3 y3 : Int) :
    (Op.equalIn (d + 2) 26 (.agg #[.int .u64 x0, .int .u64 x1, .int .u64 x2, .int .u64 x3]) (.agg #[.int .u64 y0, .int .u64 y1, .int .u64 y2, .int .u64 y3])).run Tryz.prog w = .ok (x0 == y0 && (x1 == y1 && (x2 == y2 && (x3 == y3)))) w := by
  obtain ⟨i, hi⟩ : ∃ i, Tryz.prog.info? 25 = some i := ⟨_, rfl⟩
  have hc : Tryz.prog.cellsOf 25 = 1 := by kernel_rfl
  have he : ∀ a b W, (Op.equalIn (d + 1) 25 (.int .u64 a) (.int .u64 b)).run Tryz.prog W = .ok (a == b) W := fun a b W => run_equalIn_int W d _ .u64 .u64 a b Tryz.underlying25
  have p0 : ∀ (a b c e : Int) W, (part 25 #[.int .u64 a, .int .u64 b, .int .u64 c, .int .u64 e] (0 * 1)).run Tryz.prog W = .ok (.int .u64 a) W := fun a b c e W => by kernel_rfl
  have p1 : ∀ (a b c e : Int) W, (part 25 #[.int .u64 a, .int .u64 b, .int .u64 c, .int .u64 e] (1 * 1)).run Tryz.prog W = .ok (.int .u64 b) W := fun a b c e W => by kernel_rfl
  have p2 : ∀ (a b c e : Int) W, (part 25 #[.int .u64 a, .int .u64 b, .int .u64 c, .int .u64 e] (2 * 1)).run Tryz.prog W = .ok (.int .u64 c) W := fun a b c e W => by kernel_rfl
  have p3 : ∀ (a b c e : Int) W, (part 25 #[.int .u64 a, .int .u64 b, .int .u64 c, .int .u64 e] (3 * 1)).run Tryz.prog W = .ok (.int .u64 e) W := fun a b c e W => by kernel_rfl
  rw [run_equalIn_array w (d + 1) _ _ Tryz.underlying26 hi, hc]
  show (Op.eqItems (d + 1) 25 1 _ _ [0, 1, 2, 3]).run Tryz.prog w = _
  simp only [Op.eqItems, Sem.run_bind, p0, p1, p2, p3, Result.andThen_ok, he, Sem.run_ite, Sem.run_pure]
  cases (x0 == y0) <;> cases (x1 == y1) <;> cases (x2 == y2) <;> cases (x3 == y3) <;> rfl
theorem eqA28 (d : Nat) (w : World) (x0 y0 : Int) (x1 y1 : Int) (x2 y2 : Int) (x3 y3 : Int) :
    (Op.equalIn (d + 3) 28 (.agg #[.int .u64 x0, .int .u64 x1, .int .u64 x2, .int .u64 x3]) (.agg #[.int .u64 y0, .int .u64 y1, .int .u64 y2, .int .u64 y3])).run Tryz.prog w = .ok ((x0 == y0 && (x1 == y1 && (x2 == y2 && (x3 == y3))))) w := by
  refine eqA_of Tryz.underlying28 (by kernel_rfl) ?_
  exact eqf_last (by rfl) (by go_simp) (by go_simp) (eqA26 (d + 0) w _ _ _ _ _ _ _ _)
theorem eqA49 (d : Nat) (w : World) (x0 y0 : Int) (x1 y1 : Int) (x2 y2 : Int) (x3 y3 : Int) (x4 y4 : Int) (x5 y5 : Int) (x6 y6 : Int) (x7 y7 : Int) (x8 y8 : Int) (x9 y9 : Int) (x10 y10 : Int) (x11 y11 : Bool) :
    (Op.equalIn (d + 4) 49 (.agg #[.int .i64 x0, .int .i64 x1, .int .i64 x2, .int .u64 x3, .int .u64 x4, .int .u64 x5, .int .u64 x6, .int .i64 x7, .int .i64 x8, .int .i64 x9, .int .i64 x10, .bool x11]) (.agg #[.int .i64 y0, .int .i64 y1, .int .i64 y2, .int .u64 y3, .int .u64 y4, .int .u64 y5, .int .u64 y6, .int .i64 y7, .int .i64 y8, .int .i64 y9, .int .i64 y10, .bool y11])).run Tryz.prog w = .ok (x0 == y0 && (x1 == y1 && (x2 == y2 && (((x3 == y3 && (x4 == y4 && (x5 == y5 && (x6 == y6))))) && (x7 == y7 && (x8 == y8 && (x9 == y9 && (x10 == y10 && (x11 == y11))))))))) w := by
  refine eqA_of Tryz.underlying49 (by kernel_rfl) ?_
  refine eqf_cons (by rfl) (by go_simp; rfl) (by go_simp; rfl) (by go_simp) ?_
  refine eqf_cons (by rfl) (by go_simp; rfl) (by go_simp; rfl) (by go_simp) ?_
  refine eqf_cons (by rfl) (by go_simp; rfl) (by go_simp; rfl) (by go_simp) ?_
  refine eqf_cons (by rfl) (by go_simp) (by go_simp) (eqA28 (d + 0) w _ _ _ _ _ _ _ _) ?_
  refine eqf_cons (by rfl) (by go_simp; rfl) (by go_simp; rfl) (by go_simp) ?_
  refine eqf_cons (by rfl) (by go_simp; rfl) (by go_simp; rfl) (by go_simp) ?_
  refine eqf_cons (by rfl) (by go_simp; rfl) (by go_simp; rfl) (by go_simp) ?_
  refine eqf_cons (by rfl) (by go_simp; rfl) (by go_simp; rfl) (by go_simp) ?_
  exact eqf_last (by rfl) (by go_simp; rfl) (by go_simp; rfl) (by go_simp)
end Go.Proofs.YtaaihcojedibeaaGreatDoor.Q
