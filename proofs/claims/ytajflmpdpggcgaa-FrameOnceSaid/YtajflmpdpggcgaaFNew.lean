/- A new store. -/
import Derived.Test.YtajflmpdpggcgaaFRep
import Derived.WalkKit
import Derived.WalkLawsBesides
import Derived.WalkSpells
namespace Go.Proofs.Ytajflmpdpggcgaa.FNew
open Go.RowKit FMath FKey FRep Go.Proofs.YtajflmpdpggcgaaW.PrintWords Go.Proofs.YtajflmpdpggcgaaW.PrintLast Go.Proofs.YtajflmpdpggcgaaW.PrintMore

theorem new_no (w : World) (most : Int) (h : most < 0 ∨ 1048576 < most) :
    Calls Try.prog 8 #[.int .i64 most] w fun e w' => e = .returned (.tuple #[.pointer none, .int .i64 1]) ∧ w' = w := by
  by_cases h0 : most < 0
  all_goals
    go_enter Try.func8, Try.ntmps8
    go_wp2
    go_ret2
    exact ⟨rfl, rfl⟩
theorem new_has (w : World) (most : Int) (h0 : 0 ≤ most) (h1 : most ≤ 1048576) :
    SHas ((((w.alloc (.cells #[.int .i64 0, .int .i64 0, .int .i64 0, .int .i64 0, .int .i64 0] 33)).alloc (.cells #[.int .i64 0] 3)).alloc (.map #[] 0)).alloc
      (.cells #[.slice (some ⟨w.heap.size, 0, none⟩) 1 1, .slice (some ⟨w.heap.size + 1, 0, none⟩) 1 1, .map (some (w.heap.size + 1 + 1)), .int .i64 most] 56))
      (w.heap.size + 1 + 1 + 1) w.heap.size (w.heap.size + 1) (w.heap.size + 1 + 1) 1 1 [] most := by
  have hp : ∀ (W : World) (o : Obj), (W.alloc o).heap = W.heap.push o := fun _ _ => rfl
  refine ⟨?_, ?_, ?_, ⟨#[], 0, ?_, rfl⟩, by omega, by omega, by omega, by omega, by omega, by omega, Good.nil, by simpa using h0, h1⟩
  · simp only [hp, Array.getElem?_push]
    simp
  · refine ⟨rfl, .inr ⟨w.heap.size, 1, #[.int .i64 0, .int .i64 0, .int .i64 0, .int .i64 0, .int .i64 0], rfl, Nat.zero_le _, ?_, by simp, by decide, rfl, rfl⟩⟩
    simp only [hp, Array.getElem?_push]
    simp
    rw [if_neg (by omega), if_neg (by omega)]
  · refine ⟨rfl, .inr ⟨w.heap.size + 1, 1, #[.int .i64 0], rfl, Nat.zero_le _, ?_, by simp, by decide, rfl, rfl⟩⟩
    simp only [hp, Array.getElem?_push]
    simp
  · simp only [hp, Array.getElem?_push]
    simp
theorem new_yes (w : World) (most : Int) (h0 : 0 ≤ most) (h1 : most ≤ 1048576) :
    Calls Try.prog 8 #[.int .i64 most] w fun e w' => ∃ s bl bd m cl cd, e = .returned (.tuple #[.pointer (some ⟨s, 0, none⟩), .int .i64 0]) ∧ SHas w' s bl bd m cl cd [] most ∧ Below w.heap.size w w' ∧ w.heap.size ≤ s ∧ w.heap.size ≤ bl ∧ w.heap.size ≤ bd ∧ w.heap.size ≤ m := by
  have hmm := @run_makeMap Try.prog
  go_enter Try.func8, Try.ntmps8
  go_wp2
  go_ret2
  exact ⟨_, _, _, _, _, _, rfl, new_has w most h0 h1, (((((Below.refl _ _).alloc (Nat.le_refl _) _).alloc (by simp) _).alloc (by simp; omega) _).alloc (by simp; omega) _), by omega, by omega, by omega, by omega⟩
end Go.Proofs.Ytajflmpdpggcgaa.FNew
