/- A frame is put: what is no frame, what is there already, where there is no room. -/
import Derived.Test.YtajflmpdpggcgaaFGet
import Derived.Tactics
import Derived.Tactics2
import Derived.StillTactics
import Derived.OwnWalk
import Derived.Laws.Pointers
import Derived.Deep.RegionHeld3
import Derived.Deep.AppendLies
import Derived.KernelRfl
namespace Go.Proofs.Ytajflmpdpggcgaa.FPut
open Go.RowKit FMath FKey FRep FGet Go.Proofs.YtajflmpdpggcgaaW.PrintWords Go.Proofs.YtajflmpdpggcgaaW.PrintLast Go.Proofs.YtajflmpdpggcgaaW.PrintMore

set_option linter.unusedVariables false
set_option linter.unusedSimpArgs false
set_option maxHeartbeats 1600000 in
attribute [local go_sem] max2_int min2_int max_two min_two max_three min_three max_four min_four in
theorem bad_walk (w : World) (s : Nat) (k n t f x : Int) (B : Bool)
    (hc : ∀ W, Below w.heap.size w W → Calls Try.prog 19 #[.pointer (some ⟨s, 0, none⟩), .int .i64 x] W fun e w' => e = .returned (.bool B) ∧ w' = W)
    (hb : k < 1 ∨ 3 < k ∨ n < 0 ∨ t < 0 ∨ f < 0 ∨ B = false) :
    Calls Try.prog 10 #[.pointer (some ⟨s, 0, none⟩), .agg #[.int .i64 k, .int .i64 n, .int .i64 t, .int .i64 f, .int .i64 x]] w fun e w' => e = .returned (.tuple #[.int .i64 0, .int .i64 1]) ∧ Below w.heap.size w w' := by
  have HC := Lib.hid hc
  clear hc
  by_cases h1 : k < 1
  · clear hb
    go_enter Try.func10, Try.ntmps10
    go_wp2
    all_goals go_ret2
    all_goals exact ⟨rfl, (Below.refl _ _).alloc (Nat.le_refl _) _⟩
  · have hk : (k == 0) = false := by simp; omega
    by_cases h2 : 3 < k
    · clear hb
      go_enter Try.func10, Try.ntmps10
      go_wp2
      all_goals go_ret2
      all_goals exact ⟨rfl, (Below.refl _ _).alloc (Nat.le_refl _) _⟩
    · by_cases h3 : min n (min t f) < 0
      · have h4 : n < 0 ∨ t < 0 ∨ f < 0 := by omega
        clear hb h3
        go_enter Try.func10, Try.ntmps10
        go_wp2
        all_goals go_ret2
        all_goals exact ⟨rfl, (Below.refl _ _).alloc (Nat.le_refl _) _⟩
      · obtain rfl : B = false := by
          rcases hb with hb | hb | hb | hb | hb | hb
          · omega
          · omega
          · omega
          · omega
          · omega
          · exact hb
        have h4 : 0 ≤ n := by omega
        have h5 : 0 ≤ t := by omega
        have h6 : 0 ≤ f := by omega
        clear h3 hb
        go_enter Try.func10, Try.ntmps10
        go_wp2_with (go_at_call 19; refine (HC.out _ ((Below.refl _ _).alloc (Nat.le_refl _) _)).mono ?_; rintro e w' ⟨rfl, rfl⟩)
        all_goals go_ret2
        all_goals exact ⟨rfl, (Below.refl _ _).alloc (Nat.le_refl _) _⟩
set_option maxRecDepth 100000 in
set_option maxHeartbeats 3200000 in
/-- where it is a frame that is there -/
theorem there_walk (w : World) (s : Nat) (k n t f x i : Int) (m : Nat)
    (hc : ∀ W, Below w.heap.size w W → Calls Try.prog 19 #[.pointer (some ⟨s, 0, none⟩), .int .i64 x] W fun e w' => e = .returned (.bool true) ∧ w' = W)
    (h1 : 1 ≤ k) (h2 : k ≤ 3) (h3 : 0 ≤ n) (h4 : 0 ≤ t) (h5 : 0 ≤ f)
    (c2 : w.cell? ⟨s, 2, none⟩ = some (.map (some m)))
    (hl : ∀ W, Below w.heap.size w W → (Instr.lookup 54 (.map (some m)) (.agg #[.int .i64 k, .int .i64 n, .int .i64 t, .int .i64 f, .int .i64 x]) true).run Try.prog W = .ok (.tuple #[.int .i64 i, .bool true]) W) :
    Calls Try.prog 10 #[.pointer (some ⟨s, 0, none⟩), .agg #[.int .i64 k, .int .i64 n, .int .i64 t, .int .i64 f, .int .i64 x]] w fun e w' => e = .returned (.tuple #[.int .i64 i, .int .i64 0]) ∧ Below w.heap.size w w' := by
  have hk : (k == 0) = false := by simp; omega
  have HC := Lib.hid hc
  clear hc
  obtain ⟨q, hq, hmin⟩ : ∃ q : Int, 0 ≤ q ∧ ∀ ats ty, Builtin.min_ ats ty #[.int .i64 n, .int .i64 t, .int .i64 f] = pure (.int .i64 q) := by
    refine ⟨min (min n t) f, by omega, fun ats ty => ?_⟩
    rw [min_three, min2_int]
    simp only [pure_bind, min2_int]
    congr 2
    split <;> split <;> omega
  have ls := World.block_lt_of_cell? w _ c2
  have hl := hl (w.alloc (.cells #[.int .i64 k, .int .i64 n, .int .i64 t, .int .i64 f, .int .i64 x] 33)).drew ((Below.refl _ _).alloc (Nat.le_refl _) _).drew
  go_enter Try.func10, Try.ntmps10
  go_wp2_with (go_at_call 19; refine (HC.out _ ((Below.refl _ _).alloc (Nat.le_refl _) _)).mono ?_; rintro e w' ⟨rfl, rfl⟩)
  have b0 : (w.alloc (.cells #[.int .i64 k, .int .i64 n, .int .i64 t, .int .i64 f, .int .i64 x] 33)).heap[w.heap.size]? = some (.cells #[.int .i64 k, .int .i64 n, .int .i64 t, .int .i64 f, .int .i64 x] 33 (0, 0)) := heap_alloc_new w _
  have e0 := blk_cell b0 0 _ rfl
  have e1 := blk_cell b0 1 _ rfl
  have e2 := blk_cell b0 2 _ rfl
  have e3 := blk_cell b0 3 _ rfl
  have e4 := blk_cell b0 4 _ rfl
  have c2' : (w.alloc (.cells #[.int .i64 k, .int .i64 n, .int .i64 t, .int .i64 f, .int .i64 x] 33)).cell? ⟨s, 2, none⟩ = some (.map (some m)) := (World.cell?_of_block (a := ⟨s, 2, none⟩) (Below.heap_alloc w _ s ls)).trans c2
  clear c2 b0
  clear HC hmin
  have hB : Below w.heap.size w (w.alloc (.cells #[.int .i64 k, .int .i64 n, .int .i64 t, .int .i64 f, .int .i64 x] 33)) := (Below.refl _ _).alloc (Nat.le_refl _) _
  have HB := Lib.hid hB
  clear hB
  have HQ := Lib.hid hq
  generalize (w.alloc (.cells #[.int .i64 k, .int .i64 n, .int .i64 t, .int .i64 f, .int .i64 x] 33)) = w1 at *
  go_region_held3 (fun w' => w'.cell? ⟨s, 2, none⟩ = some (.map (some m)) ∧ w'.cell? ⟨w.heap.size, 0, none⟩ = some (.int .i64 k) ∧ w'.cell? ⟨w.heap.size, 1, none⟩ = some (.int .i64 n) ∧ w'.cell? ⟨w.heap.size, 2, none⟩ = some (.int .i64 t) ∧ w'.cell? ⟨w.heap.size, 3, none⟩ = some (.int .i64 f) ∧ w'.cell? ⟨w.heap.size, 4, none⟩ = some (.int .i64 x) ∧ (Instr.lookup 54 (.map (some m)) (.agg #[.int .i64 k, .int .i64 n, .int .i64 t, .int .i64 f, .int .i64 x]) true).run Try.prog w' = .ok (.tuple #[.int .i64 i, .bool true]) w')
    (go_keep) (fail)
  go_wp2
  go_ret2
  exact ⟨rfl, HB.out.drew⟩
set_option maxRecDepth 100000 in
set_option maxHeartbeats 3200000 in
/-- where it is a new one, and there is no room -/
theorem full_walk (w : World) (s : Nat) (k n t f x most : Int) (L cl m : Nat) (b : Addr)
    (hc : ∀ W, Below w.heap.size w W → Calls Try.prog 19 #[.pointer (some ⟨s, 0, none⟩), .int .i64 x] W fun e w' => e = .returned (.bool true) ∧ w' = W)
    (h1 : 1 ≤ k) (h2 : k ≤ 3) (h3 : 0 ≤ n) (h4 : 0 ≤ t) (h5 : 0 ≤ f)
    (c0 : w.cell? ⟨s, 0, none⟩ = some (.slice (some b) L cl)) (c3 : w.cell? ⟨s, 3, none⟩ = some (.int .i64 most)) (hL : L ≤ 2000000) (hr : most < L)
    (c2 : w.cell? ⟨s, 2, none⟩ = some (.map (some m)))
    (hl : ∀ W, Below w.heap.size w W → (Instr.lookup 54 (.map (some m)) (.agg #[.int .i64 k, .int .i64 n, .int .i64 t, .int .i64 f, .int .i64 x]) true).run Try.prog W = .ok (.tuple #[.int .i64 0, .bool false]) W) :
    Calls Try.prog 10 #[.pointer (some ⟨s, 0, none⟩), .agg #[.int .i64 k, .int .i64 n, .int .i64 t, .int .i64 f, .int .i64 x]] w fun e w' => e = .returned (.tuple #[.int .i64 0, .int .i64 4]) ∧ Below w.heap.size w w' := by
  have hk : (k == 0) = false := by simp; omega
  have HC := Lib.hid hc
  clear hc
  obtain ⟨q, hq, hmin⟩ : ∃ q : Int, 0 ≤ q ∧ ∀ ats ty, Builtin.min_ ats ty #[.int .i64 n, .int .i64 t, .int .i64 f] = pure (.int .i64 q) := by
    refine ⟨min (min n t) f, by omega, fun ats ty => ?_⟩
    rw [min_three, min2_int]
    simp only [pure_bind, min2_int]
    congr 2
    split <;> split <;> omega
  have ls := World.block_lt_of_cell? w _ c2
  have hl := hl (w.alloc (.cells #[.int .i64 k, .int .i64 n, .int .i64 t, .int .i64 f, .int .i64 x] 33)).drew ((Below.refl _ _).alloc (Nat.le_refl _) _).drew
  go_enter Try.func10, Try.ntmps10
  go_wp2_with (go_at_call 19; refine (HC.out _ ((Below.refl _ _).alloc (Nat.le_refl _) _)).mono ?_; rintro e w' ⟨rfl, rfl⟩)
  have b0 : (w.alloc (.cells #[.int .i64 k, .int .i64 n, .int .i64 t, .int .i64 f, .int .i64 x] 33)).heap[w.heap.size]? = some (.cells #[.int .i64 k, .int .i64 n, .int .i64 t, .int .i64 f, .int .i64 x] 33 (0, 0)) := heap_alloc_new w _
  have e0 := blk_cell b0 0 _ rfl
  have e1 := blk_cell b0 1 _ rfl
  have e2 := blk_cell b0 2 _ rfl
  have e3 := blk_cell b0 3 _ rfl
  have e4 := blk_cell b0 4 _ rfl
  have c2' : (w.alloc (.cells #[.int .i64 k, .int .i64 n, .int .i64 t, .int .i64 f, .int .i64 x] 33)).cell? ⟨s, 2, none⟩ = some (.map (some m)) := (World.cell?_of_block (a := ⟨s, 2, none⟩) (Below.heap_alloc w _ s ls)).trans c2
  have c0' : (w.alloc (.cells #[.int .i64 k, .int .i64 n, .int .i64 t, .int .i64 f, .int .i64 x] 33)).cell? ⟨s, 0, none⟩ = some (.slice (some b) L cl) := (World.cell?_of_block (a := ⟨s, 0, none⟩) (Below.heap_alloc w _ s ls)).trans c0
  have c3' : (w.alloc (.cells #[.int .i64 k, .int .i64 n, .int .i64 t, .int .i64 f, .int .i64 x] 33)).cell? ⟨s, 3, none⟩ = some (.int .i64 most) := (World.cell?_of_block (a := ⟨s, 3, none⟩) (Below.heap_alloc w _ s ls)).trans c3
  clear c2 b0 c0 c3
  clear HC hmin
  have hB : Below w.heap.size w (w.alloc (.cells #[.int .i64 k, .int .i64 n, .int .i64 t, .int .i64 f, .int .i64 x] 33)) := (Below.refl _ _).alloc (Nat.le_refl _) _
  have HB := Lib.hid hB
  clear hB
  have HQ := Lib.hid hq
  generalize (w.alloc (.cells #[.int .i64 k, .int .i64 n, .int .i64 t, .int .i64 f, .int .i64 x] 33)) = w1 at *
  go_region_held3 (fun w' => w'.cell? ⟨s, 2, none⟩ = some (.map (some m)) ∧ w'.cell? ⟨w.heap.size, 0, none⟩ = some (.int .i64 k) ∧ w'.cell? ⟨w.heap.size, 1, none⟩ = some (.int .i64 n) ∧ w'.cell? ⟨w.heap.size, 2, none⟩ = some (.int .i64 t) ∧ w'.cell? ⟨w.heap.size, 3, none⟩ = some (.int .i64 f) ∧ w'.cell? ⟨w.heap.size, 4, none⟩ = some (.int .i64 x) ∧ (Instr.lookup 54 (.map (some m)) (.agg #[.int .i64 k, .int .i64 n, .int .i64 t, .int .i64 f, .int .i64 x]) true).run Try.prog w' = .ok (.tuple #[.int .i64 0, .bool false]) w')
    (go_keep) (fail)
  go_wp2
  go_ret2
  exact ⟨rfl, HB.out.drew⟩
end Go.Proofs.Ytajflmpdpggcgaa.FPut
