/- Sets: the least one. -/
import Derived.Test.YtdociniomegpnaaDoorCLen
namespace Go.Proofs.YtdociniomegpnaaDoor.CMin
open Go.RowKit CMem CBits CSet CMake COps CPop CLen Go.Proofs.YtdociniomegpnaaDoorW.PrintWords Go.Proofs.YtdociniomegpnaaDoorW.PrintLast Go.Proofs.YtdociniomegpnaaDoorW.PrintMore
set_option linter.unusedVariables false
set_option linter.unusedSimpArgs false

/-- the least one -/
def minF (N : Nat) : Nat := if wd N 0 ≠ 0 then Go.Lib.ctz 64 (wd N 0) else if wd N 1 ≠ 0 then 64 + Go.Lib.ctz 64 (wd N 1) else if wd N 2 ≠ 0 then 128 + Go.Lib.ctz 64 (wd N 2) else 192 + Go.Lib.ctz 64 (wd N 3)
def someF (N : Nat) : Bool := decide (wd N 0 ≠ 0 ∨ wd N 1 ≠ 0 ∨ wd N 2 ≠ 0 ∨ wd N 3 ≠ 0)
set_option maxHeartbeats 3200000 in
theorem min_0 (x0 x1 x2 x3 c : Int) (w : World)  (h0 : (x0 == 0) = false) (hc : ∀ W, Below w.heap.size w W → Calls Tryd.prog 35 #[.int .u64 x0] W fun e w' => e = .returned (.int .i64 c) ∧ w' = W) (c0 : 0 ≤ c) (c1 : c < 64) :
    Calls Tryd.prog 11 #[.agg #[.int .u64 x0, .int .u64 x1, .int .u64 x2, .int .u64 x3]] w fun e w' => e = .returned (.tuple #[.int .u8 c, .bool true]) ∧ Below w.heap.size w w' := by
  have I0 : ∀ W, (Instr.index 23 (.agg #[.int .u64 x0, .int .u64 x1, .int .u64 x2, .int .u64 x3]) (.int .i64 0)).run Tryd.prog W = .ok (.int .u64 x0) W := fun W => by kernel_rfl
  have I1 : ∀ W, (Instr.index 23 (.agg #[.int .u64 x0, .int .u64 x1, .int .u64 x2, .int .u64 x3]) (.int .i64 1)).run Tryd.prog W = .ok (.int .u64 x1) W := fun W => by kernel_rfl
  have I2 : ∀ W, (Instr.index 23 (.agg #[.int .u64 x0, .int .u64 x1, .int .u64 x2, .int .u64 x3]) (.int .i64 2)).run Tryd.prog W = .ok (.int .u64 x2) W := fun W => by kernel_rfl
  have I3 : ∀ W, (Instr.index 23 (.agg #[.int .u64 x0, .int .u64 x1, .int .u64 x2, .int .u64 x3]) (.int .i64 3)).run Tryd.prog W = .ok (.int .u64 x3) W := fun W => by kernel_rfl
  have HB := Lib.hid (below1 w (.cells #[.int .u64 x0, .int .u64 x1, .int .u64 x2, .int .u64 x3] 25))
  have HC := Lib.hid hc
  clear hc
  go_enter Tryd.func11, Tryd.ntmps11
  go_wp2
  go_loopw [4, 5, 8] (fun _ _ t wr => ∃ k : Nat, k ≤ 0 ∧ t = .int .i64 (k : Nat) ∧ Hid (Below w.heap.size w wr)) (fun _ _ t _ => 4 - (intOf t).toNat)
  case atStart => exact ⟨0, by omega, rfl, HB⟩
  case round =>
    obtain ⟨k, hk, rfl, HB1⟩ := hrel
    clear HB
    have hkk : k = 0 := by omega
    rcases hkk with rfl
    · rw [show ((0 : Nat) : Int) = 0 from rfl]
      go_wp2_with (go_at_call 35; (with_reducible refine (HC.out _ HB1.out).mono ?_); rintro e w6 ⟨rfl, rfl⟩)
      go_ret2
      exact ⟨rfl, HB1.out⟩
set_option maxHeartbeats 3200000 in
theorem min_1 (x0 x1 x2 x3 c : Int) (w : World) (h0 : (x0 == 0) = true) (h1 : (x1 == 0) = false) (hc : ∀ W, Below w.heap.size w W → Calls Tryd.prog 35 #[.int .u64 x1] W fun e w' => e = .returned (.int .i64 c) ∧ w' = W) (c0 : 0 ≤ c) (c1 : c < 64) :
    Calls Tryd.prog 11 #[.agg #[.int .u64 x0, .int .u64 x1, .int .u64 x2, .int .u64 x3]] w fun e w' => e = .returned (.tuple #[.int .u8 (64 + c), .bool true]) ∧ Below w.heap.size w w' := by
  have I0 : ∀ W, (Instr.index 23 (.agg #[.int .u64 x0, .int .u64 x1, .int .u64 x2, .int .u64 x3]) (.int .i64 0)).run Tryd.prog W = .ok (.int .u64 x0) W := fun W => by kernel_rfl
  have I1 : ∀ W, (Instr.index 23 (.agg #[.int .u64 x0, .int .u64 x1, .int .u64 x2, .int .u64 x3]) (.int .i64 1)).run Tryd.prog W = .ok (.int .u64 x1) W := fun W => by kernel_rfl
  have I2 : ∀ W, (Instr.index 23 (.agg #[.int .u64 x0, .int .u64 x1, .int .u64 x2, .int .u64 x3]) (.int .i64 2)).run Tryd.prog W = .ok (.int .u64 x2) W := fun W => by kernel_rfl
  have I3 : ∀ W, (Instr.index 23 (.agg #[.int .u64 x0, .int .u64 x1, .int .u64 x2, .int .u64 x3]) (.int .i64 3)).run Tryd.prog W = .ok (.int .u64 x3) W := fun W => by kernel_rfl
  have HB := Lib.hid (below1 w (.cells #[.int .u64 x0, .int .u64 x1, .int .u64 x2, .int .u64 x3] 25))
  have HC := Lib.hid hc
  clear hc
  go_enter Tryd.func11, Tryd.ntmps11
  go_wp2
  go_loopw [4, 5, 8] (fun _ _ t wr => ∃ k : Nat, k ≤ 1 ∧ t = .int .i64 (k : Nat) ∧ Hid (Below w.heap.size w wr)) (fun _ _ t _ => 4 - (intOf t).toNat)
  case atStart => exact ⟨0, by omega, rfl, HB⟩
  case round =>
    obtain ⟨k, hk, rfl, HB1⟩ := hrel
    clear HB
    have hkk : k = 0 ∨ k = 1 := by omega
    rcases hkk with rfl | rfl
    · rw [show ((0 : Nat) : Int) = 0 from rfl]
      go_wp2
      go_roundw
      case rel => exact ⟨1, by omega, by simp, HB1⟩
      case measure => simp [intOf]
    · rw [show ((1 : Nat) : Int) = 1 from rfl]
      go_wp2_with (go_at_call 35; (with_reducible refine (HC.out _ HB1.out).mono ?_); rintro e w6 ⟨rfl, rfl⟩)
      go_ret2
      exact ⟨rfl, HB1.out⟩
set_option maxHeartbeats 3200000 in
theorem min_2 (x0 x1 x2 x3 c : Int) (w : World) (h0 : (x0 == 0) = true) (h1 : (x1 == 0) = true) (h2 : (x2 == 0) = false) (hc : ∀ W, Below w.heap.size w W → Calls Tryd.prog 35 #[.int .u64 x2] W fun e w' => e = .returned (.int .i64 c) ∧ w' = W) (c0 : 0 ≤ c) (c1 : c < 64) :
    Calls Tryd.prog 11 #[.agg #[.int .u64 x0, .int .u64 x1, .int .u64 x2, .int .u64 x3]] w fun e w' => e = .returned (.tuple #[.int .u8 (128 + c), .bool true]) ∧ Below w.heap.size w w' := by
  have I0 : ∀ W, (Instr.index 23 (.agg #[.int .u64 x0, .int .u64 x1, .int .u64 x2, .int .u64 x3]) (.int .i64 0)).run Tryd.prog W = .ok (.int .u64 x0) W := fun W => by kernel_rfl
  have I1 : ∀ W, (Instr.index 23 (.agg #[.int .u64 x0, .int .u64 x1, .int .u64 x2, .int .u64 x3]) (.int .i64 1)).run Tryd.prog W = .ok (.int .u64 x1) W := fun W => by kernel_rfl
  have I2 : ∀ W, (Instr.index 23 (.agg #[.int .u64 x0, .int .u64 x1, .int .u64 x2, .int .u64 x3]) (.int .i64 2)).run Tryd.prog W = .ok (.int .u64 x2) W := fun W => by kernel_rfl
  have I3 : ∀ W, (Instr.index 23 (.agg #[.int .u64 x0, .int .u64 x1, .int .u64 x2, .int .u64 x3]) (.int .i64 3)).run Tryd.prog W = .ok (.int .u64 x3) W := fun W => by kernel_rfl
  have HB := Lib.hid (below1 w (.cells #[.int .u64 x0, .int .u64 x1, .int .u64 x2, .int .u64 x3] 25))
  have HC := Lib.hid hc
  clear hc
  go_enter Tryd.func11, Tryd.ntmps11
  go_wp2
  go_loopw [4, 5, 8] (fun _ _ t wr => ∃ k : Nat, k ≤ 2 ∧ t = .int .i64 (k : Nat) ∧ Hid (Below w.heap.size w wr)) (fun _ _ t _ => 4 - (intOf t).toNat)
  case atStart => exact ⟨0, by omega, rfl, HB⟩
  case round =>
    obtain ⟨k, hk, rfl, HB1⟩ := hrel
    clear HB
    have hkk : k = 0 ∨ k = 1 ∨ k = 2 := by omega
    rcases hkk with rfl | rfl | rfl
    · rw [show ((0 : Nat) : Int) = 0 from rfl]
      go_wp2
      go_roundw
      case rel => exact ⟨1, by omega, by simp, HB1⟩
      case measure => simp [intOf]
    · rw [show ((1 : Nat) : Int) = 1 from rfl]
      go_wp2
      go_roundw
      case rel => exact ⟨2, by omega, by simp, HB1⟩
      case measure => simp [intOf]
    · rw [show ((2 : Nat) : Int) = 2 from rfl]
      go_wp2_with (go_at_call 35; (with_reducible refine (HC.out _ HB1.out).mono ?_); rintro e w6 ⟨rfl, rfl⟩)
      go_ret2
      exact ⟨rfl, HB1.out⟩
set_option maxHeartbeats 3200000 in
theorem min_3 (x0 x1 x2 x3 c : Int) (w : World) (h0 : (x0 == 0) = true) (h1 : (x1 == 0) = true) (h2 : (x2 == 0) = true) (h3 : (x3 == 0) = false) (hc : ∀ W, Below w.heap.size w W → Calls Tryd.prog 35 #[.int .u64 x3] W fun e w' => e = .returned (.int .i64 c) ∧ w' = W) (c0 : 0 ≤ c) (c1 : c < 64) :
    Calls Tryd.prog 11 #[.agg #[.int .u64 x0, .int .u64 x1, .int .u64 x2, .int .u64 x3]] w fun e w' => e = .returned (.tuple #[.int .u8 (192 + c), .bool true]) ∧ Below w.heap.size w w' := by
  have I0 : ∀ W, (Instr.index 23 (.agg #[.int .u64 x0, .int .u64 x1, .int .u64 x2, .int .u64 x3]) (.int .i64 0)).run Tryd.prog W = .ok (.int .u64 x0) W := fun W => by kernel_rfl
  have I1 : ∀ W, (Instr.index 23 (.agg #[.int .u64 x0, .int .u64 x1, .int .u64 x2, .int .u64 x3]) (.int .i64 1)).run Tryd.prog W = .ok (.int .u64 x1) W := fun W => by kernel_rfl
  have I2 : ∀ W, (Instr.index 23 (.agg #[.int .u64 x0, .int .u64 x1, .int .u64 x2, .int .u64 x3]) (.int .i64 2)).run Tryd.prog W = .ok (.int .u64 x2) W := fun W => by kernel_rfl
  have I3 : ∀ W, (Instr.index 23 (.agg #[.int .u64 x0, .int .u64 x1, .int .u64 x2, .int .u64 x3]) (.int .i64 3)).run Tryd.prog W = .ok (.int .u64 x3) W := fun W => by kernel_rfl
  have HB := Lib.hid (below1 w (.cells #[.int .u64 x0, .int .u64 x1, .int .u64 x2, .int .u64 x3] 25))
  have HC := Lib.hid hc
  clear hc
  go_enter Tryd.func11, Tryd.ntmps11
  go_wp2
  go_loopw [4, 5, 8] (fun _ _ t wr => ∃ k : Nat, k ≤ 3 ∧ t = .int .i64 (k : Nat) ∧ Hid (Below w.heap.size w wr)) (fun _ _ t _ => 4 - (intOf t).toNat)
  case atStart => exact ⟨0, by omega, rfl, HB⟩
  case round =>
    obtain ⟨k, hk, rfl, HB1⟩ := hrel
    clear HB
    have hkk : k = 0 ∨ k = 1 ∨ k = 2 ∨ k = 3 := by omega
    rcases hkk with rfl | rfl | rfl | rfl
    · rw [show ((0 : Nat) : Int) = 0 from rfl]
      go_wp2
      go_roundw
      case rel => exact ⟨1, by omega, by simp, HB1⟩
      case measure => simp [intOf]
    · rw [show ((1 : Nat) : Int) = 1 from rfl]
      go_wp2
      go_roundw
      case rel => exact ⟨2, by omega, by simp, HB1⟩
      case measure => simp [intOf]
    · rw [show ((2 : Nat) : Int) = 2 from rfl]
      go_wp2
      go_roundw
      case rel => exact ⟨3, by omega, by simp, HB1⟩
      case measure => simp [intOf]
    · rw [show ((3 : Nat) : Int) = 3 from rfl]
      go_wp2_with (go_at_call 35; (with_reducible refine (HC.out _ HB1.out).mono ?_); rintro e w6 ⟨rfl, rfl⟩)
      go_ret2
      exact ⟨rfl, HB1.out⟩
set_option maxHeartbeats 3200000 in
theorem min_4 (x0 x1 x2 x3 c : Int) (w : World) (h0 : (x0 == 0) = true) (h1 : (x1 == 0) = true) (h2 : (x2 == 0) = true) (h3 : (x3 == 0) = true) :
    Calls Tryd.prog 11 #[.agg #[.int .u64 x0, .int .u64 x1, .int .u64 x2, .int .u64 x3]] w fun e w' => e = .returned (.tuple #[.int .u8 0, .bool false]) ∧ Below w.heap.size w w' := by
  have I0 : ∀ W, (Instr.index 23 (.agg #[.int .u64 x0, .int .u64 x1, .int .u64 x2, .int .u64 x3]) (.int .i64 0)).run Tryd.prog W = .ok (.int .u64 x0) W := fun W => by kernel_rfl
  have I1 : ∀ W, (Instr.index 23 (.agg #[.int .u64 x0, .int .u64 x1, .int .u64 x2, .int .u64 x3]) (.int .i64 1)).run Tryd.prog W = .ok (.int .u64 x1) W := fun W => by kernel_rfl
  have I2 : ∀ W, (Instr.index 23 (.agg #[.int .u64 x0, .int .u64 x1, .int .u64 x2, .int .u64 x3]) (.int .i64 2)).run Tryd.prog W = .ok (.int .u64 x2) W := fun W => by kernel_rfl
  have I3 : ∀ W, (Instr.index 23 (.agg #[.int .u64 x0, .int .u64 x1, .int .u64 x2, .int .u64 x3]) (.int .i64 3)).run Tryd.prog W = .ok (.int .u64 x3) W := fun W => by kernel_rfl
  have HB := Lib.hid (below1 w (.cells #[.int .u64 x0, .int .u64 x1, .int .u64 x2, .int .u64 x3] 25))
  go_enter Tryd.func11, Tryd.ntmps11
  go_wp2
  go_loopw [4, 5, 8] (fun _ _ t wr => ∃ k : Nat, k ≤ 4 ∧ t = .int .i64 (k : Nat) ∧ Hid (Below w.heap.size w wr)) (fun _ _ t _ => 4 - (intOf t).toNat)
  case atStart => exact ⟨0, by omega, rfl, HB⟩
  case round =>
    obtain ⟨k, hk, rfl, HB1⟩ := hrel
    clear HB
    have hkk : k = 0 ∨ k = 1 ∨ k = 2 ∨ k = 3 ∨ k = 4 := by omega
    rcases hkk with rfl | rfl | rfl | rfl | rfl
    · rw [show ((0 : Nat) : Int) = 0 from rfl]
      go_wp2
      go_roundw
      case rel => exact ⟨1, by omega, by simp, HB1⟩
      case measure => simp [intOf]
    · rw [show ((1 : Nat) : Int) = 1 from rfl]
      go_wp2
      go_roundw
      case rel => exact ⟨2, by omega, by simp, HB1⟩
      case measure => simp [intOf]
    · rw [show ((2 : Nat) : Int) = 2 from rfl]
      go_wp2
      go_roundw
      case rel => exact ⟨3, by omega, by simp, HB1⟩
      case measure => simp [intOf]
    · rw [show ((3 : Nat) : Int) = 3 from rfl]
      go_wp2
      go_roundw
      case rel => exact ⟨4, by omega, by simp, HB1⟩
      case measure => simp [intOf]
    · rw [show ((4 : Nat) : Int) = 4 from rfl]
      go_wp2
      go_ret2
      exact ⟨rfl, HB1.out⟩
theorem ctz_lt (x : Nat) (h0 : x ≠ 0) (hx : x < 18446744073709551616) : Go.Lib.ctz 64 x < 64 := (Go.Lib.lowest_bit 64 x h0 hx).2
theorem min_calls (N : Nat) (w : World) (hT : Tab w) : Calls Tryd.prog 11 #[.agg (sc N)] w fun e w' => e = .returned (.tuple #[.int .u8 (if someF N then minF N else 0 : Nat), .bool (someF N)]) ∧ Below w.heap.size w w' := by
  have hz : ∀ x : Nat, x = 0 → ((x : Int) == 0) = true := fun x h => by subst h; rfl
  have hn : ∀ x : Nat, x ≠ 0 → ((x : Int) == 0) = false := fun x h => by simp; omega
  have hc : ∀ x : Nat, x ≠ 0 → x < 18446744073709551616 → ∀ W, Below w.heap.size w W → Calls Tryd.prog 35 #[.int .u64 x] W fun e w' => e = .returned (.int .i64 (Go.Lib.ctz 64 x : Nat)) ∧ w' = W := fun x h h' W hb => tz_calls x h h' W (hT.below hb)
  unfold sc minF someF
  by_cases h0 : wd N 0 = 0
  · by_cases h1 : wd N 1 = 0
    · by_cases h2 : wd N 2 = 0
      · by_cases h3 : wd N 3 = 0
        · simp only [h0, h1, h2, h3]
          exact min_4 _ _ _ _ 0 w rfl rfl rfl rfl
        · have := min_3 (wd N 0 : Nat) (wd N 1 : Nat) (wd N 2 : Nat) (wd N 3 : Nat) _ w (hz _ h0) (hz _ h1) (hz _ h2) (hn _ h3) (hc _ h3 (wd_lt N 3)) (by omega) (by have := ctz_lt _ h3 (wd_lt N 3); omega)
          simpa [h0, h1, h2, h3] using this
      · have := min_2 (wd N 0 : Nat) (wd N 1 : Nat) (wd N 2 : Nat) (wd N 3 : Nat) _ w (hz _ h0) (hz _ h1) (hn _ h2) (hc _ h2 (wd_lt N 2)) (by omega) (by have := ctz_lt _ h2 (wd_lt N 2); omega)
        simpa [h0, h1, h2] using this
    · have := min_1 (wd N 0 : Nat) (wd N 1 : Nat) (wd N 2 : Nat) (wd N 3 : Nat) _ w (hz _ h0) (hn _ h1) (hc _ h1 (wd_lt N 1)) (by omega) (by have := ctz_lt _ h1 (wd_lt N 1); omega)
      simpa [h0, h1] using this
  · have := min_0 (wd N 0 : Nat) (wd N 1 : Nat) (wd N 2 : Nat) (wd N 3 : Nat) _ w (hn _ h0) (hc _ h0 (wd_lt N 0)) (by omega) (by have := ctz_lt _ h0 (wd_lt N 0); omega)
    simpa [h0] using this
end Go.Proofs.YtdociniomegpnaaDoor.CMin
