/- Sets: with the letters of the other case. -/
import Derived.Test.YtdociniomegpnaaDoorCEqs
namespace Go.Proofs.YtdociniomegpnaaDoor.CFold
open Go.RowKit CMem CBits CSet CMake COps CEqs Go.Proofs.YtdociniomegpnaaDoorW.PrintWords Go.Proofs.YtdociniomegpnaaDoorW.PrintLast Go.Proofs.YtdociniomegpnaaDoorW.PrintMore
set_option linter.unusedVariables false
set_option linter.unusedSimpArgs false

def opt (b : Bool) (c : Nat) : Nat := if b then 2 ^ c else 0
/-- the first k letters are done -/
def fd (N : Nat) : Nat → Nat
  | 0 => N
  | k + 1 => fd N k ||| opt (N.testBit (65 + k)) (97 + k) ||| opt (N.testBit (97 + k)) (65 + k)
theorem tb_opt (b : Bool) (c i : Nat) : (opt b c).testBit i = (b && decide (c = i)) := by
  unfold opt
  cases b
  · simp
  · simp [Nat.testBit_two_pow]
theorem tb_fd (N k i : Nat) (hk : k ≤ 26) : (fd N k).testBit i = (N.testBit i || decide (97 ≤ i ∧ i < 97 + k) && N.testBit (i - 32) || decide (65 ≤ i ∧ i < 65 + k) && N.testBit (i + 32)) := by
  induction k with
  | zero =>
    have h1 : ¬ (97 ≤ i ∧ i < 97) := by omega
    have h2 : ¬ (65 ≤ i ∧ i < 65) := by omega
    simp [fd, h1, h2]
  | succ k ih =>
    rw [fd, Nat.testBit_or, Nat.testBit_or, ih (by omega), tb_opt, tb_opt]
    by_cases a : 97 + k = i
    · have e : N.testBit (65 + k) = N.testBit (i - 32) := by rw [show 65 + k = i - 32 by omega]
      have h1 : ¬ (97 ≤ i ∧ i < 97 + k) := by omega
      have h2 : (97 ≤ i ∧ i < 97 + (k + 1)) := by omega
      have h3 : ¬ (65 ≤ i ∧ i < 65 + k) := by omega
      have b : ¬ 65 + k = i := by omega
      have h4 : ¬ (65 ≤ i ∧ i < 65 + (k + 1)) := by omega
      rw [e, decide_eq_false h1, decide_eq_true h2, decide_eq_false h3, decide_eq_false h4, decide_eq_true a, decide_eq_false b]
      simp
    · by_cases b : 65 + k = i
      · have e : N.testBit (97 + k) = N.testBit (i + 32) := by rw [show 97 + k = i + 32 by omega]
        have h3 : ¬ (65 ≤ i ∧ i < 65 + k) := by omega
        have h4 : (65 ≤ i ∧ i < 65 + (k + 1)) := by omega
        have h1 : ¬ (97 ≤ i ∧ i < 97 + k) := by omega
        have h2 : ¬ (97 ≤ i ∧ i < 97 + (k + 1)) := by omega
        rw [e, decide_eq_false h1, decide_eq_false h2, decide_eq_false h3, decide_eq_true h4, decide_eq_false a, decide_eq_true b]
        simp
      · have h1 : decide (97 ≤ i ∧ i < 97 + (k + 1)) = decide (97 ≤ i ∧ i < 97 + k) := by congr 1; apply propext; omega
        have h2 : decide (65 ≤ i ∧ i < 65 + (k + 1)) = decide (65 ≤ i ∧ i < 65 + k) := by congr 1; apply propext; omega
        rw [h1, h2, decide_eq_false a, decide_eq_false b]
        simp
theorem opt_lt (b : Bool) (c : Nat) (hc : c < 256) : opt b c < 2 ^ 256 := by
  unfold opt
  split
  · exact Nat.pow_lt_pow_right (by decide) hc
  · decide
theorem fd_lt (N k : Nat) (hN : N < 2 ^ 256) (hk : k ≤ 26) : fd N k < 2 ^ 256 := by
  induction k with
  | zero => exact hN
  | succ k ih => exact or_lt (or_lt (ih (by omega)) (opt_lt _ _ (by omega))) (opt_lt _ _ (by omega))
theorem fd_zero (k : Nat) : fd 0 k = 0 := by
  induction k with
  | zero => rfl
  | succ k ih => rw [fd, ih]; simp [opt]
theorem put_opt (M c : Nat) (b : Bool) : M ||| opt b c = if b then M ||| 2 ^ c else M := by
  unfold opt
  cases b <;> simp
attribute [-go_sem] Go.run_eql_struct in
set_option maxHeartbeats 3200000 in
theorem fold_zero (w : World) : Calls Tryd.prog 26 #[.agg (sc 0)] w fun e w' => e = .returned (.agg (sc 0)) ∧ Below w.heap.size w w' := by
  rw [sc_zero]
  have hA : ∀ W, (binOp .eql 23 (.agg #[.int .u64 0, .int .u64 0, .int .u64 0, .int .u64 0]) (.agg #[.int .u64 0, .int .u64 0, .int .u64 0, .int .u64 0])).run Tryd.prog W = .ok (.bool true) W := fun W => by rw [arr_eq]; rfl
  go_enter Tryd.func26, Tryd.ntmps26
  go_wp2
  refine bodyPost_ret (results_cell_row rfl _ _ (w.heap.size + 1) 25 #[.int .u64 0, .int .u64 0, .int .u64 0, .int .u64 0] (0, 0) _ rfl (blk2 _ _ _ _) Tryd.underlying25 rfl (by kernel_rfl)) rfl ?_
  exact ⟨rfl, below2 _ _ _⟩
attribute [-go_sem] Go.run_eql_struct in
set_option maxHeartbeats 6400000 in
theorem fold_some (N : Nat) (hN : N < 2 ^ 256) (h0 : N ≠ 0) (w : World) : Calls Tryd.prog 26 #[.agg (sc N)] w fun e w' => e = .returned (.agg (sc (fd N 26))) ∧ Below w.heap.size w w' := by
  have hA : ∀ W, (binOp .eql 23 (.agg (sc N)) (.agg (sc 0))).run Tryd.prog W = .ok (.bool false) W := fun W => by rw [words_eql hN (by decide), decide_eq_false h0]
  have HE := Lib.hid (show ∀ k, sc (fd N k) = #[.int .u64 (wd (fd N k) 0 : Nat), .int .u64 (wd (fd N k) 1 : Nat), .int .u64 (wd (fd N k) 2 : Nat), .int .u64 (wd (fd N k) 3 : Nat)] from fun k => rfl)
  have HH := Lib.hid (fun c (hc : c < 256) W => has_calls N c hc W)
  rw [sc_zero] at hA
  have hsc : sc N = #[.int .u64 (wd N 0 : Nat), .int .u64 (wd N 1 : Nat), .int .u64 (wd N 2 : Nat), .int .u64 (wd N 3 : Nat)] := rfl
  have HQ := Lib.hid (show sc (fd N 0) = #[.int .u64 (wd N 0 : Nat), .int .u64 (wd N 1 : Nat), .int .u64 (wd N 2 : Nat), .int .u64 (wd N 3 : Nat)] from rfl)
  rw [hsc] at hA HH ⊢
  clear hsc
  generalize wd N 0 = x0 at *
  generalize wd N 1 = x1 at *
  generalize wd N 2 = x2 at *
  generalize wd N 3 = x3 at *
  have BA := Lib.hid (blk_alloc (blk_alloc (heap_alloc_new w (.cells #[.int .u64 x0, .int .u64 x1, .int .u64 x2, .int .u64 x3] 25)) (.cells #[.int .u64 0, .int .u64 0, .int .u64 0, .int .u64 0] 25)) (.cells #[.int .u64 x0, .int .u64 x1, .int .u64 x2, .int .u64 x3] 25))
  have BR := Lib.hid (blk_alloc (blk2 w (.cells #[.int .u64 x0, .int .u64 x1, .int .u64 x2, .int .u64 x3] 25) #[.int .u64 0, .int .u64 0, .int .u64 0, .int .u64 0] 25) (.cells #[.int .u64 x0, .int .u64 x1, .int .u64 x2, .int .u64 x3] 25))
  have BT := Lib.hid (blk3 w (.cells #[.int .u64 x0, .int .u64 x1, .int .u64 x2, .int .u64 x3] 25) (.cells #[.int .u64 0, .int .u64 0, .int .u64 0, .int .u64 0] 25) #[.int .u64 x0, .int .u64 x1, .int .u64 x2, .int .u64 x3] 25)
  have HB := Lib.hid (below3 w (.cells #[.int .u64 x0, .int .u64 x1, .int .u64 x2, .int .u64 x3] 25) (.cells #[.int .u64 0, .int .u64 0, .int .u64 0, .int .u64 0] 25) (.cells #[.int .u64 x0, .int .u64 x1, .int .u64 x2, .int .u64 x3] 25))
  go_enter Tryd.func26, Tryd.ntmps26
  go_wp2
  generalize (((w.alloc (.cells #[.int .u64 x0, .int .u64 x1, .int .u64 x2, .int .u64 x3] 25)).alloc (.cells #[.int .u64 0, .int .u64 0, .int .u64 0, .int .u64 0] 25)).alloc (.cells #[.int .u64 x0, .int .u64 x1, .int .u64 x2, .int .u64 x3] 25)) = w3 at *
  have BT := Lib.hid (show w3.heap[w.heap.size + 2]? = some (.cells (sc (fd N 0)) 25 (0, 0)) from by rw [HQ.out]; exact BT.out)
  obtain ⟨qt, hqt⟩ : ∃ qt, w.heap.size + 2 = qt := ⟨_, rfl⟩
  have LT := Lib.hid (show w.heap.size ≤ qt by omega)
  have NA := Lib.hid (show w.heap.size ≠ qt by omega)
  have NR := Lib.hid (show w.heap.size + 1 ≠ qt by omega)
  rw [show w.heap.size + 1 + 1 = qt from hqt]
  rw [hqt] at BT
  clear hqt
  go_loopw [4] (fun t wr => ∃ k : Nat, k ≤ 26 ∧ t = .int .u8 ((65 + k : Nat) : Int) ∧ Hid (wr.heap[w.heap.size]? = some (.cells #[.int .u64 x0, .int .u64 x1, .int .u64 x2, .int .u64 x3] 25 (0, 0))) ∧ Hid (wr.heap[w.heap.size + 1]? = some (.cells #[.int .u64 0, .int .u64 0, .int .u64 0, .int .u64 0] 25 (0, 0))) ∧ Hid (wr.heap[qt]? = some (.cells (sc (fd N k)) 25 (0, 0))) ∧ Hid (Below w.heap.size w wr)) (fun t _ => 91 - (intOf t).toNat)
  case atStart => exact ⟨0, by omega, rfl, BA, BR, BT, HB⟩
  case round =>
    clear BA BR BT HB
    obtain ⟨k, hk, rfl, BA, BR, BT, HB⟩ := hrel
    by_cases h : k < 26
    · have hle : ((65 + k : Nat) : Int) ≤ 90 := by omega
      obtain ⟨m, hm⟩ : ∃ m, 65 + k = m := ⟨_, rfl⟩
      have hm2 : 97 + k = m + 32 := by omega
      have hm1 : m ≤ 90 := by omega
      have HF := Lib.hid (show ∀ B1 B2, N.testBit m = B1 → N.testBit (m + 32) = B2 → fd N (k + 1) = (if B2 then (if B1 then fd N k ||| 2 ^ (m + 32) else fd N k) ||| 2 ^ m else (if B1 then fd N k ||| 2 ^ (m + 32) else fd N k)) by
        intro B1 B2 h1 h2
        rw [fd, hm, hm2, h1, h2, put_opt, put_opt])
      have e32 : ((m + 32 : Nat) : Int) = (m : Int) + 32 := by omega
      have H1 := Lib.hid (HH.out m (by omega))
      have H2 := HH.out (m + 32) (by omega)
      rw [e32] at H2
      have H2 := Lib.hid H2
      have A1 := fun M W (hb : W.heap[qt]? = some (.cells (sc M) 25 (0, 0))) => add_calls M (m + 32) qt (by omega) W hb
      rw [e32] at A1
      have A1 := Lib.hid A1
      have A2 := Lib.hid (fun M W (hb : W.heap[qt]? = some (.cells (sc M) 25 (0, 0))) => add_calls M m qt (by omega) W hb)
      rw [hm] at hle ⊢
      have HM := Lib.hid hm
      clear hm hm2 e32
      generalize fd N k = M at *
      cases h1 : N.testBit m <;> cases h2 : N.testBit (m + 32)
      · have hf := HF.out false false h1 h2
        rw [h1] at H1
        rw [h2] at H2
        clear h1 h2
        have a0 := blk_cell BA.out 0 (.int .u64 x0) rfl
        have a1 := blk_cell BA.out 1 (.int .u64 x1) rfl
        have a2 := blk_cell BA.out 2 (.int .u64 x2) rfl
        have a3 := blk_cell BA.out 3 (.int .u64 x3) rfl
        go_wp2_with fail
        refine (H1.out _).mono ?_
        rintro e w4 ⟨rfl, hb⟩
        have BA := Lib.hid (below_blk hb BA.out)
        have BR := Lib.hid (below_blk hb BR.out)
        have BT := Lib.hid (below_blk hb BT.out)
        have HB := Lib.hid (below_step HB.out hb)
        clear hb
        clear a0 a1 a2 a3
        have a0 := blk_cell BA.out 0 (.int .u64 x0) rfl
        have a1 := blk_cell BA.out 1 (.int .u64 x1) rfl
        have a2 := blk_cell BA.out 2 (.int .u64 x2) rfl
        have a3 := blk_cell BA.out 3 (.int .u64 x3) rfl
        go_wp2_with fail
        refine (H2.out _).mono ?_
        rintro e w6 ⟨rfl, hb⟩
        have BA := Lib.hid (below_blk hb BA.out)
        have BR := Lib.hid (below_blk hb BR.out)
        have BT := Lib.hid (below_blk hb BT.out)
        have HB := Lib.hid (below_step HB.out hb)
        clear hb
        clear a0 a1 a2 a3
        go_wp2
        go_roundw
        case rel => exact ⟨k + 1, by omega, by have := HM.out; simp; omega, BA, BR, by rw [hf]; exact BT, HB⟩
        case measure => simp [intOf]; omega
      · have hf := HF.out false true h1 h2
        rw [h1] at H1
        rw [h2] at H2
        clear h1 h2
        have a0 := blk_cell BA.out 0 (.int .u64 x0) rfl
        have a1 := blk_cell BA.out 1 (.int .u64 x1) rfl
        have a2 := blk_cell BA.out 2 (.int .u64 x2) rfl
        have a3 := blk_cell BA.out 3 (.int .u64 x3) rfl
        go_wp2_with fail
        refine (H1.out _).mono ?_
        rintro e w4 ⟨rfl, hb⟩
        have BA := Lib.hid (below_blk hb BA.out)
        have BR := Lib.hid (below_blk hb BR.out)
        have BT := Lib.hid (below_blk hb BT.out)
        have HB := Lib.hid (below_step HB.out hb)
        clear hb
        clear a0 a1 a2 a3
        have a0 := blk_cell BA.out 0 (.int .u64 x0) rfl
        have a1 := blk_cell BA.out 1 (.int .u64 x1) rfl
        have a2 := blk_cell BA.out 2 (.int .u64 x2) rfl
        have a3 := blk_cell BA.out 3 (.int .u64 x3) rfl
        go_wp2_with fail
        refine (H2.out _).mono ?_
        rintro e w6 ⟨rfl, hb⟩
        have BA := Lib.hid (below_blk hb BA.out)
        have BR := Lib.hid (below_blk hb BR.out)
        have BT := Lib.hid (below_blk hb BT.out)
        have HB := Lib.hid (below_step HB.out hb)
        clear hb
        clear a0 a1 a2 a3
        go_wp2_with fail
        refine (A2.out _ _ BT.out).mono ?_
        rintro e w7 ⟨rfl, hq, ho⟩
        have BA := Lib.hid (ho.blk BA.out NA.out)
        have BR := Lib.hid (ho.blk BR.out NR.out)
        have BT := Lib.hid hq
        have HB := Lib.hid (Only.below HB.out ho LT.out HB.out.size)
        clear ho hq
        go_wp2
        go_roundw
        case rel => exact ⟨k + 1, by omega, by have := HM.out; simp; omega, BA, BR, by rw [hf]; exact BT, HB⟩
        case measure => simp [intOf]; omega
      · have hf := HF.out true false h1 h2
        rw [h1] at H1
        rw [h2] at H2
        clear h1 h2
        have a0 := blk_cell BA.out 0 (.int .u64 x0) rfl
        have a1 := blk_cell BA.out 1 (.int .u64 x1) rfl
        have a2 := blk_cell BA.out 2 (.int .u64 x2) rfl
        have a3 := blk_cell BA.out 3 (.int .u64 x3) rfl
        go_wp2_with fail
        refine (H1.out _).mono ?_
        rintro e w4 ⟨rfl, hb⟩
        have BA := Lib.hid (below_blk hb BA.out)
        have BR := Lib.hid (below_blk hb BR.out)
        have BT := Lib.hid (below_blk hb BT.out)
        have HB := Lib.hid (below_step HB.out hb)
        clear hb
        clear a0 a1 a2 a3
        have a0 := blk_cell BA.out 0 (.int .u64 x0) rfl
        have a1 := blk_cell BA.out 1 (.int .u64 x1) rfl
        have a2 := blk_cell BA.out 2 (.int .u64 x2) rfl
        have a3 := blk_cell BA.out 3 (.int .u64 x3) rfl
        go_wp2_with fail
        refine (A1.out _ _ BT.out).mono ?_
        rintro e w5 ⟨rfl, hq, ho⟩
        have BA := Lib.hid (ho.blk BA.out NA.out)
        have BR := Lib.hid (ho.blk BR.out NR.out)
        have BT := Lib.hid hq
        have HB := Lib.hid (Only.below HB.out ho LT.out HB.out.size)
        clear ho hq
        clear a0 a1 a2 a3
        have a0 := blk_cell BA.out 0 (.int .u64 x0) rfl
        have a1 := blk_cell BA.out 1 (.int .u64 x1) rfl
        have a2 := blk_cell BA.out 2 (.int .u64 x2) rfl
        have a3 := blk_cell BA.out 3 (.int .u64 x3) rfl
        go_wp2_with fail
        refine (H2.out _).mono ?_
        rintro e w6 ⟨rfl, hb⟩
        have BA := Lib.hid (below_blk hb BA.out)
        have BR := Lib.hid (below_blk hb BR.out)
        have BT := Lib.hid (below_blk hb BT.out)
        have HB := Lib.hid (below_step HB.out hb)
        clear hb
        clear a0 a1 a2 a3
        go_wp2
        go_roundw
        case rel => exact ⟨k + 1, by omega, by have := HM.out; simp; omega, BA, BR, by rw [hf]; exact BT, HB⟩
        case measure => simp [intOf]; omega
      · have hf := HF.out true true h1 h2
        rw [h1] at H1
        rw [h2] at H2
        clear h1 h2
        have a0 := blk_cell BA.out 0 (.int .u64 x0) rfl
        have a1 := blk_cell BA.out 1 (.int .u64 x1) rfl
        have a2 := blk_cell BA.out 2 (.int .u64 x2) rfl
        have a3 := blk_cell BA.out 3 (.int .u64 x3) rfl
        go_wp2_with fail
        refine (H1.out _).mono ?_
        rintro e w4 ⟨rfl, hb⟩
        have BA := Lib.hid (below_blk hb BA.out)
        have BR := Lib.hid (below_blk hb BR.out)
        have BT := Lib.hid (below_blk hb BT.out)
        have HB := Lib.hid (below_step HB.out hb)
        clear hb
        clear a0 a1 a2 a3
        have a0 := blk_cell BA.out 0 (.int .u64 x0) rfl
        have a1 := blk_cell BA.out 1 (.int .u64 x1) rfl
        have a2 := blk_cell BA.out 2 (.int .u64 x2) rfl
        have a3 := blk_cell BA.out 3 (.int .u64 x3) rfl
        go_wp2_with fail
        refine (A1.out _ _ BT.out).mono ?_
        rintro e w5 ⟨rfl, hq, ho⟩
        have BA := Lib.hid (ho.blk BA.out NA.out)
        have BR := Lib.hid (ho.blk BR.out NR.out)
        have BT := Lib.hid hq
        have HB := Lib.hid (Only.below HB.out ho LT.out HB.out.size)
        clear ho hq
        clear a0 a1 a2 a3
        have a0 := blk_cell BA.out 0 (.int .u64 x0) rfl
        have a1 := blk_cell BA.out 1 (.int .u64 x1) rfl
        have a2 := blk_cell BA.out 2 (.int .u64 x2) rfl
        have a3 := blk_cell BA.out 3 (.int .u64 x3) rfl
        go_wp2_with fail
        refine (H2.out _).mono ?_
        rintro e w6 ⟨rfl, hb⟩
        have BA := Lib.hid (below_blk hb BA.out)
        have BR := Lib.hid (below_blk hb BR.out)
        have BT := Lib.hid (below_blk hb BT.out)
        have HB := Lib.hid (below_step HB.out hb)
        clear hb
        clear a0 a1 a2 a3
        go_wp2_with fail
        refine (A2.out _ _ BT.out).mono ?_
        rintro e w7 ⟨rfl, hq, ho⟩
        have BA := Lib.hid (ho.blk BA.out NA.out)
        have BR := Lib.hid (ho.blk BR.out NR.out)
        have BT := Lib.hid hq
        have HB := Lib.hid (Only.below HB.out ho LT.out HB.out.size)
        clear ho hq
        go_wp2
        go_roundw
        case rel => exact ⟨k + 1, by omega, by have := HM.out; simp; omega, BA, BR, by rw [hf]; exact BT, HB⟩
        case measure => simp [intOf]; omega
    · obtain rfl : k = 26 := by omega
      have hq := BT.out
      rw [HE.out] at hq
      have HE26 := Lib.hid (HE.out 26)
      clear HE
      generalize wd (fd N 26) 0 = z0 at *
      generalize wd (fd N 26) 1 = z1 at *
      generalize wd (fd N 26) 2 = z2 at *
      generalize wd (fd N 26) 3 = z3 at *
      have a0 := blk_cell hq 0 (.int .u64 z0) rfl
      have a1 := blk_cell hq 1 (.int .u64 z1) rfl
      have a2 := blk_cell hq 2 (.int .u64 z2) rfl
      have a3 := blk_cell hq 3 (.int .u64 z3) rfl
      obtain ⟨c0, c1, c2, c3, f0, f1, f2, f3, zz⟩ := set_four BR.out (.int .u64 z0) (.int .u64 z1) (.int .u64 z2) (.int .u64 z3)
      have ZZ := Lib.hid zz
      clear zz hq
      go_wp2
      refine bodyPost_ret (results_cell_row rfl _ _ (w.heap.size + 1) 25 #[.int .u64 z0, .int .u64 z1, .int .u64 z2, .int .u64 z3] (0, 0) _ rfl ZZ.out Tryd.underlying25 rfl (by kernel_rfl)) rfl ?_
      exact ⟨by rw [HE26.out], below_four HB.out (by omega) _ _ _ _⟩
theorem fold_calls (N : Nat) (hN : N < 2 ^ 256) (w : World) : Calls Tryd.prog 26 #[.agg (sc N)] w fun e w' => e = .returned (.agg (sc (fd N 26))) ∧ Below w.heap.size w w' := by
  by_cases h : N = 0
  · subst h
    rw [fd_zero]
    exact fold_zero w
  · exact fold_some N hN h w
end Go.Proofs.YtdociniomegpnaaDoor.CFold
