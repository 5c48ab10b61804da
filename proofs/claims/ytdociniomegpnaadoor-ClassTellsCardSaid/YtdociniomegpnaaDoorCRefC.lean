/- The document's sets: by their words, and the words. -/
import Derived.Test.YtdociniomegpnaaDoorCRefB
namespace Go.Proofs.YtdociniomegpnaaDoor.CRefC
open Go.RowKit CMem CBits CSet CMake COps COf CLen CMin CFold CPlain CArr CRefA Go.Proofs.YtdociniomegpnaaDoorW.PrintWords Go.Proofs.YtdociniomegpnaaDoorW.PrintLast Go.Proofs.YtdociniomegpnaaDoorW.PrintMore
set_option linter.unusedVariables false
set_option linter.unusedSimpArgs false
set_option maxRecDepth 100000
set_option maxHeartbeats 4000000
theorem sc_at (N j : Nat) (h : j < 4) : (sc N)[j]? = some (.int .u64 (wd N j : Nat)) := by
  have : j = 0 ∨ j = 1 ∨ j = 2 ∨ j = 3 := by omega
  rcases this with rfl | rfl | rfl | rfl <;> rfl
theorem rof_calls (N : Nat) (w : World) :
    Calls Tryd.prog 10 #[.agg (sc N)] w fun e w' => e = .returned (.agg (cb N.testBit)) ∧ Below w.heap.size w w' := by
  have hz := zero_row
  have hs := cb_size
  have st := store_same (blk3 w (.cells (sc N) 23) zr (cb fun _ => false) 28)
  have BA := Lib.hid (blk_alloc (blk_alloc (heap_alloc_new w (.cells (sc N) 23)) zr) zr)
  have BR := Lib.hid (blk_alloc (blk2 w (.cells (sc N) 23) (cb fun _ => false) 28) zr)
  have BS := Lib.hid (blk3 w (.cells (sc N) 23) zr (cb fun _ => false) 28)
  have HB := Lib.hid (below3 w (.cells (sc N) 23) zr zr)
  go_enter Tryd.func10, Tryd.ntmps10
  go_wp2
  rw [show w.heap.size + 1 + 1 = w.heap.size + 2 by omega]
  go_loopw [4, 5, 6] (fun t _ _ wr => ∃ k : Nat, k ≤ 256 ∧ t = .int .i64 (k : Nat) ∧ Hid (wr.heap[w.heap.size]? = some (.cells (sc N) 23 (0, 0))) ∧ Hid (wr.heap[w.heap.size + 1]? = some zr) ∧ Hid (wr.heap[w.heap.size + 2]? = some (.cells (cb fun i => decide (i < k) && N.testBit i) 28 (0, 0))) ∧ Hid (Below w.heap.size w wr)) (fun t _ _ _ => 256 - (intOf t).toNat)
  case atStart => exact ⟨0, by omega, rfl, BA, BR, by rw [grow_none]; exact BS, HB⟩
  case round =>
    clear BA BR BS HB hz hs st
    obtain ⟨i, hi, rfl, HA, ZR, HS, HB⟩ := hrel
    by_cases h : i < 256
    · have v1 := blk_cell HA.out (i / 64) _ (sc_at N _ (by omega))
      have hbit : N.testBit i = decide (wd N (i / 64) / 2 ^ (i % 64) % 2 = 1) := by
        rw [← Nat.testBit_eq_decide_div_mod_eq, tb_wd, decide_eq_true (show i % 64 < 64 by omega), show 64 * (i / 64) + i % 64 = i by omega]
        rfl
      have HBIT := Lib.hid hbit
      have hx := wd_lt N (i / 64)
      clear hbit
      generalize wd N (i / 64) = x at *
      go_wp2
      go_loopw [5, 6] (fun n c wr' => ∃ k : Nat, k ≤ i % 64 ∧ c = .int .i64 (k : Nat) ∧ n = .int .u64 ((x / 2 ^ k : Nat) : Int) ∧ wr' = wr) (fun _ c _ => i % 64 - (intOf c).toNat)
      case atStart => exact ⟨0, by omega, rfl, by simp, rfl⟩
      case round =>
        obtain ⟨k, hk, rfl, rfl, rfl⟩ := hrel
        by_cases g : k < i % 64
        · have hk2 : (k : Int) < (i : Int) % 64 := by omega
          have hd : IntKind.u64.wrap (((x / 2 ^ k : Nat) : Int) / 2) = ((x / 2 ^ (k + 1) : Nat) : Int) := by
            have := Nat.div_le_self x (2 ^ k)
            rw [Nat.pow_succ, ← Nat.div_div_eq_div_mul, IntKind.wrap_u64]
            generalize x / 2 ^ k = y at *
            omega
          have HD := Lib.hid hd
          clear hd
          generalize x / 2 ^ k = y at *
          go_wp2
          go_roundw
          case rel => exact ⟨k + 1, by omega, by simp, by rw [HD.out], trivial⟩
          case measure => simp [intOf] <;> omega
        · obtain rfl : k = i % 64 := by omega
          have hk2 : ¬ ((((i % 64 : Nat) : Nat) : Int) < (i : Int) % 64) := by omega
          generalize x / 2 ^ (i % 64) = y at *
          have v1 := blk_cell HS.out i _ (cb_at _ _ h)
          have v2 := blk_free HS.out i
          have HW := Lib.hid (show ∀ v : Bool, v = N.testBit i → Hid ((wr.setCell ⟨w.heap.size + 2, i, none⟩ (.bool v)).heap[w.heap.size + 2]? = some (.cells (cb fun j => decide (j < i + 1) && N.testBit j) 28 (0, 0))) from fun v hv => by
            rw [← grow_row _ i v hv h]
            exact Lib.hid (set_blk (i := i) HS.out (.bool v)))
          have HB2 := Lib.hid (fun v => below_set HB.out (by omega) (b := w.heap.size + 2) (i := i) v)
          have HA2 := Lib.hid (fun v => set_other (c := w.heap.size + 2) (i := i) (v := v) HA.out (by omega))
          have HR2 := Lib.hid (fun v => set_other (c := w.heap.size + 2) (i := i) (v := v) ZR.out (by omega))
          by_cases hy : y % 2 = 1
          · have hy2 : ((y : Int) % 2 == 1) = true := by simp; omega
            have HV := Lib.hid (show true = N.testBit i by rw [HBIT.out, decide_eq_true hy])
            go_wp2
            go_roundw
            case rel => exact ⟨i + 1, by omega, by simp, Lib.hid (HA2.out _), Lib.hid (HR2.out _), HW.out _ HV.out, Lib.hid (HB2.out _)⟩
            case measure => simp [intOf] <;> omega
          · have hy2 : ((y : Int) % 2 == 1) = false := by simp; omega
            have HV := Lib.hid (show false = N.testBit i by rw [HBIT.out, decide_eq_false hy])
            go_wp2
            go_roundw
            case rel => exact ⟨i + 1, by omega, by simp, Lib.hid (HA2.out _), Lib.hid (HR2.out _), HW.out _ HV.out, Lib.hid (HB2.out _)⟩
            case measure => simp [intOf] <;> omega
    · obtain rfl : i = 256 := by omega
      rw [grown_row] at HS
      obtain ⟨F, hF⟩ : ∃ F, N.testBit = F := ⟨_, rfl⟩
      rw [hF] at HS
      have HF := Lib.hid hF
      clear hF
      go_wp2_with (first
        | refine wpList_load_row rfl 28 _ rfl (w.heap.size + 2) rfl _ _ _ _ HS.out Tryd.underlying28 rfl (by rw [cb_size]; kernel_rfl) ?_
        | (refine wpList_store_row rfl 28 _ _ rfl (w.heap.size + 1) (cb F) rfl rfl _ _ ZR.out (by rw [cb_size]; kernel_rfl) (by rw [cb_size, cb_size]) (cb_one F) ?_
           go_step
           go_step
           go_step
           go_step
           refine bodyPost_ret (v := .agg (cb F)) ?_ rfl ⟨by rw [HF.out], below_row HB.out (by omega) _⟩
           rw [ret_row Tryd.f10 2 (by kernel_rfl) _ _ (w.heap.size + 1) F ?_ (setRow_heap _ _ _ _ _ _ ZR.out)]
           rfl))
      
/-- the word j, of the bytes from m on -/
def hi (N m j : Nat) : Nat := wd N j / 2 ^ (m - 64 * j)
theorem hi_top (N j : Nat) (h : j < 4) : hi N 256 j = 0 := by
  unfold hi
  rw [Nat.div_eq_of_lt]
  exact Nat.lt_of_lt_of_le (wd_lt N j) (Nat.pow_le_pow_right (by decide) (by omega))
theorem hi_zero (N j : Nat) : hi N 0 j = wd N j := by unfold hi; simp
theorem hi_other (N m j : Nat) (h : j ≠ m / 64) : hi N m j = hi N (m + 1) j := by
  unfold hi
  rcases Nat.lt_or_ge m (64 * j) with g | g
  · rw [show m - 64 * j = 0 by omega, show m + 1 - 64 * j = 0 by omega]
  · rw [Nat.div_eq_of_lt, Nat.div_eq_of_lt]
    · exact Nat.lt_of_lt_of_le (wd_lt N j) (Nat.pow_le_pow_right (by decide) (by omega))
    · exact Nat.lt_of_lt_of_le (wd_lt N j) (Nat.pow_le_pow_right (by decide) (by omega))
theorem hi_same (N m : Nat) : hi N m (m / 64) = hi N (m + 1) (m / 64) * 2 + if N.testBit m then 1 else 0 := by
  unfold hi
  rw [show m - 64 * (m / 64) = m % 64 by omega, show m + 1 - 64 * (m / 64) = m % 64 + 1 by omega, Nat.pow_succ, ← Nat.div_div_eq_div_mul]
  have hb : N.testBit m = decide (wd N (m / 64) / 2 ^ (m % 64) % 2 = 1) := by
    rw [← Nat.testBit_eq_decide_div_mod_eq, tb_wd, decide_eq_true (show m % 64 < 64 by omega), show 64 * (m / 64) + m % 64 = m by omega]
    rfl
  rw [hb]
  generalize wd N (m / 64) / 2 ^ (m % 64) = y
  by_cases g : y % 2 = 1
  · rw [decide_eq_true g, if_pos rfl]; omega
  · rw [decide_eq_false g, if_neg (by decide)]; omega
theorem hi_lt (N m j : Nat) : hi N m j < 2 ^ 64 := Nat.lt_of_le_of_lt (Nat.div_le_self _ _) (wd_lt N j)
def hs (N m : Nat) : Array Value := #[.int .u64 (hi N m 0 : Nat), .int .u64 (hi N m 1 : Nat), .int .u64 (hi N m 2 : Nat), .int .u64 (hi N m 3 : Nat)]
theorem hs_at (N m j : Nat) (h : j < 4) : (hs N m)[j]? = some (.int .u64 (hi N m j : Nat)) := by
  have : j = 0 ∨ j = 1 ∨ j = 2 ∨ j = 3 := by omega
  rcases this with rfl | rfl | rfl | rfl <;> rfl
theorem hs_set (N m : Nat) (h : m < 256) : (hs N (m + 1)).setIfInBounds (m / 64) (.int .u64 (hi N m (m / 64) : Nat)) = hs N m := by
  apply Array.ext_getElem?
  intro j
  rw [Array.getElem?_setIfInBounds]
  by_cases e : m / 64 = j
  · subst e
    rw [if_pos rfl, hs_at _ _ _ (by omega), if_pos (show m / 64 < (hs N (m + 1)).size by show m / 64 < 4; omega)]
  · rw [if_neg e]
    by_cases g : j < 4
    · rw [hs_at _ _ _ g, hs_at _ _ _ g, hi_other N m j (fun h => e h.symm)]
    · rw [Array.getElem?_eq_none (by show 4 ≤ j; omega), Array.getElem?_eq_none (by show 4 ≤ j; omega)]
theorem hs_top (N : Nat) : hs N 256 = #[.int .u64 0, .int .u64 0, .int .u64 0, .int .u64 0] := by
  unfold hs
  rw [hi_top N 0 (by decide), hi_top N 1 (by decide), hi_top N 2 (by decide), hi_top N 3 (by decide)]
  rfl
theorem hs_zero (N : Nat) : hs N 0 = sc N := by
  unfold hs sc
  rw [hi_zero, hi_zero, hi_zero, hi_zero]
theorem words_calls (N : Nat) (w : World) :
    Calls Tryd.prog 20 #[.agg (cb N.testBit)] w fun e w' => e = .returned (.agg (sc N)) ∧ Below w.heap.size w w' := by
  have BA := Lib.hid (blk_alloc (blk_alloc (heap_alloc_new w (.cells (cb N.testBit) 28)) (.cells #[.int .u64 0, .int .u64 0, .int .u64 0, .int .u64 0] 23)) (.cells #[.int .u64 0, .int .u64 0, .int .u64 0, .int .u64 0] 23))
  have BR := Lib.hid (blk_alloc (blk2 w (.cells (cb N.testBit) 28) #[.int .u64 0, .int .u64 0, .int .u64 0, .int .u64 0] 23) (.cells #[.int .u64 0, .int .u64 0, .int .u64 0, .int .u64 0] 23))
  have BS := Lib.hid (blk3 w (.cells (cb N.testBit) 28) (.cells #[.int .u64 0, .int .u64 0, .int .u64 0, .int .u64 0] 23) #[.int .u64 0, .int .u64 0, .int .u64 0, .int .u64 0] 23)
  have HB := Lib.hid (below3 w (.cells (cb N.testBit) 28) (.cells #[.int .u64 0, .int .u64 0, .int .u64 0, .int .u64 0] 23) (.cells #[.int .u64 0, .int .u64 0, .int .u64 0, .int .u64 0] 23))
  go_enter Tryd.func20, Tryd.ntmps20
  go_wp2
  rw [show w.heap.size + 1 + 1 = w.heap.size + 2 by omega]
  go_loopw [4] (fun t wr => ∃ m : Nat, m ≤ 256 ∧ t = .int .i64 ((m : Int) - 1) ∧ Hid (wr.heap[w.heap.size]? = some (.cells (cb N.testBit) 28 (0, 0))) ∧ Hid (wr.heap[w.heap.size + 1]? = some (.cells #[.int .u64 0, .int .u64 0, .int .u64 0, .int .u64 0] 23)) ∧ Hid (wr.heap[w.heap.size + 2]? = some (.cells (hs N m) 23 (0, 0))) ∧ Hid (Below w.heap.size w wr)) (fun t _ => (intOf t + 1).toNat)
  case atStart => exact ⟨256, by omega, rfl, BA, BR, by rw [hs_top]; exact BS, HB⟩
  case round =>
    clear BA BR BS HB
    obtain ⟨m, hm, rfl, HA, ZR, HS, HB⟩ := hrel
    by_cases h : m = 0
    · subst h
      rw [hs_zero] at HS
      have hsc : sc N = #[.int .u64 (wd N 0 : Nat), .int .u64 (wd N 1 : Nat), .int .u64 (wd N 2 : Nat), .int .u64 (wd N 3 : Nat)] := rfl
      have HSC := Lib.hid hsc
      have hq := HS.out
      rw [hsc] at hq
      clear hsc HS HA
      generalize wd N 0 = x0 at *
      generalize wd N 1 = x1 at *
      generalize wd N 2 = x2 at *
      generalize wd N 3 = x3 at *
      have y0 := blk_cell hq 0 (.int .u64 x0) rfl
      have y1 := blk_cell hq 1 (.int .u64 x1) rfl
      have y2 := blk_cell hq 2 (.int .u64 x2) rfl
      have y3 := blk_cell hq 3 (.int .u64 x3) rfl
      obtain ⟨z0, z1, z2, z3, f0, f1, f2, f3, zz⟩ := set_four ZR.out (.int .u64 x0) (.int .u64 x1) (.int .u64 x2) (.int .u64 x3)
      have QQ2 := Lib.hid zz
      clear zz hq ZR
      go_wp2
      refine bodyPost_ret (results_cell_row rfl _ _ (w.heap.size + 1) 23 #[.int .u64 x0, .int .u64 x1, .int .u64 x2, .int .u64 x3] (0, 0) _ rfl QQ2.out Tryd.underlying23 rfl (by kernel_rfl)) rfl ?_
      exact ⟨by rw [HSC.out], below_four HB.out (by omega) _ _ _ _⟩
    · obtain ⟨i, rfl⟩ : ∃ i, m = i + 1 := ⟨m - 1, by omega⟩
      rw [show ((i + 1 : Nat) : Int) - 1 = (i : Int) by omega]
      have v1 := blk_cell HA.out i _ (cb_at _ _ (by omega))
      have v2 := blk_cell HS.out (i / 64) _ (hs_at _ _ _ (by omega))
      have v3 := blk_free HS.out (i / 64)
      have hw := hi_same N i
      have hl := hi_lt N i (i / 64)
      have HN := Lib.hid (hs_set N i (by omega))
      have HA2 := Lib.hid (fun v => set_other (c := w.heap.size + 2) (i := i / 64) (v := v) HA.out (by omega))
      have HR2 := Lib.hid (fun v => set_other (c := w.heap.size + 2) (i := i / 64) (v := v) ZR.out (by omega))
      have HB2 := Lib.hid (fun v => below_set HB.out (by omega) (b := w.heap.size + 2) (i := i / 64) v)
      have HS2 := Lib.hid (fun v => set_blk (i := i / 64) HS.out v)
      cases hb : N.testBit i <;> rw [hb] at hw v1
      · have hu : IntKind.u64.wrap (((hi N (i + 1) (i / 64) : Nat) : Int) * 2) = ((hi N i (i / 64) : Nat) : Int) := by
          rw [if_neg (by decide)] at hw
          rw [IntKind.wrap_u64]
          omega
        clear hw
        generalize hi N (i + 1) (i / 64) = x at *
        generalize hi N i (i / 64) = z at *
        go_wp2
        go_roundw
        case rel => exact ⟨i, by omega, rfl, Lib.hid (HA2.out _), Lib.hid (HR2.out _), by rw [← HN.out]; exact Lib.hid (HS2.out _), Lib.hid (HB2.out _)⟩
        case measure => simp [intOf] <;> omega
      · have hu : IntKind.u64.wrap (((hi N (i + 1) (i / 64) : Nat) : Int) * 2) = ((hi N (i + 1) (i / 64) : Nat) : Int) * 2 := by
          rw [if_pos rfl] at hw
          rw [IntKind.wrap_u64]
          omega
        have hu2 : IntKind.u64.wrap (((hi N (i + 1) (i / 64) : Nat) : Int) * 2 + 1) = ((hi N i (i / 64) : Nat) : Int) := by
          rw [if_pos rfl] at hw
          rw [IntKind.wrap_u64]
          omega
        clear hw
        generalize hi N (i + 1) (i / 64) = x at *
        generalize hi N i (i / 64) = z at *
        have v4 := fun v => blk_cell (HS2.out v) (i / 64) v (by rw [Array.getElem?_setIfInBounds_self]; rw [if_pos (show i / 64 < (hs N (i + 1)).size by show i / 64 < 4; omega)])
        have v5 := fun v => blk_free (HS2.out v) (i / 64)
        have HS3 := Lib.hid (fun u v => set_blk (i := i / 64) (HS2.out u) v)
        have HA3 := Lib.hid (fun u v => set_other (c := w.heap.size + 2) (i := i / 64) (v := v) (HA2.out u) (by omega))
        have HR3 := Lib.hid (fun u v => set_other (c := w.heap.size + 2) (i := i / 64) (v := v) (HR2.out u) (by omega))
        have HB3 := Lib.hid (fun u v => below_set (HB2.out u) (by omega) (b := w.heap.size + 2) (i := i / 64) v)
        go_wp2
        go_roundw
        case rel => exact ⟨i, by omega, rfl, Lib.hid (HA3.out _ _), Lib.hid (HR3.out _ _), by rw [← HN.out, ← Array.setIfInBounds_setIfInBounds]; exact Lib.hid (HS3.out _ _), Lib.hid (HB3.out _ _)⟩
        case measure => simp [intOf] <;> omega
end Go.Proofs.YtdociniomegpnaaDoor.CRefC
