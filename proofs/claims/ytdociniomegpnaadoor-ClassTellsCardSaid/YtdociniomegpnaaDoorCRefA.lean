/- The document's sets: both, either, not, of a text, how many, the least one, the other case. -/
import Derived.Test.YtdociniomegpnaaDoorCArr
import Derived.Test.YtdociniomegpnaaDoorCOf
import Derived.Test.YtdociniomegpnaaDoorCFold
namespace Go.Proofs.YtdociniomegpnaaDoor.CRefA
open Go.RowKit CMem CBits CSet CMake COps COf CLen CMin CFold CPlain CArr Go.Proofs.YtdociniomegpnaaDoorW.PrintWords Go.Proofs.YtdociniomegpnaaDoorW.PrintLast Go.Proofs.YtdociniomegpnaaDoorW.PrintMore
set_option linter.unusedVariables false
set_option linter.unusedSimpArgs false
set_option maxRecDepth 100000
set_option maxHeartbeats 4000000
theorem mix_row (F f : Nat → Bool) (k : Nat) (v : Bool) (hv : v = F k) (h : k < 256) : (cb fun i => if i < k then F i else f i).setIfInBounds k (.bool v) = cb fun i => if i < k + 1 then F i else f i := by
  subst hv
  rw [cb_set _ _ _ h]
  refine cb_ext fun i _ => ?_
  by_cases e : i = k
  · subst e; simp
  · rw [if_neg e]
    by_cases g : i < k
    · rw [if_pos g, if_pos (by omega)]
    · rw [if_neg g, if_neg (by omega)]
theorem mixed_row (F f : Nat → Bool) : (cb fun i => if i < 256 then F i else f i) = cb F := cb_ext fun i hi => by rw [if_pos hi]
theorem mix_none (F f : Nat → Bool) : (cb fun i => if i < 0 then F i else f i) = cb f := cb_ext fun i _ => by rw [if_neg (by omega)]
theorem or_walk (f g F : Nat → Bool) (hF : ∀ i, F i = (f i || g i)) (w : World) :
    Calls Tryd.prog 21 #[.agg (cb f), .agg (cb g)] w fun e w' => e = .returned (.agg (cb F)) ∧ Below w.heap.size w w' := by
  have hz := zero_row
  have hs := cb_size
  have BA := Lib.hid (blk_alloc (blk_alloc (heap_alloc_new w (.cells (cb f) 28)) (.cells (cb g) 28)) zr)
  have BG := Lib.hid (blk_alloc (blk2 w (.cells (cb f) 28) (cb g) 28) zr)
  have BR := Lib.hid (blk3 w (.cells (cb f) 28) (.cells (cb g) 28) (cb fun _ => false) 28)
  have HB := Lib.hid (below3 w (.cells (cb f) 28) (.cells (cb g) 28) zr)
  have HF := Lib.hid hF
  clear hF
  go_enter Tryd.func21, Tryd.ntmps21
  go_wp2
  rw [show w.heap.size + 1 + 1 = w.heap.size + 2 by omega]
  go_loopw [5] (fun t wr => ∃ k : Nat, k ≤ 256 ∧ t = .int .i64 (k : Nat) ∧ Hid (wr.heap[w.heap.size]? = some (.cells (cb fun i => if i < k then F i else f i) 28 (0, 0))) ∧ Hid (wr.heap[w.heap.size + 1]? = some (.cells (cb g) 28 (0, 0))) ∧ Hid (wr.heap[w.heap.size + 2]? = some zr) ∧ Hid (Below w.heap.size w wr)) (fun t _ => 256 - (intOf t).toNat)
  case atStart => exact ⟨0, by omega, rfl, by rw [mix_none]; exact BA, BG, BR, HB⟩
  case round =>
    clear BA BG BR HB hz hs
    obtain ⟨k, hk, rfl, HS, HG, ZR, HB⟩ := hrel
    by_cases h : k < 256
    · have v1 : wr.cell? ⟨w.heap.size, k, none⟩ = some (.bool (f k)) := by
        rw [blk_cell HS.out k _ (cb_at _ _ h), if_neg (by omega)]
      have v2 := blk_free HS.out k
      have v3 := blk_cell HG.out k _ (cb_at _ _ h)
      have HW := Lib.hid (show ∀ v : Bool, v = F k → Hid ((wr.setCell ⟨w.heap.size, k, none⟩ (.bool v)).heap[w.heap.size]? = some (.cells (cb fun i => if i < k + 1 then F i else f i) 28 (0, 0))) from fun v hv => by
        rw [← mix_row F f k v hv h]
        exact Lib.hid (set_blk (i := k) HS.out (.bool v)))
      have HB2 := Lib.hid (fun v => below_set HB.out (Nat.le_refl _) (b := w.heap.size) (i := k) v)
      have BG2 := Lib.hid (fun v => set_other (c := w.heap.size) (i := k) (v := v) HG.out (by omega))
      have BR2 := Lib.hid (fun v => set_other (c := w.heap.size) (i := k) (v := v) ZR.out (by omega))
      have hv := HF.out k
      cases hf : f k <;> cases hg : g k <;> rw [hf, hg] at hv <;> rw [hf] at v1 <;> rw [hg] at v3 <;> simp only [Bool.or_true, Bool.or_false, Bool.and_true, Bool.and_false, Bool.or_self, Bool.and_self] at hv
      all_goals
        have HV := Lib.hid hv.symm
        clear hv
        go_wp2
        go_roundw
        case rel => exact ⟨k + 1, by omega, by simp, HW.out _ HV.out, Lib.hid (BG2.out _), Lib.hid (BR2.out _), Lib.hid (HB2.out _)⟩
        case measure => simp [intOf]; omega
    · obtain rfl : k = 256 := by omega
      rw [mixed_row] at HS
      go_wp2_with (first
        | refine wpList_load_row rfl 28 _ rfl (w.heap.size) rfl _ _ _ _ HS.out Tryd.underlying28 rfl (by rw [cb_size]; kernel_rfl) ?_
        | (refine wpList_store_row rfl 28 _ _ rfl (w.heap.size + 2) (cb F) rfl rfl _ _ ZR.out (by rw [cb_size]; kernel_rfl) (by rw [cb_size, cb_size]) (cb_one F) ?_
           go_step
           go_step
           go_step
           go_step
           refine bodyPost_ret (v := .agg (cb F)) ?_ rfl ⟨rfl, below_row HB.out (by omega) _⟩
           rw [ret_row Tryd.f21 4 (by kernel_rfl) _ _ (w.heap.size + 2) F ?_ (setRow_heap _ _ _ _ _ _ ZR.out)]
           rfl))
      
theorem and_walk (f g F : Nat → Bool) (hF : ∀ i, F i = (f i && g i)) (w : World) :
    Calls Tryd.prog 23 #[.agg (cb f), .agg (cb g)] w fun e w' => e = .returned (.agg (cb F)) ∧ Below w.heap.size w w' := by
  have hz := zero_row
  have hs := cb_size
  have BA := Lib.hid (blk_alloc (blk_alloc (heap_alloc_new w (.cells (cb f) 28)) (.cells (cb g) 28)) zr)
  have BG := Lib.hid (blk_alloc (blk2 w (.cells (cb f) 28) (cb g) 28) zr)
  have BR := Lib.hid (blk3 w (.cells (cb f) 28) (.cells (cb g) 28) (cb fun _ => false) 28)
  have HB := Lib.hid (below3 w (.cells (cb f) 28) (.cells (cb g) 28) zr)
  have HF := Lib.hid hF
  clear hF
  go_enter Tryd.func23, Tryd.ntmps23
  go_wp2
  rw [show w.heap.size + 1 + 1 = w.heap.size + 2 by omega]
  go_loopw [5] (fun t wr => ∃ k : Nat, k ≤ 256 ∧ t = .int .i64 (k : Nat) ∧ Hid (wr.heap[w.heap.size]? = some (.cells (cb fun i => if i < k then F i else f i) 28 (0, 0))) ∧ Hid (wr.heap[w.heap.size + 1]? = some (.cells (cb g) 28 (0, 0))) ∧ Hid (wr.heap[w.heap.size + 2]? = some zr) ∧ Hid (Below w.heap.size w wr)) (fun t _ => 256 - (intOf t).toNat)
  case atStart => exact ⟨0, by omega, rfl, by rw [mix_none]; exact BA, BG, BR, HB⟩
  case round =>
    clear BA BG BR HB hz hs
    obtain ⟨k, hk, rfl, HS, HG, ZR, HB⟩ := hrel
    by_cases h : k < 256
    · have v1 : wr.cell? ⟨w.heap.size, k, none⟩ = some (.bool (f k)) := by
        rw [blk_cell HS.out k _ (cb_at _ _ h), if_neg (by omega)]
      have v2 := blk_free HS.out k
      have v3 := blk_cell HG.out k _ (cb_at _ _ h)
      have HW := Lib.hid (show ∀ v : Bool, v = F k → Hid ((wr.setCell ⟨w.heap.size, k, none⟩ (.bool v)).heap[w.heap.size]? = some (.cells (cb fun i => if i < k + 1 then F i else f i) 28 (0, 0))) from fun v hv => by
        rw [← mix_row F f k v hv h]
        exact Lib.hid (set_blk (i := k) HS.out (.bool v)))
      have HB2 := Lib.hid (fun v => below_set HB.out (Nat.le_refl _) (b := w.heap.size) (i := k) v)
      have BG2 := Lib.hid (fun v => set_other (c := w.heap.size) (i := k) (v := v) HG.out (by omega))
      have BR2 := Lib.hid (fun v => set_other (c := w.heap.size) (i := k) (v := v) ZR.out (by omega))
      have hv := HF.out k
      cases hf : f k <;> cases hg : g k <;> rw [hf, hg] at hv <;> rw [hf] at v1 <;> rw [hg] at v3 <;> simp only [Bool.or_true, Bool.or_false, Bool.and_true, Bool.and_false, Bool.or_self, Bool.and_self] at hv
      all_goals
        have HV := Lib.hid hv.symm
        clear hv
        go_wp2
        go_roundw
        case rel => exact ⟨k + 1, by omega, by simp, HW.out _ HV.out, Lib.hid (BG2.out _), Lib.hid (BR2.out _), Lib.hid (HB2.out _)⟩
        case measure => simp [intOf]; omega
    · obtain rfl : k = 256 := by omega
      rw [mixed_row] at HS
      go_wp2_with (first
        | refine wpList_load_row rfl 28 _ rfl (w.heap.size) rfl _ _ _ _ HS.out Tryd.underlying28 rfl (by rw [cb_size]; kernel_rfl) ?_
        | (refine wpList_store_row rfl 28 _ _ rfl (w.heap.size + 2) (cb F) rfl rfl _ _ ZR.out (by rw [cb_size]; kernel_rfl) (by rw [cb_size, cb_size]) (cb_one F) ?_
           go_step
           go_step
           go_step
           go_step
           refine bodyPost_ret (v := .agg (cb F)) ?_ rfl ⟨rfl, below_row HB.out (by omega) _⟩
           rw [ret_row Tryd.f23 4 (by kernel_rfl) _ _ (w.heap.size + 2) F ?_ (setRow_heap _ _ _ _ _ _ ZR.out)]
           rfl))
      
theorem not_walk (f F : Nat → Bool) (hF : ∀ i, F i = !(f i)) (w : World) :
    Calls Tryd.prog 25 #[.agg (cb f)] w fun e w' => e = .returned (.agg (cb F)) ∧ Below w.heap.size w w' := by
  have hz := zero_row
  have hs := cb_size
  have BA := Lib.hid (blk_alloc (heap_alloc_new w (.cells (cb f) 28)) zr)
  have BR := Lib.hid (blk2 w (.cells (cb f) 28) (cb fun _ => false) 28)
  have HB := Lib.hid (below2 w (.cells (cb f) 28) zr)
  have HF := Lib.hid hF
  clear hF
  go_enter Tryd.func25, Tryd.ntmps25
  go_wp2
  go_loopw [3] (fun t wr => ∃ k : Nat, k ≤ 256 ∧ t = .int .i64 (k : Nat) ∧ Hid (wr.heap[w.heap.size]? = some (.cells (cb fun i => if i < k then F i else f i) 28 (0, 0))) ∧ Hid (wr.heap[w.heap.size + 1]? = some zr) ∧ Hid (Below w.heap.size w wr)) (fun t _ => 256 - (intOf t).toNat)
  case atStart => exact ⟨0, by omega, rfl, by rw [mix_none]; exact BA, BR, HB⟩
  case round =>
    clear BA BR HB hz hs
    obtain ⟨k, hk, rfl, HS, ZR, HB⟩ := hrel
    by_cases h : k < 256
    · have v1 : wr.cell? ⟨w.heap.size, k, none⟩ = some (.bool (f k)) := by
        rw [blk_cell HS.out k _ (cb_at _ _ h), if_neg (by omega)]
      have v2 := blk_free HS.out k
      have HW := Lib.hid (show ∀ v : Bool, v = F k → Hid ((wr.setCell ⟨w.heap.size, k, none⟩ (.bool v)).heap[w.heap.size]? = some (.cells (cb fun i => if i < k + 1 then F i else f i) 28 (0, 0))) from fun v hv => by
        rw [← mix_row F f k v hv h]
        exact Lib.hid (set_blk (i := k) HS.out (.bool v)))
      have HB2 := Lib.hid (fun v => below_set HB.out (Nat.le_refl _) (b := w.heap.size) (i := k) v)
      have BR2 := Lib.hid (fun v => set_other (c := w.heap.size) (i := k) (v := v) ZR.out (by omega))
      have hv := HF.out k
      cases hf : f k <;> rw [hf] at hv <;> rw [hf] at v1 <;> simp only [Bool.not_true, Bool.not_false] at hv
      all_goals
        have HV := Lib.hid hv.symm
        clear hv
        go_wp2
        go_roundw
        case rel => exact ⟨k + 1, by omega, by simp, HW.out _ HV.out, Lib.hid (BR2.out _), Lib.hid (HB2.out _)⟩
        case measure => simp [intOf]; omega
    · obtain rfl : k = 256 := by omega
      rw [mixed_row] at HS
      go_wp2_with (first
        | refine wpList_load_row rfl 28 _ rfl (w.heap.size) rfl _ _ _ _ HS.out Tryd.underlying28 rfl (by rw [cb_size]; kernel_rfl) ?_
        | (refine wpList_store_row rfl 28 _ _ rfl (w.heap.size + 1) (cb F) rfl rfl _ _ ZR.out (by rw [cb_size]; kernel_rfl) (by rw [cb_size, cb_size]) (cb_one F) ?_
           go_step
           go_step
           go_step
           go_step
           refine bodyPost_ret (v := .agg (cb F)) ?_ rfl ⟨rfl, below_row HB.out (by omega) _⟩
           rw [ret_row Tryd.f25 2 (by kernel_rfl) _ _ (w.heap.size + 1) F ?_ (setRow_heap _ _ _ _ _ _ ZR.out)]
           rfl))
      
theorem cnt_succ (N k : Nat) : cnt N (k + 1) = cnt N k + if N.testBit k then 1 else 0 := by
  unfold cnt
  rw [List.range_succ, List.countP_append]
  simp
theorem rlen_calls (N : Nat) (w : World) :
    Calls Tryd.prog 15 #[.agg (cb N.testBit)] w fun e w' => e = .returned (.int .i64 (cnt N 256 : Nat)) ∧ Below w.heap.size w w' := by
  have BA := Lib.hid (heap_alloc_new w (.cells (cb N.testBit) 28))
  have HB := Lib.hid (below1 w (.cells (cb N.testBit) 28))
  go_enter Tryd.func15, Tryd.ntmps15
  go_wp2
  go_loopw [3, 4] (fun c t wr => ∃ k : Nat, k ≤ 256 ∧ t = .int .i64 (k : Nat) ∧ c = .int .i64 (cnt N k : Nat) ∧ Hid (wr.heap[w.heap.size]? = some (.cells (cb N.testBit) 28 (0, 0))) ∧ Hid (Below w.heap.size w wr)) (fun _ t _ => 256 - (intOf t).toNat)
  case atStart => exact ⟨0, by omega, rfl, rfl, BA, HB⟩
  case round =>
    clear BA HB
    obtain ⟨k, hk, rfl, rfl, HS, HB⟩ := hrel
    by_cases h : k < 256
    · have v1 := blk_cell HS.out k _ (cb_at _ _ h)
      have hc := cnt_le N k
      have hsu := cnt_succ N k
      have HC := Lib.hid hsu
      clear hsu
      generalize hcc : cnt N k = c at *
      have HCC := Lib.hid hcc
      clear hcc
      cases hf : N.testBit k <;> rw [hf] at v1 HC
      all_goals
        go_wp2
        go_roundw
        case rel => exact ⟨k + 1, by omega, by simp, by rw [HC.out]; simp, HS, HB⟩
        case measure => simp [intOf]; omega
    · obtain rfl : k = 256 := by omega
      go_wp2
      go_ret
      exact ⟨rfl, HB.out⟩
theorem rmin_walk (N : Nat) (hN : N < 2 ^ 256) (r : Nat) (b : Bool) (hr : (if someF N then minF N else 0) = r) (hbb : someF N = b) (w : World) :
    Calls Tryd.prog 12 #[.agg (cb N.testBit)] w fun e w' => e = .returned (.tuple #[.int .u8 (r : Nat), .bool b]) ∧ Below w.heap.size w w' := by
  have HR := Lib.hid hr
  have HQ := Lib.hid hbb
  clear hr hbb
  have BA := Lib.hid (heap_alloc_new w (.cells (cb N.testBit) 28))
  have HB := Lib.hid (below1 w (.cells (cb N.testBit) 28))
  go_enter Tryd.func12, Tryd.ntmps12
  go_wp2
  go_loopw [4] (fun t wr => ∃ k : Nat, k ≤ 256 ∧ t = .int .i64 (k : Nat) ∧ Hid (∀ i, i < k → N.testBit i = false) ∧ Hid (wr.heap[w.heap.size]? = some (.cells (cb N.testBit) 28 (0, 0))) ∧ Hid (Below w.heap.size w wr)) (fun t _ => 256 - (intOf t).toNat)
  case atStart => exact ⟨0, by omega, rfl, Lib.hid (fun i hi => absurd hi (by omega)), BA, HB⟩
  case round =>
    clear BA HB
    obtain ⟨k, hk, rfl, HN, HS, HB⟩ := hrel
    by_cases h : k < 256
    · have v1 := blk_cell HS.out k _ (cb_at _ _ h)
      cases hf : N.testBit k <;> rw [hf] at v1
      · go_wp2
        go_roundw
        case rel => exact ⟨k + 1, by omega, by simp, Lib.hid (fun i hi => by rcases Nat.lt_or_ge i k with g | g; exact HN.out i g; exact (show i = k by omega) ▸ hf), HS, HB⟩
        case measure => simp [intOf]; omega
      · have h0 : N ≠ 0 := fun e => by subst e; simp at hf
        have hm : minF N = k := by
          obtain ⟨m0, m1, m2⟩ := minF_spec hN h0
          rcases Nat.lt_trichotomy (minF N) k with g | g | g
          · rw [HN.out _ g] at m1; cases m1
          · exact g
          · rw [m2 _ g] at hf; cases hf
        have hsm : someF N = true := by rw [someF_eq hN]; simp [h0]
        have HX := Lib.hid hm
        have HY := Lib.hid hsm
        have hwu : IntKind.u8.wrap (k : Int) = k := by rw [IntKind.wrap_u8]; omega
        clear hm hsm h0 hf
        go_wp2
        go_ret2
        refine ⟨?_, HB.out⟩
        have e1 : r = k := by rw [← HR.out, HY.out, if_pos rfl, HX.out]
        have e2 : b = true := by rw [← HQ.out, HY.out]
        rw [e1, e2]
        rfl
    · obtain rfl : k = 256 := by omega
      have hsm : someF N = false := by
        rw [someF_eq hN]
        simp only [ne_eq, decide_not, Bool.not_eq_false, decide_eq_true_eq, Bool.not_eq_eq_eq_not, Bool.not_false]
        apply Nat.eq_of_testBit_eq
        intro i
        rw [Nat.zero_testBit]
        rcases Nat.lt_or_ge i 256 with g | g
        · exact HN.out i g
        · exact Nat.testBit_lt_two_pow (Nat.lt_of_lt_of_le hN (Nat.pow_le_pow_right (by decide) g))
      have HY := Lib.hid hsm
      clear hsm
      go_wp2
      go_ret2
      refine ⟨?_, HB.out⟩
      have e1 : r = 0 := by rw [← HR.out, HY.out]; rfl
      have e2 : b = false := by rw [← HQ.out, HY.out]
      rw [e1, e2]
      rfl
theorem rmin_calls (N : Nat) (hN : N < 2 ^ 256) (w : World) :
    Calls Tryd.prog 12 #[.agg (cb N.testBit)] w fun e w' => e = .returned (.tuple #[.int .u8 (if someF N then minF N else 0 : Nat), .bool (someF N)]) ∧ Below w.heap.size w w' :=
  rmin_walk N hN _ _ rfl rfl w
end Go.Proofs.YtdociniomegpnaaDoor.CRefA
