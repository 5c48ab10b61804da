/- The document's sets: of a text, with the other case. -/
import Derived.Test.YtdociniomegpnaaDoorCRefA
namespace Go.Proofs.YtdociniomegpnaaDoor.CRefB
open Go.RowKit CMem CBits CSet CMake COps COf CLen CMin CFold CPlain CArr CRefA Go.Proofs.YtdociniomegpnaaDoorW.PrintWords Go.Proofs.YtdociniomegpnaaDoorW.PrintLast Go.Proofs.YtdociniomegpnaaDoorW.PrintMore
set_option linter.unusedVariables false
set_option linter.unusedSimpArgs false
set_option maxRecDepth 100000
set_option maxHeartbeats 4000000
/-- the first k letters with the other case -/
def fq (f : Nat → Bool) (k i : Nat) : Bool := if 65 ≤ i ∧ i < 65 + k then f i || f (i + 32) else if 97 ≤ i ∧ i < 97 + k then f (i - 32) || f i else f i
theorem fq_zero (f : Nat → Bool) : cb (fq f 0) = cb f := cb_ext fun i _ => by unfold fq; rw [if_neg (by omega), if_neg (by omega)]
theorem fq_step (f : Nat → Bool) (k : Nat) (hk : k < 26) (v : Bool) (hv : v = (f (65 + k) || f (97 + k))) :
    ((cb (fq f k)).setIfInBounds (65 + k) (.bool v)).setIfInBounds (97 + k) (.bool v) = cb (fq f (k + 1)) := by
  rw [cb_set _ _ _ (by omega), cb_set _ _ _ (by omega)]
  refine cb_ext fun i _ => ?_
  subst hv
  unfold fq
  by_cases e1 : i = 97 + k
  · subst e1
    rw [if_pos rfl, if_neg (by omega), if_pos (by omega), show 97 + k - 32 = 65 + k by omega]
  · rw [if_neg e1]
    by_cases e2 : i = 65 + k
    · subst e2
      rw [if_pos rfl, if_pos (by omega), show 65 + k + 32 = 97 + k by omega]
    · rw [if_neg e2]
      by_cases a : 65 ≤ i ∧ i < 65 + k
      · rw [if_pos a, if_pos (by omega)]
      · rw [if_neg a, if_neg (show ¬ (65 ≤ i ∧ i < 65 + (k + 1)) by omega)]
        by_cases b : 97 ≤ i ∧ i < 97 + k
        · rw [if_pos b, if_pos (show 97 ≤ i ∧ i < 97 + (k + 1) by omega)]
        · rw [if_neg b, if_neg (show ¬ (97 ≤ i ∧ i < 97 + (k + 1)) by omega)]
theorem fq_fd (N : Nat) : cb (fq N.testBit 26) = cb (fd N 26).testBit := cb_ext fun i _ => by
  rw [tb_fd N 26 i (by decide)]
  unfold fq
  by_cases a : 65 ≤ i ∧ i < 65 + 26
  · rw [if_pos a, decide_eq_true a, decide_eq_false (show ¬ (97 ≤ i ∧ i < 97 + 26) by omega)]; simp
  · rw [if_neg a, decide_eq_false a]
    by_cases b : 97 ≤ i ∧ i < 97 + 26
    · rw [if_pos b, decide_eq_true b, Bool.or_comm]; simp
    · rw [if_neg b, decide_eq_false b]; simp
theorem fold_walk (f F : Nat → Bool) (hF : cb (fq f 26) = cb F) (w : World) :
    Calls Tryd.prog 27 #[.agg (cb f)] w fun e w' => e = .returned (.agg (cb F)) ∧ Below w.heap.size w w' := by
  have hz := zero_row
  have hs := cb_size
  have BA := blk_alloc (blk_alloc (heap_alloc_new w (.cells (cb f) 28)) zr) zr
  have BR := blk_alloc (blk2 w (.cells (cb f) 28) (cb fun _ => false) 28) zr
  have BO := blk3 w (.cells (cb f) 28) zr (cb fun _ => false) 28
  have HB := below3 w (.cells (cb f) 28) zr zr
  generalize hW : ((w.alloc (.cells (cb f) 28)).alloc zr).alloc zr = W3 at *
  have BA2 := (setRow_other W3 (w.heap.size + 2) w.heap.size (cb f) (by omega)).trans BA
  have BR2 := (setRow_other W3 (w.heap.size + 2) (w.heap.size + 1) (cb f) (by omega)).trans BR
  have BO2 := setRow_heap W3 (w.heap.size + 2) _ (cb f) _ _ BO
  have HB2 := below_row HB (show w.heap.size ≤ w.heap.size + 2 by omega) (cb f)
  have HA := Lib.hid BA
  have HO := Lib.hid BO
  have HA2 := Lib.hid BA2
  have HR2 := Lib.hid BR2
  have HO2 := Lib.hid BO2
  have HB2 := Lib.hid HB2
  have HF := Lib.hid hF
  have HW := Lib.hid hW
  clear hF BA BR BO HB BA2 BR2 BO2 hW
  go_enter Tryd.func27, Tryd.ntmps27
  go_wp2_with (first
    | refine wpList_load_row rfl 28 _ rfl w.heap.size rfl _ _ _ _ (blk_alloc (heap_alloc_new w (.cells (cb f) 28)) zr) Tryd.underlying28 rfl (by rw [cb_size]; kernel_rfl) ?_
    | refine wpList_store_row rfl 28 _ _ rfl (w.heap.size + 2) (cb f) rfl rfl _ _ (blk3 w (.cells (cb f) 28) zr (cb fun _ => false) 28) (by rw [cb_size]; kernel_rfl) (by rw [cb_size, cb_size]) (cb_one f) ?_)
  rw [show w.heap.size + 1 + 1 = w.heap.size + 2 by omega, HW.out]
  clear HA HO HW hz hs
  go_loopw [4, 5] (fun t _ wr => ∃ k : Nat, k ≤ 26 ∧ t = .int .i64 (k : Nat) ∧ Hid (wr.heap[w.heap.size]? = some (.cells (cb f) 28 (0, 0))) ∧ Hid (wr.heap[w.heap.size + 1]? = some zr) ∧ Hid (wr.heap[w.heap.size + 2]? = some (.cells (cb (fq f k)) 28 (0, 0))) ∧ Hid (Below w.heap.size w wr)) (fun t _ _ => 26 - (intOf t).toNat)
  case atStart => exact ⟨0, by omega, rfl, HA2, HR2, by rw [fq_zero]; exact HO2, HB2⟩
  case round =>
    clear HA2 HR2 HO2 HB2
    obtain ⟨k, hk, rfl, HA, ZR, HO, HB⟩ := hrel
    by_cases h : k < 26
    · have v1 := blk_cell HA.out (65 + k) _ (cb_at _ _ (by omega))
      have v2 := blk_cell HA.out (97 + k) _ (cb_at _ _ (by omega))
      have o1 := blk_cell HO.out (65 + k) _ (cb_at _ _ (by omega))
      have o2 := blk_free HO.out (65 + k)
      have o3 := fun v => blk_cell (set_blk (i := 65 + k) HO.out v) (97 + k) _ (by rw [Array.getElem?_setIfInBounds_ne (by omega)]; exact cb_at _ _ (by omega))
      have o4 := fun v => blk_free (set_blk (i := 65 + k) HO.out v) (97 + k)
      have HW := Lib.hid (show ∀ v : Bool, v = (f (65 + k) || f (97 + k)) → Hid (((wr.setCell ⟨w.heap.size + 2, 65 + k, none⟩ (.bool v)).setCell ⟨w.heap.size + 2, 97 + k, none⟩ (.bool v)).heap[w.heap.size + 2]? = some (.cells (cb (fq f (k + 1))) 28 (0, 0))) from fun v hv => by
        rw [← fq_step f k h v hv]
        exact Lib.hid (set_blk (i := 97 + k) (set_blk (i := 65 + k) HO.out (.bool v)) (.bool v)))
      have HB2 := Lib.hid (fun v => below_set (below_set HB.out (by omega) (b := w.heap.size + 2) (i := 65 + k) v) (by omega) (b := w.heap.size + 2) (i := 97 + k) v)
      have HA2 := Lib.hid (fun v => set_other (c := w.heap.size + 2) (i := 97 + k) (v := v) (set_other (c := w.heap.size + 2) (i := 65 + k) (v := v) HA.out (by omega)) (by omega))
      have HR2 := Lib.hid (fun v => set_other (c := w.heap.size + 2) (i := 97 + k) (v := v) (set_other (c := w.heap.size + 2) (i := 65 + k) (v := v) ZR.out (by omega)) (by omega))
      cases hf : f (65 + k) <;> cases hg : f (97 + k) <;> rw [hf, hg] at HW <;> rw [hf] at v1 <;> rw [hg] at v2
      all_goals
        go_wp2
        go_roundw
        case rel => exact ⟨k + 1, by omega, by simp, Lib.hid (HA2.out _), Lib.hid (HR2.out _), HW.out _ rfl, Lib.hid (HB2.out _)⟩
        case measure => simp [intOf]; omega
    · obtain rfl : k = 26 := by omega
      rw [HF.out] at HO
      go_wp2_with (first
        | refine wpList_load_row rfl 28 _ rfl (w.heap.size + 2) rfl _ _ _ _ HO.out Tryd.underlying28 rfl (by rw [cb_size]; kernel_rfl) ?_
        | (refine wpList_store_row rfl 28 _ _ rfl (w.heap.size + 1) (cb F) rfl rfl _ _ ZR.out (by rw [cb_size]; kernel_rfl) (by rw [cb_size, cb_size]) (cb_one F) ?_
           go_step
           go_step
           go_step
           go_step
           refine bodyPost_ret (v := .agg (cb F)) ?_ rfl ⟨rfl, below_row HB.out (by omega) _⟩
           rw [ret_row Tryd.f27 2 (by kernel_rfl) _ _ (w.heap.size + 1) F ?_ (setRow_heap _ _ _ _ _ _ ZR.out)]
           rfl))
      
theorem text_step (t : ByteArray) (k : Nat) (h : bat t k < 256) : (cb (tx t k).testBit).setIfInBounds (bat t k) (.bool true) = cb (tx t (k + 1)).testBit := by
  rw [cb_set _ _ _ h]
  refine cb_ext fun i _ => ?_
  rw [tx, Nat.testBit_or, Nat.testBit_two_pow]
  by_cases e : i = bat t k
  · rw [if_pos e, decide_eq_true e.symm]; simp
  · rw [if_neg e, decide_eq_false (fun h => e h.symm)]; simp
theorem text_zero (t : ByteArray) : cb (tx t 0).testBit = cb fun _ => false := cb_ext fun i _ => by simp [tx]
theorem text_calls (t : ByteArray) (ht : t.size ≤ 140737488351232) (w : World) :
    Calls Tryd.prog 30 #[.string t] w fun e w' => e = .returned (.agg (cb (tx t t.size).testBit)) ∧ Below w.heap.size w w' := by
  have hz := zero_row
  have hs := cb_size
  have st := store_same (blk2 w zr (cb fun _ => false) 28)
  have BR := Lib.hid (blk_alloc (heap_alloc_new w zr) zr)
  have BS := Lib.hid (blk2 w zr (cb fun _ => false) 28)
  have HB := Lib.hid (below2 w zr zr)
  go_enter Tryd.func30, Tryd.ntmps30
  go_wp2
  go_loopw [4] (fun c wr => ∃ k : Nat, k ≤ t.size ∧ c = .int .i64 (k : Nat) ∧ Hid (wr.heap[w.heap.size]? = some zr) ∧ Hid (wr.heap[w.heap.size + 1]? = some (.cells (cb (tx t k).testBit) 28 (0, 0))) ∧ Hid (Below w.heap.size w wr)) (fun c _ => t.size - (intOf c).toNat)
  case atStart => exact ⟨0, by omega, rfl, BR, by rw [text_zero]; exact BS, HB⟩
  case round =>
    clear BR BS HB hz hs st
    obtain ⟨k, hk, rfl, ZR, HS, HB⟩ := hrel
    by_cases h : k < t.size
    · have hb : bat t k < 256 := bat_lt t k
      have hw : wrap64 ((t[k]'h).toNat : Int) = ((bat t k : Nat) : Int) := by
        rw [show bat t k = (t[k]'h).toNat by unfold bat; congr 1; simp [List.getD, ByteArray.getElem_eq_getElem_data, Array.getElem?_eq_getElem (show k < t.data.size from h)]]
        have := (t[k]'h).toNat_lt
        unfold wrap64
        omega
      have HN := Lib.hid (text_step t k hb)
      have v1 := blk_cell HS.out (bat t k) _ (cb_at _ _ hb)
      have v2 := blk_free HS.out (bat t k)
      have HW := set_blk (i := bat t k) HS.out (.bool true)
      rw [HN.out] at HW
      have HW := Lib.hid HW
      have HB2 := Lib.hid (below_set HB.out (Nat.le_succ _) (b := w.heap.size + 1) (i := bat t k) (.bool true))
      have BR2 := Lib.hid (set_other (c := w.heap.size + 1) (i := bat t k) (v := .bool true) ZR.out (by omega))
      clear HN
      generalize bat t k = c at *
      go_wp2
      go_roundw
      case rel => exact ⟨k + 1, by omega, by simp, BR2, HW, HB2⟩
      case measure => simp [intOf]; omega
    · obtain rfl : k = t.size := by omega
      obtain ⟨F, hF⟩ : ∃ F, (tx t t.size).testBit = F := ⟨_, rfl⟩
      rw [hF] at HS
      have HF := Lib.hid hF
      clear hF
      go_wp2_with (first
        | refine wpList_load_row rfl 28 _ rfl (w.heap.size + 1) rfl _ _ _ _ HS.out Tryd.underlying28 rfl (by rw [cb_size]; kernel_rfl) ?_
        | (refine wpList_store_row rfl 28 _ _ rfl (w.heap.size) (cb F) rfl rfl _ _ ZR.out (by rw [cb_size]; kernel_rfl) (by rw [cb_size, cb_size]) (cb_one F) ?_
           go_step
           go_step
           go_step
           go_step
           refine bodyPost_ret (v := .agg (cb F)) ?_ rfl ⟨by rw [HF.out], below_row HB.out (by omega) _⟩
           rw [ret_row Tryd.f30 2 (by kernel_rfl) _ _ (w.heap.size) F ?_ (setRow_heap _ _ _ _ _ _ ZR.out)]
           rfl))
      
end Go.Proofs.YtdociniomegpnaaDoor.CRefB
