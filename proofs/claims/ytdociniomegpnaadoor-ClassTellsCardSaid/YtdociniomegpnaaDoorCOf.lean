/- Of: the set of a text's bytes. -/
import Derived.Test.YtdociniomegpnaaDoorCMake
namespace Go.Proofs.YtdociniomegpnaaDoor.COf
open Go.RowKit CMem CBits CSet CMake Go.Proofs.YtdociniomegpnaaDoorW.PrintWords Go.Proofs.YtdociniomegpnaaDoorW.PrintLast Go.Proofs.YtdociniomegpnaaDoorW.PrintMore
set_option linter.unusedVariables false
set_option linter.unusedSimpArgs false

/-- the byte at k -/
def bat (t : ByteArray) (k : Nat) : Nat := (t.data.toList.getD k 0).toNat
theorem bat_lt (t : ByteArray) (k : Nat) : bat t k < 256 := (t.data.toList.getD k 0).toNat_lt
/-- the set of the first k bytes -/
def tx (t : ByteArray) : Nat → Nat
  | 0 => 0
  | k + 1 => tx t k ||| 2 ^ bat t k
theorem tb_tx (t : ByteArray) (k i : Nat) : (tx t k).testBit i = true ↔ ∃ j, j < k ∧ bat t j = i := by
  induction k with
  | zero => simp [tx]
  | succ k ih =>
    rw [tx, Nat.testBit_or, Bool.or_eq_true, ih, Nat.testBit_two_pow, decide_eq_true_eq]
    constructor
    · rintro (⟨j, h1, h2⟩ | h)
      · exact ⟨j, by omega, h2⟩
      · exact ⟨k, by omega, h⟩
    · rintro ⟨j, h1, h2⟩
      by_cases h : j = k
      · exact .inr (h ▸ h2)
      · exact .inl ⟨j, by omega, h2⟩
set_option maxHeartbeats 1600000 in
theorem of_calls (t : ByteArray) (ht : t.size ≤ 140737488351232) (w : World) :
    Calls Tryd.prog 29 #[.string t] w fun e w' => e = .returned (.agg (sc (tx t t.size))) ∧ Below w.heap.size w w' := by
  have BR := blk_alloc (heap_alloc_new w (.cells #[.int .u64 0, .int .u64 0, .int .u64 0, .int .u64 0] 25)) (.cells #[.int .u64 0, .int .u64 0, .int .u64 0, .int .u64 0] 25)
  have BS : ((w.alloc (.cells #[.int .u64 0, .int .u64 0, .int .u64 0, .int .u64 0] 25)).alloc (.cells #[.int .u64 0, .int .u64 0, .int .u64 0, .int .u64 0] 25)).heap[w.heap.size + 1]? = some (.cells (sc 0) 25 (0, 0)) := by rw [sc_zero]; exact blk2 w _ _ _
  have HB := below2 w (.cells #[.int .u64 0, .int .u64 0, .int .u64 0, .int .u64 0] 25) (.cells #[.int .u64 0, .int .u64 0, .int .u64 0, .int .u64 0] 25)
  have HZ : ((w.alloc (.cells #[.int .u64 0, .int .u64 0, .int .u64 0, .int .u64 0] 25)).alloc (.cells #[.int .u64 0, .int .u64 0, .int .u64 0, .int .u64 0] 25)).heap.size = w.heap.size + 2 := by simp
  have BR := Lib.hid BR
  have BS := Lib.hid BS
  have HB := Lib.hid HB
  have HZ := Lib.hid HZ
  have kb := fun W => print_bytes (P := Tryd.prog) 9 61 5 Tryd.underlying9 Tryd.underlying61 Tryd.underlying5 t W
  go_enter Tryd.func29, Tryd.ntmps29
  go_wp2
  generalize ((w.alloc (.cells #[.int .u64 0, .int .u64 0, .int .u64 0, .int .u64 0] 25)).alloc (.cells #[.int .u64 0, .int .u64 0, .int .u64 0, .int .u64 0] 25)) = w2 at *
  have hz := HZ.out
  have HC := Lib.hid (fun i hi => Lib.bytesWorld_cell w2 5 t i hi)
  have BR := Lib.hid ((Lib.bytesWorld_at_old w2 5 t w.heap.size (by omega)).trans BR.out)
  have BS := Lib.hid ((Lib.bytesWorld_at_old w2 5 t (w.heap.size + 1) (by omega)).trans BS.out)
  have HB := Lib.hid (bytes_below HB.out HB.out.size 5 t)
  generalize (Lib.bytesWorld w2 5 t) = w3 at *
  rw [hz] at HC
  clear HZ kb
  go_loopw [9] (fun x wr => ∃ k : Nat, k ≤ t.size ∧ x = .int .i64 (k : Nat) ∧ Hid (wr.heap[w.heap.size]? = some (.cells #[.int .u64 0, .int .u64 0, .int .u64 0, .int .u64 0] 25 (0, 0))) ∧ Hid (wr.heap[w.heap.size + 1]? = some (.cells (sc (tx t k)) 25 (0, 0))) ∧ Hid (∀ i, i < t.size → wr.cell? ⟨w.heap.size + 2, i, none⟩ = some (.int .u8 (bat t i : Nat))) ∧ Hid (Below w.heap.size w wr)) (fun x _ => t.size - (intOf x).toNat)
  case atStart => exact ⟨0, by omega, rfl, BR, BS, HC, HB⟩
  case round =>
    obtain ⟨k, hk, rfl, BR1, BS1, HC1, HB1⟩ := hrel
    clear BR BS HC HB
    by_cases h : k < t.size
    · have hlt : (k : Int) < (t.size : Int) := by omega
      have hc := HC1.out k h
      have hb := bat_lt t k
      have HA := Lib.hid (add_calls (tx t k) (bat t k) (w.heap.size + 1) hb)
      have HT := Lib.hid (show tx t (k + 1) = tx t k ||| 2 ^ bat t k from rfl)
      generalize bat t k = c at HA HT hc
      clear hb
      go_wp2_with fail
      refine (HA.out _ BS1.out).mono ?_
      rintro e w4 ⟨rfl, hq, ho⟩
      have HR := Lib.hid (ho.blk BR1.out (by omega))
      have HB2 := Lib.hid (Only.below HB1.out ho (by omega) HB1.out.size)
      have HQ := Lib.hid hq
      have HC2 := Lib.hid (show ∀ i, i < t.size → w4.cell? ⟨w.heap.size + 2, i, none⟩ = some (.int .u8 (bat t i : Nat)) from fun i hi => (World.cell?_of_block (ho.block (w.heap.size + 2) (World.block_lt_of_cell? _ _ (HC1.out i hi)) (by omega))).trans (HC1.out i hi))
      clear hq ho hc
      go_wp2
      go_roundw
      case rel => exact ⟨k + 1, by omega, by simp, HR, by rw [HT.out]; exact HQ, HC2, HB2⟩
      case measure => simp [intOf]; omega
    · obtain rfl : k = t.size := by omega
      have hq := BS1.out
      have HE := Lib.hid (show sc (tx t t.size) = #[.int .u64 (wd (tx t t.size) 0 : Nat), .int .u64 (wd (tx t t.size) 1 : Nat), .int .u64 (wd (tx t t.size) 2 : Nat), .int .u64 (wd (tx t t.size) 3 : Nat)] from rfl)
      unfold sc at hq
      generalize wd (tx t t.size) 0 = x0 at *
      generalize wd (tx t t.size) 1 = x1 at *
      generalize wd (tx t t.size) 2 = x2 at *
      generalize wd (tx t t.size) 3 = x3 at *
      have y0 := blk_cell hq 0 (.int .u64 x0) rfl
      have y1 := blk_cell hq 1 (.int .u64 x1) rfl
      have y2 := blk_cell hq 2 (.int .u64 x2) rfl
      have y3 := blk_cell hq 3 (.int .u64 x3) rfl
      obtain ⟨z0, z1, z2, z3, f0, f1, f2, f3, zz⟩ := set_four BR1.out (.int .u64 x0) (.int .u64 x1) (.int .u64 x2) (.int .u64 x3)
      have ZZ := Lib.hid zz
      clear zz hq BS1
      go_wp2
      refine bodyPost_ret (results_cell_row rfl _ _ w.heap.size 25 #[.int .u64 x0, .int .u64 x1, .int .u64 x2, .int .u64 x3] (0, 0) _ rfl ZZ.out Tryd.underlying25 rfl (by kernel_rfl)) rfl ?_
      exact ⟨by rw [HE.out], below_four HB1.out (Nat.le_refl _) _ _ _ _⟩
end Go.Proofs.YtdociniomegpnaaDoor.COf
