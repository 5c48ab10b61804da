/- Sets: of one, of a range; not; either, both. -/
import Derived.Test.YtdociniomegpnaaDoorCSet
namespace Go.Proofs.YtdociniomegpnaaDoor.CMake
open Go.RowKit CMem CBits CSet Go.Proofs.YtdociniomegpnaaDoorW.PrintWords Go.Proofs.YtdociniomegpnaaDoorW.PrintLast Go.Proofs.YtdociniomegpnaaDoorW.PrintMore
set_option linter.unusedVariables false
set_option linter.unusedSimpArgs false

theorem sc_zero : sc 0 = #[.int .u64 0, .int .u64 0, .int .u64 0, .int .u64 0] := by
  unfold sc wd
  simp
theorem set_four {w : World} {b : Nat} {x0 x1 x2 x3 : Value} {t : TypeId} (h : w.heap[b]? = some (.cells #[x0, x1, x2, x3] t (0, 0))) (u0 u1 u2 u3 : Value) :
    w.cell? ⟨b, 0, none⟩ = some x0 ∧ w.cell? ⟨b, 1, none⟩ = some x1 ∧ w.cell? ⟨b, 2, none⟩ = some x2 ∧ w.cell? ⟨b, 3, none⟩ = some x3 ∧
    w.frozen? ⟨b, 0, none⟩ = false ∧ w.frozen? ⟨b, 1, none⟩ = false ∧ w.frozen? ⟨b, 2, none⟩ = false ∧ w.frozen? ⟨b, 3, none⟩ = false ∧
    ((((w.setCell ⟨b, 0, none⟩ u0).setCell ⟨b, 1, none⟩ u1).setCell ⟨b, 2, none⟩ u2).setCell ⟨b, 3, none⟩ u3).heap[b]? = some (.cells #[u0, u1, u2, u3] t (0, 0)) := by
  have h0 := set_blk (i := 0) h u0
  have h1 := set_blk (i := 1) h0 u1
  have h2 := set_blk (i := 2) h1 u2
  have h3 := set_blk (i := 3) h2 u3
  exact ⟨blk_cell h 0 _ rfl, blk_cell h 1 _ rfl, blk_cell h 2 _ rfl, blk_cell h 3 _ rfl, blk_free h 0, blk_free h 1, blk_free h 2, blk_free h 3, h3⟩
theorem below_four {B : Nat} {w w' : World} (h : Below B w w') {b : Nat} (hb : B ≤ b) (u0 u1 u2 u3 : Value) :
    Below B w ((((w'.setCell ⟨b, 0, none⟩ u0).setCell ⟨b, 1, none⟩ u1).setCell ⟨b, 2, none⟩ u2).setCell ⟨b, 3, none⟩ u3) := below_set (below_set (below_set (below_set h hb _) hb _) hb _) hb _
theorem one_calls (c : Nat) (hc : c < 256) (w : World) :
    Calls Tryd.prog 33 #[.int .u8 c] w fun e w' => e = .returned (.agg (sc (2 ^ c))) ∧ Below w.heap.size w w' := by
  have BR := blk_alloc (heap_alloc_new w (.cells #[.int .u64 0, .int .u64 0, .int .u64 0, .int .u64 0] 25)) (.cells #[.int .u64 0, .int .u64 0, .int .u64 0, .int .u64 0] 25)
  have BS := blk2 w (.cells #[.int .u64 0, .int .u64 0, .int .u64 0, .int .u64 0] 25) #[.int .u64 0, .int .u64 0, .int .u64 0, .int .u64 0] 25
  have HB := below2 w (.cells #[.int .u64 0, .int .u64 0, .int .u64 0, .int .u64 0] 25) (.cells #[.int .u64 0, .int .u64 0, .int .u64 0, .int .u64 0] 25)
  rw [← sc_zero] at BS
  have HC := Lib.hid (add_calls 0 c _ hc _ BS)
  rw [Nat.zero_or] at HC
  rw [sc_zero] at HC
  have BR := Lib.hid BR
  have HB := Lib.hid HB
  clear BS
  unfold sc at HC ⊢
  generalize wd (2 ^ c) 0 = x0 at *
  generalize wd (2 ^ c) 1 = x1 at *
  generalize wd (2 ^ c) 2 = x2 at *
  generalize wd (2 ^ c) 3 = x3 at *
  go_enter Tryd.func33, Tryd.ntmps33
  go_wp2_with fail
  refine HC.out.mono ?_
  rintro e w1 ⟨rfl, hq, ho⟩
  have HR := ho.blk BR.out (by omega)
  have HB1 := Lib.hid (Only.below HB.out ho (by omega) (by simp; omega))
  have y0 := blk_cell hq 0 (.int .u64 x0) rfl
  have y1 := blk_cell hq 1 (.int .u64 x1) rfl
  have y2 := blk_cell hq 2 (.int .u64 x2) rfl
  have y3 := blk_cell hq 3 (.int .u64 x3) rfl
  obtain ⟨z0, z1, z2, z3, f0, f1, f2, f3, zz⟩ := set_four HR (.int .u64 x0) (.int .u64 x1) (.int .u64 x2) (.int .u64 x3)
  have ZZ := Lib.hid zz
  clear zz HR hq ho
  go_wp2
  refine bodyPost_ret (results_cell_row rfl _ _ w.heap.size 25 #[.int .u64 x0, .int .u64 x1, .int .u64 x2, .int .u64 x3] (0, 0) _ rfl ZZ.out Tryd.underlying25 rfl (by kernel_rfl)) rfl ?_
  exact ⟨rfl, below_four HB1.out (Nat.le_refl _) _ _ _ _⟩
/-- from a, so many -/
def rg (a : Nat) : Nat → Nat
  | 0 => 0
  | k + 1 => rg a k ||| 2 ^ (a + k)
theorem tb_rg (a k i : Nat) : (rg a k).testBit i = decide (a ≤ i ∧ i < a + k) := by
  induction k with
  | zero => simp [rg] <;> omega
  | succ k ih =>
    rw [rg, Nat.testBit_or, ih, Nat.testBit_two_pow]
    by_cases h : a + k = i
    · simp [h] <;> omega
    · simp [h] <;> (by_cases g : a ≤ i <;> simp [g] <;> omega)
set_option maxHeartbeats 1600000 in
theorem range_calls (a b : Nat) (ha : a < 256) (hb : b < 256) (w : World) :
    Calls Tryd.prog 31 #[.int .u8 a, .int .u8 b] w fun e w' => e = .returned (.agg (sc (rg a (b + 1 - a)))) ∧ Below w.heap.size w w' := by
  have BR := Lib.hid (blk_alloc (heap_alloc_new w (.cells #[.int .u64 0, .int .u64 0, .int .u64 0, .int .u64 0] 25)) (.cells #[.int .u64 0, .int .u64 0, .int .u64 0, .int .u64 0] 25))
  have BS : ((w.alloc (.cells #[.int .u64 0, .int .u64 0, .int .u64 0, .int .u64 0] 25)).alloc (.cells #[.int .u64 0, .int .u64 0, .int .u64 0, .int .u64 0] 25)).heap[w.heap.size + 1]? = some (.cells (sc 0) 25 (0, 0)) := by rw [sc_zero]; exact blk2 w _ _ _
  have HB := Lib.hid (below2 w (.cells #[.int .u64 0, .int .u64 0, .int .u64 0, .int .u64 0] 25) (.cells #[.int .u64 0, .int .u64 0, .int .u64 0, .int .u64 0] 25))
  have HS := Lib.hid BS
  clear BS
  go_enter Tryd.func31, Tryd.ntmps31
  go_wp2
  generalize ((w.alloc (.cells #[.int .u64 0, .int .u64 0, .int .u64 0, .int .u64 0] 25)).alloc (.cells #[.int .u64 0, .int .u64 0, .int .u64 0, .int .u64 0] 25)) = w2 at *
  go_loopw [6] (fun t wr => ∃ k : Nat, k ≤ b + 1 - a ∧ t = .int .i64 ((a + k : Nat) : Int) ∧ Hid (wr.heap[w.heap.size]? = some (.cells #[.int .u64 0, .int .u64 0, .int .u64 0, .int .u64 0] 25 (0, 0))) ∧ Hid (wr.heap[w.heap.size + 1]? = some (.cells (sc (rg a k)) 25 (0, 0))) ∧ Hid (Below w.heap.size w wr)) (fun t _ => b + 1 - (intOf t).toNat)
  case atStart => exact ⟨0, by omega, by simp, BR, HS, HB⟩
  case round =>
    obtain ⟨k, hk, rfl, BR1, HS1, HB1⟩ := hrel
    clear BR HS HB
    by_cases h : k < b + 1 - a
    · have hle : ((a + k : Nat) : Int) ≤ (b : Int) := by omega
      have hlt : a + k < 256 := by omega
      have HC := Lib.hid (add_calls (rg a k) (a + k) _ hlt _ HS1.out)
      obtain ⟨m, hm⟩ : ∃ m, a + k = m := ⟨_, rfl⟩
      rw [hm] at HC hle hlt ⊢
      have HM := Lib.hid hm
      clear hm
      go_wp2_with fail
      refine HC.out.mono ?_
      rintro e w1 ⟨rfl, hq, ho⟩
      have HR := Lib.hid (ho.blk BR1.out (by omega))
      have HB2 := Lib.hid (Only.below HB1.out ho (by omega) HB1.out.size)
      have HQ := Lib.hid hq
      clear hq ho
      go_wp2
      go_roundw
      case rel => exact ⟨k + 1, by omega, by have := HM.out; simp; omega, HR, by rw [show rg a (k + 1) = rg a k ||| 2 ^ m by rw [← HM.out]; rfl]; exact HQ, HB2⟩
      case measure => simp [intOf]; omega
    · have hgt : (b : Int) < ((a + k : Nat) : Int) := by omega
      have hkk : k = b + 1 - a := by omega
      have hq := HS1.out
      have HE := Lib.hid (show sc (rg a (b + 1 - a)) = #[.int .u64 (wd (rg a k) 0 : Nat), .int .u64 (wd (rg a k) 1 : Nat), .int .u64 (wd (rg a k) 2 : Nat), .int .u64 (wd (rg a k) 3 : Nat)] by rw [← hkk]; rfl)
      unfold sc at hq
      generalize wd (rg a k) 0 = x0 at *
      generalize wd (rg a k) 1 = x1 at *
      generalize wd (rg a k) 2 = x2 at *
      generalize wd (rg a k) 3 = x3 at *
      have y0 := blk_cell hq 0 (.int .u64 x0) rfl
      have y1 := blk_cell hq 1 (.int .u64 x1) rfl
      have y2 := blk_cell hq 2 (.int .u64 x2) rfl
      have y3 := blk_cell hq 3 (.int .u64 x3) rfl
      obtain ⟨z0, z1, z2, z3, f0, f1, f2, f3, zz⟩ := set_four BR1.out (.int .u64 x0) (.int .u64 x1) (.int .u64 x2) (.int .u64 x3)
      have ZZ := Lib.hid zz
      clear zz hq hkk
      generalize a + k = m at *
      go_wp2
      refine bodyPost_ret (results_cell_row rfl _ _ w.heap.size 25 #[.int .u64 x0, .int .u64 x1, .int .u64 x2, .int .u64 x3] (0, 0) _ rfl ZZ.out Tryd.underlying25 rfl (by kernel_rfl)) rfl ?_
      exact ⟨by rw [HE.out], below_four HB1.out (Nat.le_refl _) _ _ _ _⟩
end Go.Proofs.YtdociniomegpnaaDoor.CMake
