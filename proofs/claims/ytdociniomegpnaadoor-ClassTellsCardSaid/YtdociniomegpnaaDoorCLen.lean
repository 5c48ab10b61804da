/- Sets: how many, the least one. -/
import Derived.Test.YtdociniomegpnaaDoorCOps
import Derived.Test.YtdociniomegpnaaDoorCPop
import Derived.Laws.Bits128
import Derived.Lib.TrailingZeros
namespace Go.Proofs.YtdociniomegpnaaDoor.CLen
open Go.RowKit CMem CBits CSet CMake COps CPop Go.Proofs.YtdociniomegpnaaDoorW.PrintWords Go.Proofs.YtdociniomegpnaaDoorW.PrintLast Go.Proofs.YtdociniomegpnaaDoorW.PrintMore
set_option linter.unusedVariables false
set_option linter.unusedSimpArgs false

theorem ones_walk (x A B y1 C D y2 z2 y3 y4 y5 y6 r : Int) (w : World) (hA : bits BinOp.and IntKind.u64 (x / 2) 6148914691236517205 = A) (hB : bits BinOp.and IntKind.u64 x 6148914691236517205 = B) (h1 : IntKind.u64.wrap (A + B) = y1)
    (hC : bits BinOp.and IntKind.u64 (y1 / 4) 3689348814741910323 = C) (hD : bits BinOp.and IntKind.u64 y1 3689348814741910323 = D) (h2 : IntKind.u64.wrap (C + D) = y2) (h3 : IntKind.u64.wrap (y2 / 16 + y2) = z2)
    (hE : bits BinOp.and IntKind.u64 z2 1085102592571150095 = y3) (h4 : IntKind.u64.wrap (y3 + y3 / 256) = y4) (h5 : IntKind.u64.wrap (y4 + y4 / 65536) = y5) (h6 : IntKind.u64.wrap (y5 + y5 / 4294967296) = y6) (h7 : wrap64 y6 = y6) (h8 : IntKind.i64.wrap y6 = y6)
    (hF : bits BinOp.and IntKind.i64 y6 127 = r) :
    Calls Tryd.prog 36 #[.int .u64 x] w fun e w' => e = .returned (.int .i64 r) ∧ w' = w := by
  go_enter Tryd.func36, Tryd.ntmps36
  go_wp2
  go_ret
  exact ⟨rfl, rfl⟩
theorem ones_calls (x : Nat) (hx : x < 18446744073709551616) (w : World) : Calls Tryd.prog 36 #[.int .u64 x] w fun e w' => e = .returned (.int .i64 (Go.Lib.onesCount x : Nat)) ∧ w' = w := by
  have hx' : x < 256 ^ 8 := by rw [show (256 : Nat) ^ 8 = 18446744073709551616 by decide]; exact hx
  obtain ⟨p0, p1, p2, p3, p4, p5, p6, p7, b0, b1, b2, b3, b4, b5, b6, b7, hd, ho⟩ := pop_bytes x hx'
  rw [← swar x hx'] at hd
  have r1 : rep 85 8 = 6148914691236517205 := by decide
  have r2 : rep 51 8 = 3689348814741910323 := by decide
  have r3 : rep 15 8 = 1085102592571150095 := by decide
  have l1 : s1 8 x < 18446744073709551616 := by
    rw [s1_dig 8 x hx']
    exact dig_lt t1 (fun b hb => t1_ok ⟨b, hb⟩) 8 x
  have l2 : s2 8 (s1 8 x) < 18446744073709551616 ∧ s2 8 (s1 8 x) / 16 + s2 8 (s1 8 x) < 18446744073709551616 := by
    have hA : s2 8 (s1 8 x) ≤ 3689348814741910323 + 3689348814741910323 := by
      unfold s2
      rw [r2]
      exact Nat.add_le_add Nat.and_le_right Nat.and_le_right
    omega
  obtain ⟨s, t, u, v⟩ := sums p0 p1 p2 p3 p4 p5 p6 p7 _ _ _ _ b0 b1 b2 b3 b4 b5 b6 b7 hd rfl rfl rfl
  have w1 : ∀ q : Nat, q < 18446744073709551616 → IntKind.u64.wrap (q : Int) = q := fun q h => u64w (by omega) (by omega)
  rw [ho, ← v]
  have e1 : s1 8 x = (x / 2 &&& 6148914691236517205) + (x &&& 6148914691236517205) := by unfold s1; rw [r1]
  have e2 : s2 8 (s1 8 x) = (s1 8 x / 4 &&& 3689348814741910323) + (s1 8 x &&& 3689348814741910323) := by
    conv => lhs; unfold s2
    rw [r2]
  have e3 : s3 8 (s2 8 (s1 8 x)) = (s2 8 (s1 8 x) / 16 + s2 8 (s1 8 x)) &&& 1085102592571150095 := by
    conv => lhs; unfold s3
    rw [r3]
  clear v hd ho b0 b1 b2 b3 b4 b5 b6 b7
  generalize s3 8 (s2 8 (s1 8 x)) = y3 at *
  generalize s2 8 (s1 8 x) = y2 at *
  generalize s1 8 x = y1 at *
  refine ones_walk (x : Int) ((x / 2 &&& 6148914691236517205 : Nat) : Int) ((x &&& 6148914691236517205 : Nat) : Int) (y1 : Int) ((y1 / 4 &&& 3689348814741910323 : Nat) : Int) ((y1 &&& 3689348814741910323 : Nat) : Int) (y2 : Int) ((y2 / 16 + y2 : Nat) : Int) (y3 : Int)
    ((y3 + y3 / 256 : Nat) : Int) ((y3 + y3 / 256 + (y3 + y3 / 256) / 65536 : Nat) : Int) ((y3 + y3 / 256 + (y3 + y3 / 256) / 65536 + (y3 + y3 / 256 + (y3 + y3 / 256) / 65536) / 4294967296 : Nat) : Int) _ w
    (u64_and_nat (x / 2) 6148914691236517205 (by omega) (by decide)) (u64_and_nat x 6148914691236517205 hx (by decide)) ?_ (u64_and_nat (y1 / 4) 3689348814741910323 (by omega) (by decide)) (u64_and_nat y1 3689348814741910323 l1 (by decide)) ?_ ?_
    ((u64_and_nat (y2 / 16 + y2) 1085102592571150095 l2.2 (by decide)).trans (by rw [e3])) ?_ ?_ ?_ ?_ ?_ ?_
  · rw [e1] at l1 ⊢; exact w1 _ l1
  · have := l2.1; rw [e2] at this ⊢; exact w1 _ this
  · exact w1 _ l2.2
  · exact w1 (y3 + y3 / 256) (by omega)
  · exact w1 (y3 + y3 / 256 + (y3 + y3 / 256) / 65536) (by omega)
  · exact w1 (y3 + y3 / 256 + (y3 + y3 / 256) / 65536 + (y3 + y3 / 256 + (y3 + y3 / 256) / 65536) / 4294967296) (by omega)
  · unfold wrap64; omega
  · simp only [IntKind.wrap, IntKind.signed, IntKind.bits]; simp; omega
  · rw [i64_and127]; omega
theorem ones_le (x : Nat) : Go.Lib.onesCount x ≤ 64 := by
  unfold Go.Lib.onesCount
  rw [pop_cnt]
  unfold cnt
  exact Nat.le_trans List.countP_le_length (by simp)
theorem len_calls (N : Nat) (w : World) : Calls Tryd.prog 14 #[.agg (sc N)] w fun e w' => e = .returned (.int .i64 (cnt N 256 : Nat)) ∧ Below w.heap.size w w' := by
  have c0 := Lib.hid (ones_calls (wd N 0) (wd_lt N 0))
  have c1 := Lib.hid (ones_calls (wd N 1) (wd_lt N 1))
  have c2 := Lib.hid (ones_calls (wd N 2) (wd_lt N 2))
  have c3 := Lib.hid (ones_calls (wd N 3) (wd_lt N 3))
  have l0 := ones_le (wd N 0)
  have l1 := ones_le (wd N 1)
  have l2 := ones_le (wd N 2)
  have l3 := ones_le (wd N 3)
  have HC := cnt_words N
  have hs : cnt N 256 = cnt N 256 := rfl
  unfold sc
  generalize Go.Lib.onesCount (wd N 0) = p0 at *
  generalize Go.Lib.onesCount (wd N 1) = p1 at *
  generalize Go.Lib.onesCount (wd N 2) = p2 at *
  generalize Go.Lib.onesCount (wd N 3) = p3 at *
  rw [← HC]
  clear HC hs
  generalize wd N 0 = x0 at *
  generalize wd N 1 = x1 at *
  generalize wd N 2 = x2 at *
  generalize wd N 3 = x3 at *
  have BA := Lib.hid (heap_alloc_new w (.cells #[.int .u64 x0, .int .u64 x1, .int .u64 x2, .int .u64 x3] 25))
  have HB := Lib.hid (below1 w (.cells #[.int .u64 x0, .int .u64 x1, .int .u64 x2, .int .u64 x3] 25))
  have I0 : ∀ W, (Instr.index 23 (.agg #[.int .u64 x0, .int .u64 x1, .int .u64 x2, .int .u64 x3]) (.int .i64 0)).run Tryd.prog W = .ok (.int .u64 x0) W := fun W => by kernel_rfl
  have I1 : ∀ W, (Instr.index 23 (.agg #[.int .u64 x0, .int .u64 x1, .int .u64 x2, .int .u64 x3]) (.int .i64 1)).run Tryd.prog W = .ok (.int .u64 x1) W := fun W => by kernel_rfl
  have I2 : ∀ W, (Instr.index 23 (.agg #[.int .u64 x0, .int .u64 x1, .int .u64 x2, .int .u64 x3]) (.int .i64 2)).run Tryd.prog W = .ok (.int .u64 x2) W := fun W => by kernel_rfl
  have I3 : ∀ W, (Instr.index 23 (.agg #[.int .u64 x0, .int .u64 x1, .int .u64 x2, .int .u64 x3]) (.int .i64 3)).run Tryd.prog W = .ok (.int .u64 x3) W := fun W => by kernel_rfl
  go_enter Tryd.func14, Tryd.ntmps14
  go_wp2
  go_loopw [3, 5, 8] (fun q v t wr => ∃ k : Nat, k ≤ 4 ∧ t = .int .i64 (k : Nat) ∧ q = .int .i64 ((if 0 < k then p0 else 0) + (if 1 < k then p1 else 0) + (if 2 < k then p2 else 0) + (if 3 < k then p3 else 0) : Nat) ∧ Hid (Below w.heap.size w wr)) (fun _ _ t _ => 4 - (intOf t).toNat)
  case atStart => exact ⟨0, by omega, rfl, rfl, HB⟩
  case round =>
    obtain ⟨k, hk, rfl, rfl, HB1⟩ := hrel
    clear HB
    have hc : k = 0 ∨ k = 1 ∨ k = 2 ∨ k = 3 ∨ k = 4 := by omega
    rcases hc with rfl | rfl | rfl | rfl | rfl
    · simp only [Nat.lt_irrefl, if_false, Nat.reduceLT, if_true, Nat.add_zero, Nat.zero_add]
      rw [show ((0 : Nat) : Int) = 0 from rfl]
      go_wp2_with (go_at_call 36; (with_reducible refine (c0.out _).mono ?_); rintro e w6 ⟨rfl, rfl⟩)
      go_roundw
      case rel => exact ⟨1, by omega, by simp, by simp, HB1⟩
      case measure => simp [intOf]
    · simp only [Nat.lt_irrefl, if_false, Nat.reduceLT, if_true, Nat.add_zero, Nat.zero_add]
      rw [show ((1 : Nat) : Int) = 1 from rfl]
      go_wp2_with (go_at_call 36; (with_reducible refine (c1.out _).mono ?_); rintro e w6 ⟨rfl, rfl⟩)
      go_roundw
      case rel => exact ⟨2, by omega, by simp, by simp, HB1⟩
      case measure => simp [intOf]
    · simp only [Nat.lt_irrefl, if_false, Nat.reduceLT, if_true, Nat.add_zero, Nat.zero_add]
      rw [show ((2 : Nat) : Int) = 2 from rfl]
      go_wp2_with (go_at_call 36; (with_reducible refine (c2.out _).mono ?_); rintro e w6 ⟨rfl, rfl⟩)
      go_roundw
      case rel => exact ⟨3, by omega, by simp, by simp, HB1⟩
      case measure => simp [intOf]
    · simp only [Nat.lt_irrefl, if_false, Nat.reduceLT, if_true, Nat.add_zero, Nat.zero_add]
      rw [show ((3 : Nat) : Int) = 3 from rfl]
      go_wp2_with (go_at_call 36; (with_reducible refine (c3.out _).mono ?_); rintro e w6 ⟨rfl, rfl⟩)
      go_roundw
      case rel => exact ⟨4, by omega, by simp, by simp, HB1⟩
      case measure => simp [intOf]
    · simp only [Nat.reduceLT, if_true]
      go_wp2
      go_ret
      exact ⟨rfl, HB1.out⟩
/-- the table -/
def Tab (w : World) : Prop := 0 < w.heap.size ∧ ∀ i : Nat, i < 64 → w.cell? ⟨0, i, none⟩ = some (.int .u8 (Go.Lib.deBruijn64tab.getD i 0 : Nat))
theorem Tab.below {w w' : World} (h : Tab w) (hb : Below w.heap.size w w') : Tab w' := ⟨Nat.lt_of_lt_of_le h.1 hb.size, fun i hi => below_of hb (h.2 i hi)⟩
theorem tz_walk (x nx l p k r : Int) (i : Nat) (w : World) (hx : (x == 0) = false) (hN : IntKind.u64.wrap (-x) = nx) (hA : bits BinOp.and IntKind.u64 x nx = l) (hM : IntKind.u64.wrap (l * 285870213051353865) = p) (hk : p / 288230376151711744 = (i : Nat)) (hi : i < 64) (hc : w.cell? ⟨0, i, none⟩ = some (.int .u8 r)) (hr0 : 0 ≤ r) (hr1 : r < 256) :
    Calls Tryd.prog 35 #[.int .u64 x] w fun e w' => e = .returned (.int .i64 r) ∧ w' = w := by
  go_enter Tryd.func35, Tryd.ntmps35
  go_wp2
  go_ret
  exact ⟨rfl, rfl⟩
theorem tz_calls (x : Nat) (h0 : x ≠ 0) (hx : x < 18446744073709551616) (w : World) (hT : Tab w) : Calls Tryd.prog 35 #[.int .u64 x] w fun e w' => e = .returned (.int .i64 (Go.Lib.ctz 64 x : Nat)) ∧ w' = w := by
  obtain ⟨e, hl⟩ := Go.Lib.lowest_bit 64 x h0 hx
  obtain ⟨d1, d2⟩ := Go.Lib.deBruijn64_at _ hl
  generalize Go.Lib.ctz 64 x = c at *
  have hp : 2 ^ c < 18446744073709551616 := by
    have := Nat.pow_lt_pow_right (a := 2) (by decide) hl
    rwa [show (2 : Nat) ^ 64 = 18446744073709551616 by decide] at this
  have hw : ∀ q : Nat, IntKind.u64.wrap (q : Int) = ((q % 18446744073709551616 : Nat) : Int) := fun q => by
    simp [IntKind.wrap, IntKind.signed, IntKind.bits]
  have hc := hT.2 _ d1
  rw [d2] at hc
  refine tz_walk x ((18446744073709551616 - x : Nat) : Int) ((2 ^ c : Nat) : Int) ((2 ^ c * 285870213051353865 % 18446744073709551616 : Nat) : Int) 0 (c : Int) _ w (by simp; omega) ?_ ?_ ?_ ?_ d1 hc (by omega) (by omega)
  · simp [IntKind.wrap, IntKind.signed, IntKind.bits]
    omega
  · rw [u64_and_nat x (18446744073709551616 - x) hx (by omega), ← e]
  · rw [← hw]
    congr 1
  · generalize 2 ^ c * 285870213051353865 % 18446744073709551616 = q
    omega
end Go.Proofs.YtdociniomegpnaaDoor.CLen
