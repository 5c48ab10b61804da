/- The calls whose answers the document fixes. -/
import Derived.Test.YtdociniomegpnaaDoorCOf
import Derived.Test.YtdociniomegpnaaDoorCSame
import Derived.Test.YtdociniomegpnaaDoorCMin
import Derived.Test.YtdociniomegpnaaDoorCFold
namespace Go.Proofs.YtdociniomegpnaaDoor.CFixed
open Go.RowKit CMem CBits CSet CMake COps CLen CMin CEqs CFold CRng CRuns CSame COf Go.Proofs.YtdociniomegpnaaDoorW.PrintWords Go.Proofs.YtdociniomegpnaaDoorW.PrintLast Go.Proofs.YtdociniomegpnaaDoorW.PrintMore
set_option linter.unusedVariables false
set_option linter.unusedSimpArgs false
set_option maxRecDepth 100000

theorem ranges_row (N : Nat) (w : World) :
    Calls Tryd.prog 17 #[.agg (sc N)] w fun e w' => (∃ v, e = .returned v ∧ Row w' v (runs N)) ∧ Below w.heap.size w w' :=
  (ranges_calls N w).mono fun e w' h => ⟨h.1.imp fun v hv => ⟨hv.1, Row.of_owns hv.2⟩, h.2⟩
theorem runs_len (N : Nat) : (runs N).length ≤ 257 := by
  have := (rst_ok N 256).2.2
  unfold runs
  split
  · omega
  · simp; omega
theorem f_of (w : World) : Calls Tryd.prog 29 #[.string ⟨#[98, 99, 100, 120]⟩] w fun e w' => e = .returned (.agg #[.int .u64 0, .int .u64 72057714297012224, .int .u64 0, .int .u64 0]) ∧ Below w.heap.size w w' := by
  have h := of_calls ⟨#[98, 99, 100, 120]⟩ (by decide) w
  rw [show sc (tx ⟨#[98, 99, 100, 120]⟩ (ByteArray.size ⟨#[98, 99, 100, 120]⟩)) = #[.int .u64 0, .int .u64 72057714297012224, .int .u64 0, .int .u64 0] by kernel_rfl] at h
  exact h
theorem f_of3 (w : World) : Calls Tryd.prog 29 #[.string ⟨#[97, 98, 99]⟩] w fun e w' => e = .returned (.agg #[.int .u64 0, .int .u64 60129542144, .int .u64 0, .int .u64 0]) ∧ Below w.heap.size w w' := by
  have h := of_calls ⟨#[97, 98, 99]⟩ (by decide) w
  rw [show sc (tx ⟨#[97, 98, 99]⟩ (ByteArray.size ⟨#[97, 98, 99]⟩)) = #[.int .u64 0, .int .u64 60129542144, .int .u64 0, .int .u64 0] by kernel_rfl] at h
  exact h
theorem f_ofx (w : World) : Calls Tryd.prog 29 #[.string ⟨#[120, 120]⟩] w fun e w' => e = .returned (.agg #[.int .u64 0, .int .u64 72057594037927936, .int .u64 0, .int .u64 0]) ∧ Below w.heap.size w w' := by
  have h := of_calls ⟨#[120, 120]⟩ (by decide) w
  rw [show sc (tx ⟨#[120, 120]⟩ (ByteArray.size ⟨#[120, 120]⟩)) = #[.int .u64 0, .int .u64 72057594037927936, .int .u64 0, .int .u64 0] by kernel_rfl] at h
  exact h
theorem f_ofz (w : World) : Calls Tryd.prog 29 #[.string ⟨#[120, 121, 122]⟩] w fun e w' => e = .returned (.agg #[.int .u64 0, .int .u64 504403158265495552, .int .u64 0, .int .u64 0]) ∧ Below w.heap.size w w' := by
  have h := of_calls ⟨#[120, 121, 122]⟩ (by decide) w
  rw [show sc (tx ⟨#[120, 121, 122]⟩ (ByteArray.size ⟨#[120, 121, 122]⟩)) = #[.int .u64 0, .int .u64 504403158265495552, .int .u64 0, .int .u64 0] by kernel_rfl] at h
  exact h
theorem f_min (w : World) (hT : Tab w) : Calls Tryd.prog 11 #[.agg #[.int .u64 0, .int .u64 72057714297012224, .int .u64 0, .int .u64 0]] w fun e w' => e = .returned (.tuple #[.int .u8 98, .bool true]) ∧ Below w.heap.size w w' := by
  have h := min_calls 1329230214173466272305259679510953984 w hT
  rw [show sc 1329230214173466272305259679510953984 = #[.int .u64 0, .int .u64 72057714297012224, .int .u64 0, .int .u64 0] by kernel_rfl] at h
  rw [show ((if someF 1329230214173466272305259679510953984 then minF 1329230214173466272305259679510953984 else 0 : Nat) : Int) = 98 by kernel_rfl] at h
  rw [show someF 1329230214173466272305259679510953984 = true by kernel_rfl] at h
  exact h
theorem f_min0 (w : World) (hT : Tab w) : Calls Tryd.prog 11 #[.agg #[.int .u64 0, .int .u64 0, .int .u64 0, .int .u64 0]] w fun e w' => e = .returned (.tuple #[.int .u8 0, .bool false]) ∧ Below w.heap.size w w' := by
  have h := min_calls 0 w hT
  rw [show sc 0 = #[.int .u64 0, .int .u64 0, .int .u64 0, .int .u64 0] by kernel_rfl] at h
  rw [show ((if someF 0 then minF 0 else 0 : Nat) : Int) = 0 by kernel_rfl] at h
  rw [show someF 0 = false by kernel_rfl] at h
  exact h
theorem f_len (w : World) : Calls Tryd.prog 14 #[.agg #[.int .u64 0, .int .u64 72057714297012224, .int .u64 0, .int .u64 0]] w fun e w' => e = .returned (.int .i64 4) ∧ Below w.heap.size w w' := by
  have h := len_calls 1329230214173466272305259679510953984 w
  rw [show sc 1329230214173466272305259679510953984 = #[.int .u64 0, .int .u64 72057714297012224, .int .u64 0, .int .u64 0] by kernel_rfl] at h
  rw [show ((cnt 1329230214173466272305259679510953984 256 : Nat) : Int) = 4 by kernel_rfl] at h
  exact h
theorem f_lenA (w : World) : Calls Tryd.prog 14 #[.agg #[.int .u64 18446744073709551615, .int .u64 18446744073709551615, .int .u64 18446744073709551615, .int .u64 18446744073709551615]] w fun e w' => e = .returned (.int .i64 256) ∧ Below w.heap.size w w' := by
  have h := len_calls 115792089237316195423570985008687907853269984665640564039457584007913129639935 w
  rw [show sc 115792089237316195423570985008687907853269984665640564039457584007913129639935 = #[.int .u64 18446744073709551615, .int .u64 18446744073709551615, .int .u64 18446744073709551615, .int .u64 18446744073709551615] by kernel_rfl] at h
  rw [show ((cnt 115792089237316195423570985008687907853269984665640564039457584007913129639935 256 : Nat) : Int) = 256 by kernel_rfl] at h
  exact h
theorem f_lenN (w : World) : Calls Tryd.prog 14 #[.agg #[.int .u64 18446744073709551615, .int .u64 18374686359412539391, .int .u64 18446744073709551615, .int .u64 18446744073709551615]] w fun e w' => e = .returned (.int .i64 252) ∧ Below w.heap.size w w' := by
  have h := len_calls 115792089237316195423570985008687907853268655435426390573185278748233618685951 w
  rw [show sc 115792089237316195423570985008687907853268655435426390573185278748233618685951 = #[.int .u64 18446744073709551615, .int .u64 18374686359412539391, .int .u64 18446744073709551615, .int .u64 18446744073709551615] by kernel_rfl] at h
  rw [show ((cnt 115792089237316195423570985008687907853268655435426390573185278748233618685951 256 : Nat) : Int) = 252 by kernel_rfl] at h
  exact h
theorem f_lenF (w : World) : Calls Tryd.prog 14 #[.agg #[.int .u64 0, .int .u64 72057714313789468, .int .u64 0, .int .u64 0]] w fun e w' => e = .returned (.int .i64 8) ∧ Below w.heap.size w w' := by
  have h := len_calls 1329230214482951798635438812103180288 w
  rw [show sc 1329230214482951798635438812103180288 = #[.int .u64 0, .int .u64 72057714313789468, .int .u64 0, .int .u64 0] by kernel_rfl] at h
  rw [show ((cnt 1329230214482951798635438812103180288 256 : Nat) : Int) = 8 by kernel_rfl] at h
  exact h
theorem f_len5 (w : World) : Calls Tryd.prog 14 #[.agg #[.int .u64 0, .int .u64 72057722886946816, .int .u64 0, .int .u64 0]] w fun e w' => e = .returned (.int .i64 5) ∧ Below w.heap.size w w' := by
  have h := len_calls 1329230372629791300833934866598854656 w
  rw [show sc 1329230372629791300833934866598854656 = #[.int .u64 0, .int .u64 72057722886946816, .int .u64 0, .int .u64 0] by kernel_rfl] at h
  rw [show ((cnt 1329230372629791300833934866598854656 256 : Nat) : Int) = 5 by kernel_rfl] at h
  exact h
theorem f_has (w : World) : Calls Tryd.prog 13 #[.agg #[.int .u64 0, .int .u64 72057714297012224, .int .u64 0, .int .u64 0], .int .u8 100] w fun e w' => e = .returned (.bool true) ∧ Below w.heap.size w w' := by
  have h := has_calls 1329230214173466272305259679510953984 100 (by decide) w
  rw [show sc 1329230214173466272305259679510953984 = #[.int .u64 0, .int .u64 72057714297012224, .int .u64 0, .int .u64 0] by kernel_rfl] at h
  rw [show Nat.testBit 1329230214173466272305259679510953984 100 = true by kernel_rfl] at h
  rw [show ((100 : Nat) : Int) = 100 by kernel_rfl] at h
  exact h
theorem f_hasn (w : World) : Calls Tryd.prog 13 #[.agg #[.int .u64 0, .int .u64 72057714297012224, .int .u64 0, .int .u64 0], .int .u8 97] w fun e w' => e = .returned (.bool false) ∧ Below w.heap.size w w' := by
  have h := has_calls 1329230214173466272305259679510953984 97 (by decide) w
  rw [show sc 1329230214173466272305259679510953984 = #[.int .u64 0, .int .u64 72057714297012224, .int .u64 0, .int .u64 0] by kernel_rfl] at h
  rw [show Nat.testBit 1329230214173466272305259679510953984 97 = false by kernel_rfl] at h
  rw [show ((97 : Nat) : Int) = 97 by kernel_rfl] at h
  exact h
theorem f_hasF (w : World) : Calls Tryd.prog 13 #[.agg #[.int .u64 0, .int .u64 72057714313789468, .int .u64 0, .int .u64 0], .int .u8 88] w fun e w' => e = .returned (.bool true) ∧ Below w.heap.size w w' := by
  have h := has_calls 1329230214482951798635438812103180288 88 (by decide) w
  rw [show sc 1329230214482951798635438812103180288 = #[.int .u64 0, .int .u64 72057714313789468, .int .u64 0, .int .u64 0] by kernel_rfl] at h
  rw [show Nat.testBit 1329230214482951798635438812103180288 88 = true by kernel_rfl] at h
  rw [show ((88 : Nat) : Int) = 88 by kernel_rfl] at h
  exact h
theorem f_all (w : World) : Calls Tryd.prog 34 #[] w fun e w' => e = .returned (.agg #[.int .u64 18446744073709551615, .int .u64 18446744073709551615, .int .u64 18446744073709551615, .int .u64 18446744073709551615]) ∧ Below w.heap.size w w' := by
  have h := all_calls w
  rw [show sc (notN 0) = #[.int .u64 18446744073709551615, .int .u64 18446744073709551615, .int .u64 18446744073709551615, .int .u64 18446744073709551615] by kernel_rfl] at h
  exact h
theorem f_not (w : World) : Calls Tryd.prog 24 #[.agg #[.int .u64 0, .int .u64 72057714297012224, .int .u64 0, .int .u64 0]] w fun e w' => e = .returned (.agg #[.int .u64 18446744073709551615, .int .u64 18374686359412539391, .int .u64 18446744073709551615, .int .u64 18446744073709551615]) ∧ Below w.heap.size w w' := by
  have h := not_calls 1329230214173466272305259679510953984 (by decide) w
  rw [show sc 1329230214173466272305259679510953984 = #[.int .u64 0, .int .u64 72057714297012224, .int .u64 0, .int .u64 0] by kernel_rfl] at h
  rw [show sc (notN 1329230214173466272305259679510953984) = #[.int .u64 18446744073709551615, .int .u64 18374686359412539391, .int .u64 18446744073709551615, .int .u64 18446744073709551615] by kernel_rfl] at h
  exact h
theorem f_fold (w : World) : Calls Tryd.prog 26 #[.agg #[.int .u64 0, .int .u64 72057714297012224, .int .u64 0, .int .u64 0]] w fun e w' => e = .returned (.agg #[.int .u64 0, .int .u64 72057714313789468, .int .u64 0, .int .u64 0]) ∧ Below w.heap.size w w' := by
  have h := fold_calls 1329230214173466272305259679510953984 (by decide) w
  rw [show sc 1329230214173466272305259679510953984 = #[.int .u64 0, .int .u64 72057714297012224, .int .u64 0, .int .u64 0] by kernel_rfl] at h
  rw [show sc (fd 1329230214173466272305259679510953984 26) = #[.int .u64 0, .int .u64 72057714313789468, .int .u64 0, .int .u64 0] by kernel_rfl] at h
  exact h
theorem f_rng (w : World) : Calls Tryd.prog 31 #[.int .u8 97, .int .u8 99] w fun e w' => e = .returned (.agg #[.int .u64 0, .int .u64 60129542144, .int .u64 0, .int .u64 0]) ∧ Below w.heap.size w w' := by
  have h := range_calls 97 99 (by decide) (by decide) w
  rw [show ((97 : Nat) : Int) = 97 by kernel_rfl] at h
  rw [show ((99 : Nat) : Int) = 99 by kernel_rfl] at h
  rw [show sc (rg 97 (99 + 1 - 97)) = #[.int .u64 0, .int .u64 60129542144, .int .u64 0, .int .u64 0] by kernel_rfl] at h
  exact h
theorem f_rng0 (w : World) : Calls Tryd.prog 31 #[.int .u8 99, .int .u8 97] w fun e w' => e = .returned (.agg #[.int .u64 0, .int .u64 0, .int .u64 0, .int .u64 0]) ∧ Below w.heap.size w w' := by
  have h := range_calls 99 97 (by decide) (by decide) w
  rw [show ((97 : Nat) : Int) = 97 by kernel_rfl] at h
  rw [show ((99 : Nat) : Int) = 99 by kernel_rfl] at h
  rw [show sc (rg 99 (97 + 1 - 99)) = #[.int .u64 0, .int .u64 0, .int .u64 0, .int .u64 0] by kernel_rfl] at h
  exact h
theorem f_one (w : World) : Calls Tryd.prog 33 #[.int .u8 120] w fun e w' => e = .returned (.agg #[.int .u64 0, .int .u64 72057594037927936, .int .u64 0, .int .u64 0]) ∧ Below w.heap.size w w' := by
  have h := one_calls 120 (by decide) w
  rw [show ((120 : Nat) : Int) = 120 by kernel_rfl] at h
  rw [show sc (2 ^ 120) = #[.int .u64 0, .int .u64 72057594037927936, .int .u64 0, .int .u64 0] by kernel_rfl] at h
  exact h
theorem f_onea (w : World) : Calls Tryd.prog 33 #[.int .u8 97] w fun e w' => e = .returned (.agg #[.int .u64 0, .int .u64 8589934592, .int .u64 0, .int .u64 0]) ∧ Below w.heap.size w w' := by
  have h := one_calls 97 (by decide) w
  rw [show ((97 : Nat) : Int) = 97 by kernel_rfl] at h
  rw [show sc (2 ^ 97) = #[.int .u64 0, .int .u64 8589934592, .int .u64 0, .int .u64 0] by kernel_rfl] at h
  exact h
theorem f_or (w : World) : Calls Tryd.prog 19 #[.agg #[.int .u64 0, .int .u64 72057714297012224, .int .u64 0, .int .u64 0], .agg #[.int .u64 0, .int .u64 8589934592, .int .u64 0, .int .u64 0]] w fun e w' => e = .returned (.agg #[.int .u64 0, .int .u64 72057722886946816, .int .u64 0, .int .u64 0]) ∧ Below w.heap.size w w' := by
  have h := or_calls 1329230214173466272305259679510953984 158456325028528675187087900672 w
  rw [show sc 1329230214173466272305259679510953984 = #[.int .u64 0, .int .u64 72057714297012224, .int .u64 0, .int .u64 0] by kernel_rfl] at h
  rw [show sc 158456325028528675187087900672 = #[.int .u64 0, .int .u64 8589934592, .int .u64 0, .int .u64 0] by kernel_rfl] at h
  rw [show sc (1329230214173466272305259679510953984 ||| 158456325028528675187087900672) = #[.int .u64 0, .int .u64 72057722886946816, .int .u64 0, .int .u64 0] by kernel_rfl] at h
  exact h
theorem f_and (w : World) : Calls Tryd.prog 22 #[.agg #[.int .u64 0, .int .u64 72057714297012224, .int .u64 0, .int .u64 0], .agg #[.int .u64 0, .int .u64 504403158265495552, .int .u64 0, .int .u64 0]] w fun e w' => e = .returned (.agg #[.int .u64 0, .int .u64 72057594037927936, .int .u64 0, .int .u64 0]) ∧ Below w.heap.size w w' := by
  have h := and_calls 1329230214173466272305259679510953984 9304595970494411110326649421962412032 w
  rw [show sc 1329230214173466272305259679510953984 = #[.int .u64 0, .int .u64 72057714297012224, .int .u64 0, .int .u64 0] by kernel_rfl] at h
  rw [show sc 9304595970494411110326649421962412032 = #[.int .u64 0, .int .u64 504403158265495552, .int .u64 0, .int .u64 0] by kernel_rfl] at h
  rw [show sc (1329230214173466272305259679510953984 &&& 9304595970494411110326649421962412032) = #[.int .u64 0, .int .u64 72057594037927936, .int .u64 0, .int .u64 0] by kernel_rfl] at h
  exact h
theorem f_runs : runs 1329230214173466272305259679510953984 = [(98, 100), (120, 120)] := by kernel_rfl
theorem f_ranges (w : World) : Calls Tryd.prog 17 #[.agg #[.int .u64 0, .int .u64 72057714297012224, .int .u64 0, .int .u64 0]] w fun e w' => (∃ v, e = .returned v ∧ Row w' v [(98, 100), (120, 120)]) ∧ Below w.heap.size w w' := by
  have h := ranges_row 1329230214173466272305259679510953984 w
  rw [show sc 1329230214173466272305259679510953984 = #[.int .u64 0, .int .u64 72057714297012224, .int .u64 0, .int .u64 0] by kernel_rfl, f_runs] at h
  exact h
end Go.Proofs.YtdociniomegpnaaDoor.CFixed
