import Derived.Shelf.Small.Bits
import Derived.Shelf.Strconv.Itoa0
import Derived.Shelf.Strconv.Itoa1
import Derived.Shelf.LaysM
import Derived.Shelf.Strconv.Itoa2
import Derived.Shelf.Strconv.Itoa3
import Derived.Shelf.Slices.Turned
import Derived.Ground.SlsfProg
import Derived.Shelf.SlSortCmp.Insertion
import Derived.Shelf.SlSortCmp.SiftDown1
import Derived.Shelf.SlSortCmp.HeapSort1
import Derived.Shelf.SlSortCmp.Insertion1
import Derived.Shelf.SlSortCmp.Median1
import Derived.Shelf.SlSortCmp.Pivot1
import Derived.Shelf.SlSortCmp.ReverseRange1
import Derived.Shelf.SlSortCmp.PartialInsertion1
import Derived.Shelf.SlSortCmp.PartitionEqual1
import Derived.Shelf.SlSortCmp.Partition1
import Derived.Shelf.SlSortCmp.Pdq1
import Derived.Shelf.SlSortCmp.Whole1
import Derived.Shelf.SlSortCmp.NoneTotal
import Derived.Test.YtaaihcojedibeaaDoorProg
import Derived.Test.YtaaihcojedibeaaDoorZ4
import Derived.BigQuiet
import Derived.Test.YtaaihcojedibeaaDoorZ0
import Derived.Test.YtaaihcojedibeaaDoorQAll
section
/-
  DERIVED: THE SHELF's CONTRACTS AT THIS DUMP, IN PLAIN WORDS (tools/lay-plain.mjs out of 'TrydShelf.lean', which tools/lay-shelf.mjs wrote): THE SAME DECLARATIONS UNDER THE SAME NAMES: 'import', 'namespace', 'open', 'def', 'theorem' AND NOTHING ELSE: no command of the shelf's: FOR A HAND-IN. Each laying: the table of numbers ('.._ren') and one theorem, a field a fact of the dump's own or the kernel's comparison; each contract: ONE APPLICATION.
-/
namespace Go.Proofs
open Go.Shelf
def Tryd.lays128_ren : Go.Shelf.Ren := ⟨fun | 128 => 65 | n => n, fun | 51 => 93 | 3 => 3 | 4 => 4 | 46 => 76 | 5 => 5 | 9 => 9 | n => n, fun | n => n⟩
theorem Tryd.lays128 : Go.Proofs.Lays.n128 Tryd.prog Tryd.lays128_ren := {
  mixed := by kernel_rfl
  f128 := Tryd.func65.trans (congrArg some (by kernel_rfl))
  t3 := Tryd.underlying3
  a3 := Tryd.isAgg3
  z3 := Tryd.sizeOf3
  v3 := Tryd.zeroValue3
  t4 := Tryd.underlying4
  a4 := Tryd.isAgg4
  z4 := Tryd.sizeOf4
  v4 := Tryd.zeroValue4
  t5 := Tryd.underlying5
  a5 := Tryd.isAgg5
  z5 := Tryd.sizeOf5
  v5 := Tryd.zeroValue5
  t9 := Tryd.underlying9
  a9 := Tryd.isAgg9
  z9 := Tryd.sizeOf9
  v9 := Tryd.zeroValue9
  t46 := Tryd.underlying76
  a46 := Tryd.isAgg76
  z46 := Tryd.sizeOf76
  v46 := Tryd.zeroValue76
  t51 := Tryd.underlying93
  a51 := Tryd.isAgg93
  z51 := Tryd.sizeOf93
  v51 := Tryd.zeroValue93 }
/-- bits.Len32: "Len32 returns the minimum number of bits required to represent x; the result is 0 for x == 0.": IT RETURNS 'Lib.bitLen x'; the world is as it was. ('h0', 'h1': x is a uint32.) (LAID: no walk: one application.) -/
theorem Tryd.bits_Len32 (x : Int) (w : World) (h0 : 0 ≤ x) (h1 : x ≤ 4294967295) :
    Calls Tryd.prog 65 #[.int .u32 x] w fun e w' => e = .returned (.int .i64 (Lib.bitLen x.toNat)) ∧ w' = w := Any.bits_Len32 Tryd.lays128 x w h0 h1
def Tryd.lays125_ren : Go.Shelf.Ren := ⟨fun | 125 => 49 | 128 => 65 | 129 => 66 | n => n, fun | 46 => 76 | 3 => 3 | 51 => 93 | 53 => 32 | 4 => 4 | 5 => 5 | 9 => 9 | n => n, fun | n => n⟩
theorem Tryd.lays125 : Go.Proofs.Lays.n125 Tryd.prog Tryd.lays125_ren := {
  mixed := by kernel_rfl
  f125 := Tryd.func49.trans (congrArg some (by kernel_rfl))
  f128 := Tryd.func65.trans (congrArg some (by kernel_rfl))
  f129 := Tryd.func66.trans (congrArg some (by kernel_rfl))
  t3 := Tryd.underlying3
  a3 := Tryd.isAgg3
  z3 := Tryd.sizeOf3
  v3 := Tryd.zeroValue3
  t4 := Tryd.underlying4
  a4 := Tryd.isAgg4
  z4 := Tryd.sizeOf4
  v4 := Tryd.zeroValue4
  t5 := Tryd.underlying5
  a5 := Tryd.isAgg5
  z5 := Tryd.sizeOf5
  v5 := Tryd.zeroValue5
  t9 := Tryd.underlying9
  a9 := Tryd.isAgg9
  z9 := Tryd.sizeOf9
  v9 := Tryd.zeroValue9
  t46 := Tryd.underlying76
  a46 := Tryd.isAgg76
  z46 := Tryd.sizeOf76
  v46 := Tryd.zeroValue76
  t51 := Tryd.underlying93
  a51 := Tryd.isAgg93
  z51 := Tryd.sizeOf93
  v51 := Tryd.zeroValue93
  t53 := Tryd.underlying32
  a53 := Tryd.isAgg32
  z53 := Tryd.sizeOf32
  v53 := Tryd.zeroValue32 }
/-- bits.Len: "Len returns the minimum number of bits required to represent x; the result is 0 for x == 0.": IT RETURNS 'Lib.bitLen x'; the world is as it was. (A uint has 64 bits in the model.) ITS CALLEE bits.Len64 IS MET BY ITS OWN CONTRACT OFF THE SHELF (lay that first). (LAID: no walk: one application.) -/
theorem Tryd.bits_Len (x : Int) (w : World) (h0 : 0 ≤ x) (h1 : x ≤ 18446744073709551615) :
    Calls Tryd.prog 49 #[.int .u64 x] w fun e w' => e = .returned (.int .i64 (Lib.bitLen x.toNat)) ∧ w' = w := Any.bits_Len Tryd.lays125 x w h0 h1
def Tryd.lays129_ren : Go.Shelf.Ren := ⟨fun | 129 => 66 | n => n, fun | 53 => 32 | 3 => 3 | 4 => 4 | 46 => 76 | 5 => 5 | 9 => 9 | n => n, fun | n => n⟩
theorem Tryd.lays129 : Go.Proofs.Lays.n129 Tryd.prog Tryd.lays129_ren := {
  mixed := by kernel_rfl
  f129 := Tryd.func66.trans (congrArg some (by kernel_rfl))
  t3 := Tryd.underlying3
  a3 := Tryd.isAgg3
  z3 := Tryd.sizeOf3
  v3 := Tryd.zeroValue3
  t4 := Tryd.underlying4
  a4 := Tryd.isAgg4
  z4 := Tryd.sizeOf4
  v4 := Tryd.zeroValue4
  t5 := Tryd.underlying5
  a5 := Tryd.isAgg5
  z5 := Tryd.sizeOf5
  v5 := Tryd.zeroValue5
  t9 := Tryd.underlying9
  a9 := Tryd.isAgg9
  z9 := Tryd.sizeOf9
  v9 := Tryd.zeroValue9
  t46 := Tryd.underlying76
  a46 := Tryd.isAgg76
  z46 := Tryd.sizeOf76
  v46 := Tryd.zeroValue76
  t53 := Tryd.underlying32
  a53 := Tryd.isAgg32
  z53 := Tryd.sizeOf32
  v53 := Tryd.zeroValue32 }
/-- bits.Len64: "Len64 returns the minimum number of bits required to represent x; the result is 0 for x == 0.": IT RETURNS 'Lib.bitLen x'; the world is as it was. ('h0', 'h1': x is a uint64.) (LAID: no walk: one application.) -/
theorem Tryd.bits_Len64 (x : Int) (w : World) (h0 : 0 ≤ x) (h1 : x ≤ 18446744073709551615) :
    Calls Tryd.prog 66 #[.int .u64 x] w fun e w' => e = .returned (.int .i64 (Lib.bitLen x.toNat)) ∧ w' = w := Any.bits_Len64 Tryd.lays129 x w h0 h1
def Tryd.lays317_ren : Go.Shelf.Ren := ⟨fun | 317 => 79 | n => n, fun | 3 => 3 | 46 => 76 | n => n, fun | n => n⟩
theorem Tryd.lays317 : Go.Proofs.Lays.n317 Tryd.prog Tryd.lays317_ren := {
  mixed := by kernel_rfl
  f317 := Tryd.func79.trans (congrArg some (by kernel_rfl))
  t3 := Tryd.underlying3
  a3 := Tryd.isAgg3
  z3 := Tryd.sizeOf3
  v3 := Tryd.zeroValue3
  t46 := Tryd.underlying76
  a46 := Tryd.isAgg76
  z46 := Tryd.sizeOf76
  v46 := Tryd.zeroValue76 }
open Go.Lib in
/-- internal/strconv.log10Pow2: "log10Pow2(x) returns ⌊log₁₀ 2**x⌋ = ⌊x * log₁₀ 2⌋.": '(x * 78913) >> 18', at an x up to 64 (a length in bits). The world is as it was. (LAID: no walk: one application.) -/
theorem Tryd.internal_strconv_log10Pow2 (x : Nat) (h : x ≤ 64) (w : World) :
    Calls Tryd.prog 79 #[.int .i64 x] w fun e w' => e = .returned (.int .i64 (Lib.l10 x)) ∧ w' = w := Any.internal_strconv_log10Pow2 Tryd.lays317 x h w
def Tryd.lays318_ren : Go.Shelf.Ren := ⟨fun | 318 => 80 | n => n, fun | 3 => 3 | 4 => 4 | n => n, fun | n => n⟩
theorem Tryd.lays318 : Go.Proofs.Lays.n318 Tryd.prog Tryd.lays318_ren := {
  mixed := by kernel_rfl
  f318 := Tryd.func80.trans (congrArg some (by kernel_rfl))
  t3 := Tryd.underlying3
  a3 := Tryd.isAgg3
  z3 := Tryd.sizeOf3
  v3 := Tryd.zeroValue3
  t4 := Tryd.underlying4
  a4 := Tryd.isAgg4
  z4 := Tryd.sizeOf4
  v4 := Tryd.zeroValue4 }
open Go.Lib in
/-- internal/strconv.bool2: "bool2 converts b to an integer: 1 for true, 0 for false." The world is as it was. (LAID: no walk: one application.) -/
theorem Tryd.internal_strconv_bool2_int (b : Bool) (w : World) :
    Calls Tryd.prog 80 #[.bool b] w fun e w' => e = .returned (.int .i64 (if b then 1 else 0)) ∧ w' = w := Any.internal_strconv_bool2_int Tryd.lays318 b w
def Tryd.lays283_ren : Go.Shelf.Ren := ⟨fun | 283 => 75 | n => n, fun | 3 => 3 | 9 => 9 | 4 => 4 | n => n, fun | n => n⟩
theorem Tryd.lays283 : Go.Proofs.Lays.n283 Tryd.prog Tryd.lays283_ren := {
  mixed := by kernel_rfl
  f283 := Tryd.func75.trans (congrArg some (by kernel_rfl))
  t3 := Tryd.underlying3
  a3 := Tryd.isAgg3
  z3 := Tryd.sizeOf3
  v3 := Tryd.zeroValue3
  t4 := Tryd.underlying4
  a4 := Tryd.isAgg4
  z4 := Tryd.sizeOf4
  v4 := Tryd.zeroValue4
  t9 := Tryd.underlying9
  a9 := Tryd.isAgg9
  z9 := Tryd.sizeOf9
  v9 := Tryd.zeroValue9 }
open Go.Lib in
/-- internal/strconv.small: "small returns the string for an i with 0 <= i < nSmalls.": i's decimal numeral. The world is as it was. (LAID: no walk: one application.) -/
theorem Tryd.internal_strconv_small (i : Nat) (h : i < 100) (w : World) :
    Calls Tryd.prog 75 #[.int .i64 i] w fun e w' => e = .returned (.string ⟨(Lib.decDigits i).toArray⟩) ∧ w' = w := Any.internal_strconv_small Tryd.lays283 i h w
def Tryd.laysM284_ren : Go.Shelf.Ren := ⟨fun | 284 => 76 | 129 => 66 | 317 => 79 | 318 => 80 | n => n, fun | 53 => 32 | 3 => 3 | 212 => 109 | 0 => 0 | 4 => 4 | 46 => 76 | 5 => 5 | 9 => 9 | n => n, fun | 17 => 0 | n => n⟩
theorem Tryd.laysM284 : Go.Proofs.LaysM.n284 Tryd.prog Tryd.laysM284_ren := {
  mixed := by kernel_rfl
  f129 := Tryd.func66.trans (congrArg some (by kernel_rfl))
  f284 := Tryd.func76.trans (congrArg some (by kernel_rfl))
  f317 := Tryd.func79.trans (congrArg some (by kernel_rfl))
  f318 := Tryd.func80.trans (congrArg some (by kernel_rfl))
  t0 := Tryd.underlying0
  a0 := Tryd.isAgg0
  z0 := Tryd.sizeOf0
  v0 := Tryd.zeroValue0
  t3 := Tryd.underlying3
  a3 := Tryd.isAgg3
  z3 := Tryd.sizeOf3
  v3 := Tryd.zeroValue3
  t4 := Tryd.underlying4
  a4 := Tryd.isAgg4
  z4 := Tryd.sizeOf4
  v4 := Tryd.zeroValue4
  t5 := Tryd.underlying5
  a5 := Tryd.isAgg5
  z5 := Tryd.sizeOf5
  v5 := Tryd.zeroValue5
  t9 := Tryd.underlying9
  a9 := Tryd.isAgg9
  z9 := Tryd.sizeOf9
  v9 := Tryd.zeroValue9
  t46 := Tryd.underlying76
  a46 := Tryd.isAgg76
  z46 := Tryd.sizeOf76
  v46 := Tryd.zeroValue76
  t53 := Tryd.underlying32
  a53 := Tryd.isAgg32
  z53 := Tryd.sizeOf32
  v53 := Tryd.zeroValue32
  t212 := Tryd.underlying109
  a212 := Tryd.isAgg109
  z212 := Tryd.sizeOf109
  v212 := Tryd.zeroValue109
  g17 := by kernel_rfl
  i0 := by kernel_rfl
  i3 := by kernel_rfl
  i4 := by kernel_rfl
  i5 := by kernel_rfl
  i9 := by kernel_rfl
  i46 := by kernel_rfl
  i53 := by kernel_rfl
  i212 := by kernel_rfl
  m17 := by kernel_rfl }
open Go.Lib in
/-- internal/strconv.numDigits, at a d that is not 0: THE NUMBER OF d's DECIMAL DIGITS. The world is as it was. (LAID: no walk: one application.) -/
theorem Tryd.internal_strconv_numDigits (u : Nat) (h1 : 1 ≤ u) (h2 : u < 18446744073709551616) (w : World) (htab : Lib.TabIs Tryd.prog w "internal/strconv.uint64pow10" .u64 Lib.pow10Tab) :
    Calls Tryd.prog 76 #[.int .u64 u] w fun e w' => e = .returned (.int .i64 (Lib.nDigits u)) ∧ w' = w := Any.internal_strconv_numDigits Tryd.laysM284 u h1 h2 w htab
def Tryd.lays285_ren : Go.Shelf.Ren := ⟨fun | 285 => 77 | n => n, fun | 37 => 65 | 53 => 32 | 3 => 3 | 4 => 4 | 51 => 93 | 9 => 9 | 5 => 5 | 0 => 0 | n => n, fun | n => n⟩
theorem Tryd.lays285 : Go.Proofs.Lays.n285 Tryd.prog Tryd.lays285_ren := {
  mixed := by kernel_rfl
  f285 := Tryd.func77.trans (congrArg some (by kernel_rfl))
  t0 := Tryd.underlying0
  a0 := Tryd.isAgg0
  z0 := Tryd.sizeOf0
  v0 := Tryd.zeroValue0
  t3 := Tryd.underlying3
  a3 := Tryd.isAgg3
  z3 := Tryd.sizeOf3
  v3 := Tryd.zeroValue3
  t4 := Tryd.underlying4
  a4 := Tryd.isAgg4
  z4 := Tryd.sizeOf4
  v4 := Tryd.zeroValue4
  t5 := Tryd.underlying5
  a5 := Tryd.isAgg5
  z5 := Tryd.sizeOf5
  v5 := Tryd.zeroValue5
  t9 := Tryd.underlying9
  a9 := Tryd.isAgg9
  z9 := Tryd.sizeOf9
  v9 := Tryd.zeroValue9
  t37 := Tryd.underlying65
  a37 := Tryd.isAgg65
  z37 := Tryd.sizeOf65
  v37 := Tryd.zeroValue65
  t51 := Tryd.underlying93
  a51 := Tryd.isAgg93
  z51 := Tryd.sizeOf93
  v51 := Tryd.zeroValue93
  t53 := Tryd.underlying32
  a53 := Tryd.isAgg32
  z53 := Tryd.sizeOf32
  v53 := Tryd.zeroValue32 }
open Go.RowKit Go.Sort Go.Lib in
/-- internal/strconv.formatBase10: "formatBase10 formats the decimal representation of u into a. The caller is responsible for ensuring that a is big enough to hold u. If a is too big, leading zeros will be filled in as needed.": THE ROW HOLDS u's DIGITS ('FmtInv .. 0 ..': every place t holds 'dg u (len - 1 - t)'); all else is as it was but for the count of draws. (LAID: no walk: one application.) -/
theorem Tryd.internal_strconv_formatBase10 (blk off cap : Nat) (u : Nat) (d : Array UInt8) (w : World) (hH : Holds (fun (b : UInt8) => Value.int .u8 (b.toNat : Int)) w blk off d) (hu : u < 10 ^ d.size) (hu64 : u < 18446744073709551616) (hsz : d.size < 4611686018427387904) :
    Calls Tryd.prog 77 #[.slice (some ⟨blk, off, none⟩) d.size cap, .int .u64 u] w fun e w' =>
      e = .returned (.tuple #[]) ∧ ∃ (n v' : Nat) (dk : Array UInt8), w' = (putRow (fun (b : UInt8) => Value.int .u8 (b.toNat : Int)) w blk off dk).drewN n ∧ FmtInv d.size u 0 v' dk := Any.internal_strconv_formatBase10 Tryd.lays285 blk off cap u d w hH hu hu64 hsz
def Tryd.laysM246_ren : Go.Shelf.Ren := ⟨fun | 246 => 73 | 283 => 75 | 284 => 76 | 285 => 77 | 286 => 78 | 129 => 66 | 317 => 79 | 318 => 80 | 319 => 81 | 320 => 82 | 337 => 83 | 338 => 84 | n => n, fun | 2 => 2 | 3 => 3 | 9 => 9 | 4 => 4 | 171 => 104 | 0 => 0 | 53 => 32 | 37 => 65 | 5 => 5 | 173 => 106 | 212 => 109 | 51 => 93 | 20 => 20 | 213 => 110 | 46 => 76 | 232 => 112 | 233 => 113 | n => n, fun | 17 => 0 | 18 => 1 | 19 => 2 | n => n⟩
theorem Tryd.laysM246 : Go.Proofs.LaysM.n246 Tryd.prog Tryd.laysM246_ren := {
  mixed := by kernel_rfl
  f129 := Tryd.func66.trans (congrArg some (by kernel_rfl))
  f246 := Tryd.func73.trans (congrArg some (by kernel_rfl))
  f283 := Tryd.func75.trans (congrArg some (by kernel_rfl))
  f284 := Tryd.func76.trans (congrArg some (by kernel_rfl))
  f285 := Tryd.func77.trans (congrArg some (by kernel_rfl))
  f286 := Tryd.func78.trans (congrArg some (by kernel_rfl))
  f317 := Tryd.func79.trans (congrArg some (by kernel_rfl))
  f318 := Tryd.func80.trans (congrArg some (by kernel_rfl))
  f319 := Tryd.func81.trans (congrArg some (by kernel_rfl))
  f320 := Tryd.func82.trans (congrArg some (by kernel_rfl))
  f337 := Tryd.func83.trans (congrArg some (by kernel_rfl))
  f338 := Tryd.func84.trans (congrArg some (by kernel_rfl))
  t0 := Tryd.underlying0
  a0 := Tryd.isAgg0
  z0 := Tryd.sizeOf0
  v0 := Tryd.zeroValue0
  t2 := Tryd.underlying2
  a2 := Tryd.isAgg2
  z2 := Tryd.sizeOf2
  v2 := Tryd.zeroValue2
  t3 := Tryd.underlying3
  a3 := Tryd.isAgg3
  z3 := Tryd.sizeOf3
  v3 := Tryd.zeroValue3
  t4 := Tryd.underlying4
  a4 := Tryd.isAgg4
  z4 := Tryd.sizeOf4
  v4 := Tryd.zeroValue4
  t5 := Tryd.underlying5
  a5 := Tryd.isAgg5
  z5 := Tryd.sizeOf5
  v5 := Tryd.zeroValue5
  t9 := Tryd.underlying9
  a9 := Tryd.isAgg9
  z9 := Tryd.sizeOf9
  v9 := Tryd.zeroValue9
  t20 := Tryd.underlying20
  a20 := Tryd.isAgg20
  z20 := Tryd.sizeOf20
  v20 := Tryd.zeroValue20
  t37 := Tryd.underlying65
  a37 := Tryd.isAgg65
  z37 := Tryd.sizeOf65
  v37 := Tryd.zeroValue65
  t46 := Tryd.underlying76
  a46 := Tryd.isAgg76
  z46 := Tryd.sizeOf76
  v46 := Tryd.zeroValue76
  t51 := Tryd.underlying93
  a51 := Tryd.isAgg93
  z51 := Tryd.sizeOf93
  v51 := Tryd.zeroValue93
  t53 := Tryd.underlying32
  a53 := Tryd.isAgg32
  z53 := Tryd.sizeOf32
  v53 := Tryd.zeroValue32
  t171 := Tryd.underlying104
  a171 := Tryd.isAgg104
  z171 := Tryd.sizeOf104
  v171 := Tryd.zeroValue104
  t173 := Tryd.underlying106
  a173 := Tryd.isAgg106
  z173 := Tryd.sizeOf106
  v173 := Tryd.zeroValue106
  t212 := Tryd.underlying109
  a212 := Tryd.isAgg109
  z212 := Tryd.sizeOf109
  v212 := Tryd.zeroValue109
  t213 := Tryd.underlying110
  a213 := Tryd.isAgg110
  z213 := Tryd.sizeOf110
  t232 := Tryd.underlying112
  a232 := Tryd.isAgg112
  z232 := Tryd.sizeOf112
  v232 := Tryd.zeroValue112
  t233 := Tryd.underlying113
  a233 := Tryd.isAgg113
  z233 := Tryd.sizeOf113
  v233 := Tryd.zeroValue113
  g17 := by kernel_rfl
  g18 := by kernel_rfl
  g19 := by kernel_rfl
  i0 := by kernel_rfl
  i2 := by kernel_rfl
  i3 := by kernel_rfl
  i4 := by kernel_rfl
  i5 := by kernel_rfl
  i9 := by kernel_rfl
  i20 := by kernel_rfl
  i37 := by kernel_rfl
  i46 := by kernel_rfl
  i51 := by kernel_rfl
  i53 := by kernel_rfl
  i171 := by kernel_rfl
  i173 := by kernel_rfl
  i212 := by kernel_rfl
  i232 := by kernel_rfl
  i233 := by kernel_rfl
  m17 := by kernel_rfl
  m18 := by kernel_rfl
  m19 := by kernel_rfl }
open Go.RowKit Go.Sort Go.Lib in
/-- internal/strconv.FormatInt: "FormatInt returns the string representation of i in the given base": AT BASE 10: i's decimal numeral, for every int64. The world behind the call: the world before it, new blocks behind the heap, draws. (LAID: no walk: one application.) -/
theorem Tryd.internal_strconv_FormatInt_10 (n : Int) (h0 : -9223372036854775808 ≤ n) (h1 : n ≤ 9223372036854775807) (w : World) (htab : Lib.TabIs Tryd.prog w "internal/strconv.uint64pow10" .u64 Lib.pow10Tab) :
    Calls Tryd.prog 73 #[.int .i64 n, .int .i64 10] w fun e w' => e = .returned (.string ⟨(Lib.itoa n).toArray⟩) ∧ ∃ k os, w' = grow (w.drewN k) os := Any.internal_strconv_FormatInt_10 Tryd.laysM246 n h0 h1 w htab
def Tryd.lays246_ren : Go.Shelf.Ren := ⟨fun | 246 => 73 | 283 => 75 | 284 => 76 | 285 => 77 | 286 => 78 | 129 => 66 | 317 => 79 | 318 => 80 | 319 => 81 | 320 => 82 | 337 => 83 | 338 => 84 | n => n, fun | 2 => 2 | 3 => 3 | 9 => 9 | 4 => 4 | 171 => 104 | 0 => 0 | 53 => 32 | 37 => 65 | 5 => 5 | 173 => 106 | 212 => 109 | 51 => 93 | 20 => 20 | 213 => 110 | 46 => 76 | 232 => 112 | 233 => 113 | n => n, fun | 17 => 0 | 18 => 1 | 19 => 2 | n => n⟩
theorem Tryd.lays246 : Go.Proofs.Lays.n246 Tryd.prog Tryd.lays246_ren := {
  mixed := by kernel_rfl
  f129 := Tryd.func66.trans (congrArg some (by kernel_rfl))
  f246 := Tryd.func73.trans (congrArg some (by kernel_rfl))
  f283 := Tryd.func75.trans (congrArg some (by kernel_rfl))
  f284 := Tryd.func76.trans (congrArg some (by kernel_rfl))
  f285 := Tryd.func77.trans (congrArg some (by kernel_rfl))
  f286 := Tryd.func78.trans (congrArg some (by kernel_rfl))
  f317 := Tryd.func79.trans (congrArg some (by kernel_rfl))
  f318 := Tryd.func80.trans (congrArg some (by kernel_rfl))
  f319 := Tryd.func81.trans (congrArg some (by kernel_rfl))
  f320 := Tryd.func82.trans (congrArg some (by kernel_rfl))
  f337 := Tryd.func83.trans (congrArg some (by kernel_rfl))
  f338 := Tryd.func84.trans (congrArg some (by kernel_rfl))
  t0 := Tryd.underlying0
  a0 := Tryd.isAgg0
  z0 := Tryd.sizeOf0
  v0 := Tryd.zeroValue0
  t2 := Tryd.underlying2
  a2 := Tryd.isAgg2
  z2 := Tryd.sizeOf2
  v2 := Tryd.zeroValue2
  t3 := Tryd.underlying3
  a3 := Tryd.isAgg3
  z3 := Tryd.sizeOf3
  v3 := Tryd.zeroValue3
  t4 := Tryd.underlying4
  a4 := Tryd.isAgg4
  z4 := Tryd.sizeOf4
  v4 := Tryd.zeroValue4
  t5 := Tryd.underlying5
  a5 := Tryd.isAgg5
  z5 := Tryd.sizeOf5
  v5 := Tryd.zeroValue5
  t9 := Tryd.underlying9
  a9 := Tryd.isAgg9
  z9 := Tryd.sizeOf9
  v9 := Tryd.zeroValue9
  t20 := Tryd.underlying20
  a20 := Tryd.isAgg20
  z20 := Tryd.sizeOf20
  v20 := Tryd.zeroValue20
  t37 := Tryd.underlying65
  a37 := Tryd.isAgg65
  z37 := Tryd.sizeOf65
  v37 := Tryd.zeroValue65
  t46 := Tryd.underlying76
  a46 := Tryd.isAgg76
  z46 := Tryd.sizeOf76
  v46 := Tryd.zeroValue76
  t51 := Tryd.underlying93
  a51 := Tryd.isAgg93
  z51 := Tryd.sizeOf93
  v51 := Tryd.zeroValue93
  t53 := Tryd.underlying32
  a53 := Tryd.isAgg32
  z53 := Tryd.sizeOf32
  v53 := Tryd.zeroValue32
  t171 := Tryd.underlying104
  a171 := Tryd.isAgg104
  z171 := Tryd.sizeOf104
  v171 := Tryd.zeroValue104
  t173 := Tryd.underlying106
  a173 := Tryd.isAgg106
  z173 := Tryd.sizeOf106
  v173 := Tryd.zeroValue106
  t212 := Tryd.underlying109
  a212 := Tryd.isAgg109
  z212 := Tryd.sizeOf109
  v212 := Tryd.zeroValue109
  t213 := Tryd.underlying110
  a213 := Tryd.isAgg110
  z213 := Tryd.sizeOf110
  t232 := Tryd.underlying112
  a232 := Tryd.isAgg112
  z232 := Tryd.sizeOf112
  v232 := Tryd.zeroValue112
  t233 := Tryd.underlying113
  a233 := Tryd.isAgg113
  z233 := Tryd.sizeOf113
  v233 := Tryd.zeroValue113
  g17 := by kernel_rfl
  g18 := by kernel_rfl
  g19 := by kernel_rfl }
open Go.RowKit Go.Sort Go.Lib in
/-- THE ROAD WITHOUT THE TABLE: 0 <= i < 100: two constants are read, nothing is laid: no premise on the world, and the world is as it was. (LAID: no walk: one application.) -/
theorem Tryd.internal_strconv_FormatInt_10_small (i : Nat) (hi : i < 100) (w : World) :
    Calls Tryd.prog 73 #[.int .i64 i, .int .i64 10] w fun e w' => e = .returned (.string ⟨(Lib.decDigits i).toArray⟩) ∧ w' = w := Any.internal_strconv_FormatInt_10_small Tryd.lays246 i hi w
def Tryd.laysM243_ren : Go.Shelf.Ren := ⟨fun | 243 => 67 | 246 => 73 | 283 => 75 | 284 => 76 | 285 => 77 | 286 => 78 | 129 => 66 | 317 => 79 | 318 => 80 | 319 => 81 | 320 => 82 | 337 => 83 | 338 => 84 | n => n, fun | 3 => 3 | 9 => 9 | 2 => 2 | 4 => 4 | 171 => 104 | 0 => 0 | 53 => 32 | 37 => 65 | 5 => 5 | 173 => 106 | 212 => 109 | 51 => 93 | 20 => 20 | 213 => 110 | 46 => 76 | 232 => 112 | 233 => 113 | n => n, fun | 17 => 0 | 18 => 1 | 19 => 2 | n => n⟩
theorem Tryd.laysM243 : Go.Proofs.LaysM.n243 Tryd.prog Tryd.laysM243_ren := {
  mixed := by kernel_rfl
  f129 := Tryd.func66.trans (congrArg some (by kernel_rfl))
  f243 := Tryd.func67.trans (congrArg some (by kernel_rfl))
  f246 := Tryd.func73.trans (congrArg some (by kernel_rfl))
  f283 := Tryd.func75.trans (congrArg some (by kernel_rfl))
  f284 := Tryd.func76.trans (congrArg some (by kernel_rfl))
  f285 := Tryd.func77.trans (congrArg some (by kernel_rfl))
  f286 := Tryd.func78.trans (congrArg some (by kernel_rfl))
  f317 := Tryd.func79.trans (congrArg some (by kernel_rfl))
  f318 := Tryd.func80.trans (congrArg some (by kernel_rfl))
  f319 := Tryd.func81.trans (congrArg some (by kernel_rfl))
  f320 := Tryd.func82.trans (congrArg some (by kernel_rfl))
  f337 := Tryd.func83.trans (congrArg some (by kernel_rfl))
  f338 := Tryd.func84.trans (congrArg some (by kernel_rfl))
  t0 := Tryd.underlying0
  a0 := Tryd.isAgg0
  z0 := Tryd.sizeOf0
  v0 := Tryd.zeroValue0
  t2 := Tryd.underlying2
  a2 := Tryd.isAgg2
  z2 := Tryd.sizeOf2
  v2 := Tryd.zeroValue2
  t3 := Tryd.underlying3
  a3 := Tryd.isAgg3
  z3 := Tryd.sizeOf3
  v3 := Tryd.zeroValue3
  t4 := Tryd.underlying4
  a4 := Tryd.isAgg4
  z4 := Tryd.sizeOf4
  v4 := Tryd.zeroValue4
  t5 := Tryd.underlying5
  a5 := Tryd.isAgg5
  z5 := Tryd.sizeOf5
  v5 := Tryd.zeroValue5
  t9 := Tryd.underlying9
  a9 := Tryd.isAgg9
  z9 := Tryd.sizeOf9
  v9 := Tryd.zeroValue9
  t20 := Tryd.underlying20
  a20 := Tryd.isAgg20
  z20 := Tryd.sizeOf20
  v20 := Tryd.zeroValue20
  t37 := Tryd.underlying65
  a37 := Tryd.isAgg65
  z37 := Tryd.sizeOf65
  v37 := Tryd.zeroValue65
  t46 := Tryd.underlying76
  a46 := Tryd.isAgg76
  z46 := Tryd.sizeOf76
  v46 := Tryd.zeroValue76
  t51 := Tryd.underlying93
  a51 := Tryd.isAgg93
  z51 := Tryd.sizeOf93
  v51 := Tryd.zeroValue93
  t53 := Tryd.underlying32
  a53 := Tryd.isAgg32
  z53 := Tryd.sizeOf32
  v53 := Tryd.zeroValue32
  t171 := Tryd.underlying104
  a171 := Tryd.isAgg104
  z171 := Tryd.sizeOf104
  v171 := Tryd.zeroValue104
  t173 := Tryd.underlying106
  a173 := Tryd.isAgg106
  z173 := Tryd.sizeOf106
  v173 := Tryd.zeroValue106
  t212 := Tryd.underlying109
  a212 := Tryd.isAgg109
  z212 := Tryd.sizeOf109
  v212 := Tryd.zeroValue109
  t213 := Tryd.underlying110
  a213 := Tryd.isAgg110
  z213 := Tryd.sizeOf110
  t232 := Tryd.underlying112
  a232 := Tryd.isAgg112
  z232 := Tryd.sizeOf112
  v232 := Tryd.zeroValue112
  t233 := Tryd.underlying113
  a233 := Tryd.isAgg113
  z233 := Tryd.sizeOf113
  v233 := Tryd.zeroValue113
  g17 := by kernel_rfl
  g18 := by kernel_rfl
  g19 := by kernel_rfl
  i0 := by kernel_rfl
  i2 := by kernel_rfl
  i3 := by kernel_rfl
  i4 := by kernel_rfl
  i5 := by kernel_rfl
  i9 := by kernel_rfl
  i20 := by kernel_rfl
  i37 := by kernel_rfl
  i46 := by kernel_rfl
  i51 := by kernel_rfl
  i53 := by kernel_rfl
  i171 := by kernel_rfl
  i173 := by kernel_rfl
  i212 := by kernel_rfl
  i232 := by kernel_rfl
  i233 := by kernel_rfl
  m17 := by kernel_rfl
  m18 := by kernel_rfl
  m19 := by kernel_rfl }
open Go.RowKit Go.Sort Go.Lib in
/-- internal/strconv.Itoa: "Itoa is equivalent to FormatInt(int64(i), 10).": i's decimal numeral, for every int. (LAID: no walk: one application.) -/
theorem Tryd.internal_strconv_Itoa (n : Int) (h0 : -9223372036854775808 ≤ n) (h1 : n ≤ 9223372036854775807) (w : World) (htab : Lib.TabIs Tryd.prog w "internal/strconv.uint64pow10" .u64 Lib.pow10Tab) :
    Calls Tryd.prog 67 #[.int .i64 n] w fun e w' => e = .returned (.string ⟨(Lib.itoa n).toArray⟩) ∧ ∃ k os, w' = grow (w.drewN k) os := Any.internal_strconv_Itoa Tryd.laysM243 n h0 h1 w htab
def Tryd.lays243_ren : Go.Shelf.Ren := ⟨fun | 243 => 67 | 246 => 73 | 283 => 75 | 284 => 76 | 285 => 77 | 286 => 78 | 129 => 66 | 317 => 79 | 318 => 80 | 319 => 81 | 320 => 82 | 337 => 83 | 338 => 84 | n => n, fun | 3 => 3 | 9 => 9 | 2 => 2 | 4 => 4 | 171 => 104 | 0 => 0 | 53 => 32 | 37 => 65 | 5 => 5 | 173 => 106 | 212 => 109 | 51 => 93 | 20 => 20 | 213 => 110 | 46 => 76 | 232 => 112 | 233 => 113 | n => n, fun | 17 => 0 | 18 => 1 | 19 => 2 | n => n⟩
theorem Tryd.lays243 : Go.Proofs.Lays.n243 Tryd.prog Tryd.lays243_ren := {
  mixed := by kernel_rfl
  f129 := Tryd.func66.trans (congrArg some (by kernel_rfl))
  f243 := Tryd.func67.trans (congrArg some (by kernel_rfl))
  f246 := Tryd.func73.trans (congrArg some (by kernel_rfl))
  f283 := Tryd.func75.trans (congrArg some (by kernel_rfl))
  f284 := Tryd.func76.trans (congrArg some (by kernel_rfl))
  f285 := Tryd.func77.trans (congrArg some (by kernel_rfl))
  f286 := Tryd.func78.trans (congrArg some (by kernel_rfl))
  f317 := Tryd.func79.trans (congrArg some (by kernel_rfl))
  f318 := Tryd.func80.trans (congrArg some (by kernel_rfl))
  f319 := Tryd.func81.trans (congrArg some (by kernel_rfl))
  f320 := Tryd.func82.trans (congrArg some (by kernel_rfl))
  f337 := Tryd.func83.trans (congrArg some (by kernel_rfl))
  f338 := Tryd.func84.trans (congrArg some (by kernel_rfl))
  t0 := Tryd.underlying0
  a0 := Tryd.isAgg0
  z0 := Tryd.sizeOf0
  v0 := Tryd.zeroValue0
  t2 := Tryd.underlying2
  a2 := Tryd.isAgg2
  z2 := Tryd.sizeOf2
  v2 := Tryd.zeroValue2
  t3 := Tryd.underlying3
  a3 := Tryd.isAgg3
  z3 := Tryd.sizeOf3
  v3 := Tryd.zeroValue3
  t4 := Tryd.underlying4
  a4 := Tryd.isAgg4
  z4 := Tryd.sizeOf4
  v4 := Tryd.zeroValue4
  t5 := Tryd.underlying5
  a5 := Tryd.isAgg5
  z5 := Tryd.sizeOf5
  v5 := Tryd.zeroValue5
  t9 := Tryd.underlying9
  a9 := Tryd.isAgg9
  z9 := Tryd.sizeOf9
  v9 := Tryd.zeroValue9
  t20 := Tryd.underlying20
  a20 := Tryd.isAgg20
  z20 := Tryd.sizeOf20
  v20 := Tryd.zeroValue20
  t37 := Tryd.underlying65
  a37 := Tryd.isAgg65
  z37 := Tryd.sizeOf65
  v37 := Tryd.zeroValue65
  t46 := Tryd.underlying76
  a46 := Tryd.isAgg76
  z46 := Tryd.sizeOf76
  v46 := Tryd.zeroValue76
  t51 := Tryd.underlying93
  a51 := Tryd.isAgg93
  z51 := Tryd.sizeOf93
  v51 := Tryd.zeroValue93
  t53 := Tryd.underlying32
  a53 := Tryd.isAgg32
  z53 := Tryd.sizeOf32
  v53 := Tryd.zeroValue32
  t171 := Tryd.underlying104
  a171 := Tryd.isAgg104
  z171 := Tryd.sizeOf104
  v171 := Tryd.zeroValue104
  t173 := Tryd.underlying106
  a173 := Tryd.isAgg106
  z173 := Tryd.sizeOf106
  v173 := Tryd.zeroValue106
  t212 := Tryd.underlying109
  a212 := Tryd.isAgg109
  z212 := Tryd.sizeOf109
  v212 := Tryd.zeroValue109
  t213 := Tryd.underlying110
  a213 := Tryd.isAgg110
  z213 := Tryd.sizeOf110
  t232 := Tryd.underlying112
  a232 := Tryd.isAgg112
  z232 := Tryd.sizeOf112
  v232 := Tryd.zeroValue112
  t233 := Tryd.underlying113
  a233 := Tryd.isAgg113
  z233 := Tryd.sizeOf113
  v233 := Tryd.zeroValue113
  g17 := by kernel_rfl
  g18 := by kernel_rfl
  g19 := by kernel_rfl }
open Go.RowKit Go.Sort Go.Lib in
/-- THE ROAD WITHOUT THE TABLE: 0 <= i < 100. (LAID: no walk: one application.) -/
theorem Tryd.internal_strconv_Itoa_small (i : Nat) (hi : i < 100) (w : World) :
    Calls Tryd.prog 67 #[.int .i64 i] w fun e w' => e = .returned (.string ⟨(Lib.decDigits i).toArray⟩) ∧ w' = w := Any.internal_strconv_Itoa_small Tryd.lays243 i hi w
def Tryd.laysM171_ren : Go.Shelf.Ren := ⟨fun | 171 => 56 | 243 => 67 | 246 => 73 | 283 => 75 | 284 => 76 | 285 => 77 | 286 => 78 | 129 => 66 | 317 => 79 | 318 => 80 | 319 => 81 | 320 => 82 | 337 => 83 | 338 => 84 | n => n, fun | 3 => 3 | 9 => 9 | 2 => 2 | 4 => 4 | 171 => 104 | 0 => 0 | 53 => 32 | 37 => 65 | 5 => 5 | 173 => 106 | 212 => 109 | 51 => 93 | 20 => 20 | 213 => 110 | 46 => 76 | 232 => 112 | 233 => 113 | n => n, fun | 17 => 0 | 18 => 1 | 19 => 2 | n => n⟩
theorem Tryd.laysM171 : Go.Proofs.LaysM.n171 Tryd.prog Tryd.laysM171_ren := {
  mixed := by kernel_rfl
  f129 := Tryd.func66.trans (congrArg some (by kernel_rfl))
  f171 := Tryd.func56.trans (congrArg some (by kernel_rfl))
  f243 := Tryd.func67.trans (congrArg some (by kernel_rfl))
  f246 := Tryd.func73.trans (congrArg some (by kernel_rfl))
  f283 := Tryd.func75.trans (congrArg some (by kernel_rfl))
  f284 := Tryd.func76.trans (congrArg some (by kernel_rfl))
  f285 := Tryd.func77.trans (congrArg some (by kernel_rfl))
  f286 := Tryd.func78.trans (congrArg some (by kernel_rfl))
  f317 := Tryd.func79.trans (congrArg some (by kernel_rfl))
  f318 := Tryd.func80.trans (congrArg some (by kernel_rfl))
  f319 := Tryd.func81.trans (congrArg some (by kernel_rfl))
  f320 := Tryd.func82.trans (congrArg some (by kernel_rfl))
  f337 := Tryd.func83.trans (congrArg some (by kernel_rfl))
  f338 := Tryd.func84.trans (congrArg some (by kernel_rfl))
  t0 := Tryd.underlying0
  a0 := Tryd.isAgg0
  z0 := Tryd.sizeOf0
  v0 := Tryd.zeroValue0
  t2 := Tryd.underlying2
  a2 := Tryd.isAgg2
  z2 := Tryd.sizeOf2
  v2 := Tryd.zeroValue2
  t3 := Tryd.underlying3
  a3 := Tryd.isAgg3
  z3 := Tryd.sizeOf3
  v3 := Tryd.zeroValue3
  t4 := Tryd.underlying4
  a4 := Tryd.isAgg4
  z4 := Tryd.sizeOf4
  v4 := Tryd.zeroValue4
  t5 := Tryd.underlying5
  a5 := Tryd.isAgg5
  z5 := Tryd.sizeOf5
  v5 := Tryd.zeroValue5
  t9 := Tryd.underlying9
  a9 := Tryd.isAgg9
  z9 := Tryd.sizeOf9
  v9 := Tryd.zeroValue9
  t20 := Tryd.underlying20
  a20 := Tryd.isAgg20
  z20 := Tryd.sizeOf20
  v20 := Tryd.zeroValue20
  t37 := Tryd.underlying65
  a37 := Tryd.isAgg65
  z37 := Tryd.sizeOf65
  v37 := Tryd.zeroValue65
  t46 := Tryd.underlying76
  a46 := Tryd.isAgg76
  z46 := Tryd.sizeOf76
  v46 := Tryd.zeroValue76
  t51 := Tryd.underlying93
  a51 := Tryd.isAgg93
  z51 := Tryd.sizeOf93
  v51 := Tryd.zeroValue93
  t53 := Tryd.underlying32
  a53 := Tryd.isAgg32
  z53 := Tryd.sizeOf32
  v53 := Tryd.zeroValue32
  t171 := Tryd.underlying104
  a171 := Tryd.isAgg104
  z171 := Tryd.sizeOf104
  v171 := Tryd.zeroValue104
  t173 := Tryd.underlying106
  a173 := Tryd.isAgg106
  z173 := Tryd.sizeOf106
  v173 := Tryd.zeroValue106
  t212 := Tryd.underlying109
  a212 := Tryd.isAgg109
  z212 := Tryd.sizeOf109
  v212 := Tryd.zeroValue109
  t213 := Tryd.underlying110
  a213 := Tryd.isAgg110
  z213 := Tryd.sizeOf110
  t232 := Tryd.underlying112
  a232 := Tryd.isAgg112
  z232 := Tryd.sizeOf112
  v232 := Tryd.zeroValue112
  t233 := Tryd.underlying113
  a233 := Tryd.isAgg113
  z233 := Tryd.sizeOf113
  v233 := Tryd.zeroValue113
  g17 := by kernel_rfl
  g18 := by kernel_rfl
  g19 := by kernel_rfl
  i0 := by kernel_rfl
  i2 := by kernel_rfl
  i3 := by kernel_rfl
  i4 := by kernel_rfl
  i5 := by kernel_rfl
  i9 := by kernel_rfl
  i20 := by kernel_rfl
  i37 := by kernel_rfl
  i46 := by kernel_rfl
  i51 := by kernel_rfl
  i53 := by kernel_rfl
  i171 := by kernel_rfl
  i173 := by kernel_rfl
  i212 := by kernel_rfl
  i232 := by kernel_rfl
  i233 := by kernel_rfl
  m17 := by kernel_rfl
  m18 := by kernel_rfl
  m19 := by kernel_rfl }
open Go.RowKit Go.Sort Go.Lib in
/-- strconv.Itoa: "Itoa is equivalent to FormatInt(int64(i), 10).": i's DECIMAL NUMERAL ('Lib.itoa': a '-' where i is negative, then the digits), FOR EVERY int. The world behind the call: the world before it, new blocks behind the heap (the library's 'var a [24]byte'), draws. (LAID: no walk: one application.) -/
theorem Tryd.strconv_Itoa (n : Int) (h0 : -9223372036854775808 ≤ n) (h1 : n ≤ 9223372036854775807) (w : World) (htab : Lib.TabIs Tryd.prog w "internal/strconv.uint64pow10" .u64 Lib.pow10Tab) :
    Calls Tryd.prog 56 #[.int .i64 n] w fun e w' => e = .returned (.string ⟨(Lib.itoa n).toArray⟩) ∧ ∃ k os, w' = grow (w.drewN k) os := Any.strconv_Itoa Tryd.laysM171 n h0 h1 w htab
def Tryd.lays171_ren : Go.Shelf.Ren := ⟨fun | 171 => 56 | 243 => 67 | 246 => 73 | 283 => 75 | 284 => 76 | 285 => 77 | 286 => 78 | 129 => 66 | 317 => 79 | 318 => 80 | 319 => 81 | 320 => 82 | 337 => 83 | 338 => 84 | n => n, fun | 3 => 3 | 9 => 9 | 2 => 2 | 4 => 4 | 171 => 104 | 0 => 0 | 53 => 32 | 37 => 65 | 5 => 5 | 173 => 106 | 212 => 109 | 51 => 93 | 20 => 20 | 213 => 110 | 46 => 76 | 232 => 112 | 233 => 113 | n => n, fun | 17 => 0 | 18 => 1 | 19 => 2 | n => n⟩
theorem Tryd.lays171 : Go.Proofs.Lays.n171 Tryd.prog Tryd.lays171_ren := {
  mixed := by kernel_rfl
  f129 := Tryd.func66.trans (congrArg some (by kernel_rfl))
  f171 := Tryd.func56.trans (congrArg some (by kernel_rfl))
  f243 := Tryd.func67.trans (congrArg some (by kernel_rfl))
  f246 := Tryd.func73.trans (congrArg some (by kernel_rfl))
  f283 := Tryd.func75.trans (congrArg some (by kernel_rfl))
  f284 := Tryd.func76.trans (congrArg some (by kernel_rfl))
  f285 := Tryd.func77.trans (congrArg some (by kernel_rfl))
  f286 := Tryd.func78.trans (congrArg some (by kernel_rfl))
  f317 := Tryd.func79.trans (congrArg some (by kernel_rfl))
  f318 := Tryd.func80.trans (congrArg some (by kernel_rfl))
  f319 := Tryd.func81.trans (congrArg some (by kernel_rfl))
  f320 := Tryd.func82.trans (congrArg some (by kernel_rfl))
  f337 := Tryd.func83.trans (congrArg some (by kernel_rfl))
  f338 := Tryd.func84.trans (congrArg some (by kernel_rfl))
  t0 := Tryd.underlying0
  a0 := Tryd.isAgg0
  z0 := Tryd.sizeOf0
  v0 := Tryd.zeroValue0
  t2 := Tryd.underlying2
  a2 := Tryd.isAgg2
  z2 := Tryd.sizeOf2
  v2 := Tryd.zeroValue2
  t3 := Tryd.underlying3
  a3 := Tryd.isAgg3
  z3 := Tryd.sizeOf3
  v3 := Tryd.zeroValue3
  t4 := Tryd.underlying4
  a4 := Tryd.isAgg4
  z4 := Tryd.sizeOf4
  v4 := Tryd.zeroValue4
  t5 := Tryd.underlying5
  a5 := Tryd.isAgg5
  z5 := Tryd.sizeOf5
  v5 := Tryd.zeroValue5
  t9 := Tryd.underlying9
  a9 := Tryd.isAgg9
  z9 := Tryd.sizeOf9
  v9 := Tryd.zeroValue9
  t20 := Tryd.underlying20
  a20 := Tryd.isAgg20
  z20 := Tryd.sizeOf20
  v20 := Tryd.zeroValue20
  t37 := Tryd.underlying65
  a37 := Tryd.isAgg65
  z37 := Tryd.sizeOf65
  v37 := Tryd.zeroValue65
  t46 := Tryd.underlying76
  a46 := Tryd.isAgg76
  z46 := Tryd.sizeOf76
  v46 := Tryd.zeroValue76
  t51 := Tryd.underlying93
  a51 := Tryd.isAgg93
  z51 := Tryd.sizeOf93
  v51 := Tryd.zeroValue93
  t53 := Tryd.underlying32
  a53 := Tryd.isAgg32
  z53 := Tryd.sizeOf32
  v53 := Tryd.zeroValue32
  t171 := Tryd.underlying104
  a171 := Tryd.isAgg104
  z171 := Tryd.sizeOf104
  v171 := Tryd.zeroValue104
  t173 := Tryd.underlying106
  a173 := Tryd.isAgg106
  z173 := Tryd.sizeOf106
  v173 := Tryd.zeroValue106
  t212 := Tryd.underlying109
  a212 := Tryd.isAgg109
  z212 := Tryd.sizeOf109
  v212 := Tryd.zeroValue109
  t213 := Tryd.underlying110
  a213 := Tryd.isAgg110
  z213 := Tryd.sizeOf110
  t232 := Tryd.underlying112
  a232 := Tryd.isAgg112
  z232 := Tryd.sizeOf112
  v232 := Tryd.zeroValue112
  t233 := Tryd.underlying113
  a233 := Tryd.isAgg113
  z233 := Tryd.sizeOf113
  v233 := Tryd.zeroValue113
  g17 := by kernel_rfl
  g18 := by kernel_rfl
  g19 := by kernel_rfl }
open Go.RowKit Go.Sort Go.Lib in
/-- THE ROAD WITHOUT THE TABLE: 0 <= i < 100: NO PREMISE ON THE WORLD, AND THE WORLD IS AS IT WAS: a row that keeps its argument in that range need list no table ('laid = []'). (LAID: no walk: one application.) -/
theorem Tryd.strconv_Itoa_small (i : Nat) (hi : i < 100) (w : World) :
    Calls Tryd.prog 56 #[.int .i64 i] w fun e w' => e = .returned (.string ⟨(Lib.decDigits i).toArray⟩) ∧ w' = w := Any.strconv_Itoa_small Tryd.lays171 i hi w
def Tryd.lays113_ren : Go.Shelf.Ren := ⟨fun | 113 => 25 | n => n, fun | 28 => 44 | 3 => 3 | 4 => 4 | 9 => 9 | 20 => 20 | 0 => 0 | n => n, fun | n => n⟩
theorem Tryd.lays113 : Go.Proofs.Lays.n113 Tryd.prog Tryd.lays113_ren := {
  mixed := by kernel_rfl
  f113 := Tryd.func25.trans (congrArg some (by kernel_rfl))
  t0 := Tryd.underlying0
  a0 := Tryd.isAgg0
  z0 := Tryd.sizeOf0
  v0 := Tryd.zeroValue0
  t3 := Tryd.underlying3
  a3 := Tryd.isAgg3
  z3 := Tryd.sizeOf3
  v3 := Tryd.zeroValue3
  t4 := Tryd.underlying4
  a4 := Tryd.isAgg4
  z4 := Tryd.sizeOf4
  v4 := Tryd.zeroValue4
  t9 := Tryd.underlying9
  a9 := Tryd.isAgg9
  z9 := Tryd.sizeOf9
  v9 := Tryd.zeroValue9
  t20 := Tryd.underlying20
  a20 := Tryd.isAgg20
  z20 := Tryd.sizeOf20
  v20 := Tryd.zeroValue20
  t28 := Tryd.underlying44
  a28 := Tryd.isAgg44
  z28 := Tryd.sizeOf44
  v28 := Tryd.zeroValue44 }
open Go.Lib in
/-- slices.Max at []int: "Max returns the maximal value in x. It panics if x is empty.": OF A SLICE THAT IS NOT EMPTY IT RETURNS 'Lib.maxOf (the elements)'; the world is as it was. (Of an empty one it panics: no contract here.) (LAID: no walk: one application.) -/
theorem Tryd.slices_Max_int (b off n c : Nat) (zs : List Int) (w : World) (hn : 0 < n) (hz : n ≤ zs.length) (hbig : n ≤ 9223372036854775807) (hc : ∀ j, j < zs.length → w.cell? ⟨b, off + j, none⟩ = some (.int .i64 (zs.getD j 0))) :
    Calls Tryd.prog 25 #[.slice (some ⟨b, off, none⟩) n c] w fun e w' => e = .returned (.int .i64 (Lib.maxOf (zs.take n))) ∧ w' = w := Any.slices_Max_int Tryd.lays113 b off n c zs w hn hz hbig hc
def Tryd.laysSlF20_f57_ren : Go.Shelf.Ren := ⟨fun | 20 => 57 | n => n, fun | 24 => 3 | 22 => 44 | 3 => 3 | 25 => 62 | 4 => 4 | 0 => 0 | n => n, fun | n => n⟩
theorem Tryd.laysSlF20_f57 : Go.Proofs.SlLaysF.n20 Tryd.prog Tryd.laysSlF20_f57_ren := {
  mixed := by kernel_rfl
  f20 := ⟨Tryd.f57.name, by decide, Tryd.func57.trans (congrArg some (by kernel_rfl))⟩
  t0 := Tryd.underlying0
  a0 := Tryd.isAgg0
  z0 := Tryd.sizeOf0
  v0 := Tryd.zeroValue0
  t3 := Tryd.underlying3
  a3 := Tryd.isAgg3
  z3 := Tryd.sizeOf3
  v3 := Tryd.zeroValue3
  t4 := Tryd.underlying4
  a4 := Tryd.isAgg4
  z4 := Tryd.sizeOf4
  v4 := Tryd.zeroValue4
  t22 := Tryd.underlying44
  a22 := Tryd.isAgg44
  z22 := Tryd.sizeOf44
  v22 := Tryd.zeroValue44
  a24 := Tryd.isAgg3
  z24 := Tryd.sizeOf3
  t25 := Tryd.underlying62
  a25 := Tryd.isAgg62
  z25 := Tryd.sizeOf62
  v25 := Tryd.zeroValue62 }
open Go.RowKit Go.Lib Go.Sort in
theorem Tryd.insertionSortCmpFunc_one {α : Type} [Inhabited α] (enc : α → Value) (hO : OneCell enc) (cf : α → α → Int) (g : Nat) (cb : Array Value) (blk off cap a b : Nat) (d : Array α) (w : World) (eg : ∀ args w, (callFunc g args).run Tryd.prog w = .ok (.enter g args) w) (hcmp : CmpReads Tryd.prog g cb enc cf blk off d.size w) (hH : Holds enc w blk off d) (hab : a ≤ b) (hb : b ≤ d.size) (hsz : d.size < 4611686018427387904) :
    Calls Tryd.prog 57 #[.slice (some ⟨blk, off, none⟩) d.size cap, .int .i64 a, .int .i64 b, .func (.func g) #[] cb] w fun e w' =>
      e = .returned (.tuple #[]) ∧ ∃ n, w' = (putRow enc w blk off (Sort.insertionSort (ltOf cf) d a b)).drewN n := Any.insertionSortCmpFunc_one Tryd.laysSlF20_f57 enc hO cf g cb blk off cap a b d w eg hcmp hH hab hb hsz
def Tryd.laysSlF46_f68_ren : Go.Shelf.Ren := ⟨fun | 46 => 68 | n => n, fun | 24 => 3 | 22 => 44 | 3 => 3 | 25 => 62 | 4 => 4 | 0 => 0 | n => n, fun | n => n⟩
theorem Tryd.laysSlF46_f68 : Go.Proofs.SlLaysF.n46 Tryd.prog Tryd.laysSlF46_f68_ren := {
  mixed := by kernel_rfl
  f46 := ⟨Tryd.f68.name, by decide, Tryd.func68.trans (congrArg some (by kernel_rfl))⟩
  t0 := Tryd.underlying0
  a0 := Tryd.isAgg0
  z0 := Tryd.sizeOf0
  v0 := Tryd.zeroValue0
  t3 := Tryd.underlying3
  a3 := Tryd.isAgg3
  z3 := Tryd.sizeOf3
  v3 := Tryd.zeroValue3
  t4 := Tryd.underlying4
  a4 := Tryd.isAgg4
  z4 := Tryd.sizeOf4
  v4 := Tryd.zeroValue4
  t22 := Tryd.underlying44
  a22 := Tryd.isAgg44
  z22 := Tryd.sizeOf44
  v22 := Tryd.zeroValue44
  a24 := Tryd.isAgg3
  z24 := Tryd.sizeOf3
  t25 := Tryd.underlying62
  a25 := Tryd.isAgg62
  z25 := Tryd.sizeOf62
  v25 := Tryd.zeroValue62 }
open Go.RowKit Go.Lib Go.Sort in
/-- slices.siftDownCmpFunc at elements of one cell: from a world of the sort's to a world of the sort's. (LAID AT THE INSTANCE 'slices.siftDownCmpFunc[int]': no walk: one application.) -/
theorem Tryd.siftDownCmpFunc {α : Type} [Inhabited α] (enc : α → Value) (cf : α → α → Int) (g : Nat) (cb : Array Value) (blk off cap lo hi first : Nat) (d0 d : Array α) (w0 w : World) (eg : ∀ args w, (callFunc g args).run Tryd.prog w = .ok (.enter g args) w) (hcmp : CmpLays1 Tryd.prog g cb enc cf blk off d0.size w0) (R : Row1 enc w0 blk off d0) (hs : d0.size = d.size) (S : SW enc w0 blk off d w) (hlo : lo ≤ hi) (hb : first + hi ≤ d.size) (hsz : d.size < 4611686018427387904) :
    Calls Tryd.prog 68 #[.slice (some ⟨blk, off, none⟩) d.size cap, .int .i64 lo, .int .i64 hi, .int .i64 first, .func (.func g) #[] cb] w fun e w' =>
      e = .returned (.tuple #[]) ∧ SW enc w0 blk off (siftDown (ltOf cf) hi first lo d) w' := Any.siftDownCmpFunc Tryd.laysSlF46_f68 enc cf g cb blk off cap lo hi first d0 d w0 w eg hcmp R hs S hlo hb hsz
def Tryd.laysSlF21_f58_ren : Go.Shelf.Ren := ⟨fun | 21 => 58 | 46 => 68 | n => n, fun | 24 => 3 | 22 => 44 | 3 => 3 | 25 => 62 | 4 => 4 | 0 => 0 | n => n, fun | n => n⟩
theorem Tryd.laysSlF21_f58 : Go.Proofs.SlLaysF.n21 Tryd.prog Tryd.laysSlF21_f58_ren := {
  mixed := by kernel_rfl
  f21 := ⟨Tryd.f58.name, by decide, Tryd.func58.trans (congrArg some (by kernel_rfl))⟩
  f46 := ⟨Tryd.f68.name, by decide, Tryd.func68.trans (congrArg some (by kernel_rfl))⟩
  t0 := Tryd.underlying0
  a0 := Tryd.isAgg0
  z0 := Tryd.sizeOf0
  v0 := Tryd.zeroValue0
  t3 := Tryd.underlying3
  a3 := Tryd.isAgg3
  z3 := Tryd.sizeOf3
  v3 := Tryd.zeroValue3
  t4 := Tryd.underlying4
  a4 := Tryd.isAgg4
  z4 := Tryd.sizeOf4
  v4 := Tryd.zeroValue4
  t22 := Tryd.underlying44
  a22 := Tryd.isAgg44
  z22 := Tryd.sizeOf44
  v22 := Tryd.zeroValue44
  a24 := Tryd.isAgg3
  z24 := Tryd.sizeOf3
  t25 := Tryd.underlying62
  a25 := Tryd.isAgg62
  z25 := Tryd.sizeOf62
  v25 := Tryd.zeroValue62 }
open Go.RowKit Go.Lib Go.Sort in
/-- slices.heapSortCmpFunc at elements of one cell. (LAID AT THE INSTANCE 'slices.heapSortCmpFunc[int]': no walk: one application.) -/
theorem Tryd.heapSortCmpFunc {α : Type} [Inhabited α] (enc : α → Value) (cf : α → α → Int) (g : Nat) (cb : Array Value) (blk off cap a b : Nat) (d0 d : Array α) (w0 w : World) (eg : ∀ args w, (callFunc g args).run Tryd.prog w = .ok (.enter g args) w) (hcmp : CmpLays1 Tryd.prog g cb enc cf blk off d0.size w0) (R : Row1 enc w0 blk off d0) (hs : d0.size = d.size) (S : SW enc w0 blk off d w) (hab : a ≤ b) (hb : b ≤ d.size) (hsz : d.size < 4611686018427387904) :
    Calls Tryd.prog 58 #[.slice (some ⟨blk, off, none⟩) d.size cap, .int .i64 a, .int .i64 b, .func (.func g) #[] cb] w fun e w' =>
      e = .returned (.tuple #[]) ∧ SW enc w0 blk off (heapSort (ltOf cf) d a b) w' := Any.heapSortCmpFunc Tryd.laysSlF21_f58 enc cf g cb blk off cap a b d0 d w0 w eg hcmp R hs S hab hb hsz
open Go.RowKit Go.Lib Go.Sort in
/-- slices.insertionSortCmpFunc at elements of one cell: from a world of the sort's to a world of the sort's. (LAID AT THE INSTANCE 'slices.insertionSortCmpFunc[int]': no walk: one application.) -/
theorem Tryd.insertionSortCmpFunc_s {α : Type} [Inhabited α] (enc : α → Value) (cf : α → α → Int) (g : Nat) (cb : Array Value) (blk off cap a b : Nat) (d0 d : Array α) (w0 w : World) (eg : ∀ args w, (callFunc g args).run Tryd.prog w = .ok (.enter g args) w) (hcmp : CmpLays1 Tryd.prog g cb enc cf blk off d0.size w0) (R : Row1 enc w0 blk off d0) (hs : d0.size = d.size) (S : SW enc w0 blk off d w) (hab : a ≤ b) (hb : b ≤ d.size) (hsz : d.size < 4611686018427387904) :
    Calls Tryd.prog 57 #[.slice (some ⟨blk, off, none⟩) d.size cap, .int .i64 a, .int .i64 b, .func (.func g) #[] cb] w fun e w' => e = .returned (.tuple #[]) ∧ SW enc w0 blk off (Sort.insertionSort (ltOf cf) d a b) w' := Any.insertionSortCmpFunc_s Tryd.laysSlF20_f57 enc cf g cb blk off cap a b d0 d w0 w eg hcmp R hs S hab hb hsz
def Tryd.laysSlF57_f74_ren : Go.Shelf.Ren := ⟨fun | 57 => 74 | n => n, fun | 24 => 3 | 22 => 44 | 3 => 3 | 70 => 98 | 25 => 62 | 0 => 0 | 4 => 4 | n => n, fun | n => n⟩
theorem Tryd.laysSlF57_f74 : Go.Proofs.SlLaysF.n57 Tryd.prog Tryd.laysSlF57_f74_ren := {
  mixed := by kernel_rfl
  f57 := ⟨Tryd.f74.name, by decide, Tryd.func74.trans (congrArg some (by kernel_rfl))⟩
  t0 := Tryd.underlying0
  a0 := Tryd.isAgg0
  z0 := Tryd.sizeOf0
  v0 := Tryd.zeroValue0
  t3 := Tryd.underlying3
  a3 := Tryd.isAgg3
  z3 := Tryd.sizeOf3
  v3 := Tryd.zeroValue3
  t4 := Tryd.underlying4
  a4 := Tryd.isAgg4
  z4 := Tryd.sizeOf4
  v4 := Tryd.zeroValue4
  t22 := Tryd.underlying44
  a22 := Tryd.isAgg44
  z22 := Tryd.sizeOf44
  v22 := Tryd.zeroValue44
  a24 := Tryd.isAgg3
  z24 := Tryd.sizeOf3
  t25 := Tryd.underlying62
  a25 := Tryd.isAgg62
  z25 := Tryd.sizeOf62
  v25 := Tryd.zeroValue62
  t70 := Tryd.underlying98
  a70 := Tryd.isAgg98
  z70 := Tryd.sizeOf98
  v70 := Tryd.zeroValue98 }
open Go.RowKit Go.Lib Go.Sort in
/-- slices.order2CmpFunc at elements of one cell. (LAID AT THE INSTANCE 'slices.order2CmpFunc[int]': no walk: one application.) -/
theorem Tryd.order2CmpFunc {α : Type} [Inhabited α] (enc : α → Value) (cf : α → α → Int) (g : Nat) (cb : Array Value) (blk off cap a b c s : Nat) (d0 d : Array α) (w0 W : World) (eg : ∀ args w, (callFunc g args).run Tryd.prog w = .ok (.enter g args) w) (hcmp : CmpLays1 Tryd.prog g cb enc cf blk off d0.size w0) (R : Row1 enc w0 blk off d0) (hs : d0.size = d.size) (C : Cnt1 enc w0 blk off d c s W) (ha : a < d.size) (hb : b < d.size) (hsz : d.size < 4611686018427387904) (hss : s < 4611686018427387904) :
    Calls Tryd.prog 74 #[.slice (some ⟨blk, off, none⟩) d.size cap, .int .i64 a, .int .i64 b, .pointer (some ⟨c, 0, none⟩), .func (.func g) #[] cb] W fun e w' =>
      e = .returned (.tuple #[.int .i64 (order2 (ltOf cf) d a b s).1, .int .i64 (order2 (ltOf cf) d a b s).2.1]) ∧ Cnt1 enc w0 blk off d c (order2 (ltOf cf) d a b s).2.2 w' := Any.order2CmpFunc Tryd.laysSlF57_f74 enc cf g cb blk off cap a b c s d0 d w0 W eg hcmp R hs C ha hb hsz hss
def Tryd.laysSlF50_f72_ren : Go.Shelf.Ren := ⟨fun | 50 => 72 | 57 => 74 | n => n, fun | 24 => 3 | 22 => 44 | 3 => 3 | 70 => 98 | 25 => 62 | 77 => 102 | 0 => 0 | 4 => 4 | n => n, fun | n => n⟩
theorem Tryd.laysSlF50_f72 : Go.Proofs.SlLaysF.n50 Tryd.prog Tryd.laysSlF50_f72_ren := {
  mixed := by kernel_rfl
  f50 := ⟨Tryd.f72.name, by decide, Tryd.func72.trans (congrArg some (by kernel_rfl))⟩
  f57 := ⟨Tryd.f74.name, by decide, Tryd.func74.trans (congrArg some (by kernel_rfl))⟩
  t0 := Tryd.underlying0
  a0 := Tryd.isAgg0
  z0 := Tryd.sizeOf0
  v0 := Tryd.zeroValue0
  t3 := Tryd.underlying3
  a3 := Tryd.isAgg3
  z3 := Tryd.sizeOf3
  v3 := Tryd.zeroValue3
  t4 := Tryd.underlying4
  a4 := Tryd.isAgg4
  z4 := Tryd.sizeOf4
  v4 := Tryd.zeroValue4
  t22 := Tryd.underlying44
  a22 := Tryd.isAgg44
  z22 := Tryd.sizeOf44
  v22 := Tryd.zeroValue44
  a24 := Tryd.isAgg3
  z24 := Tryd.sizeOf3
  t25 := Tryd.underlying62
  a25 := Tryd.isAgg62
  z25 := Tryd.sizeOf62
  v25 := Tryd.zeroValue62
  t70 := Tryd.underlying98
  a70 := Tryd.isAgg98
  z70 := Tryd.sizeOf98
  v70 := Tryd.zeroValue98
  t77 := Tryd.underlying102
  a77 := Tryd.isAgg102
  z77 := Tryd.sizeOf102
  v77 := Tryd.zeroValue102 }
open Go.RowKit Go.Lib Go.Sort in
/-- slices.medianCmpFunc at elements of one cell. (LAID AT THE INSTANCE 'slices.medianCmpFunc[int]': no walk: one application.) -/
theorem Tryd.medianCmpFunc {α : Type} [Inhabited α] (enc : α → Value) (cf : α → α → Int) (g : Nat) (cb : Array Value) (blk off cap a b c' c s : Nat) (d0 d : Array α) (w0 W : World) (eg : ∀ args w, (callFunc g args).run Tryd.prog w = .ok (.enter g args) w) (hcmp : CmpLays1 Tryd.prog g cb enc cf blk off d0.size w0) (R : Row1 enc w0 blk off d0) (hs : d0.size = d.size) (C : Cnt1 enc w0 blk off d c s W) (ha : a < d.size) (hb : b < d.size) (hc : c' < d.size) (hsz : d.size < 4611686018427387904) (hss : s + 3 < 4611686018427387904) :
    Calls Tryd.prog 72 #[.slice (some ⟨blk, off, none⟩) d.size cap, .int .i64 a, .int .i64 b, .int .i64 c', .pointer (some ⟨c, 0, none⟩), .func (.func g) #[] cb] W fun e w' =>
      e = .returned (.int .i64 (median (ltOf cf) d a b c' s).1) ∧ Cnt1 enc w0 blk off d c (median (ltOf cf) d a b c' s).2 w' := Any.medianCmpFunc Tryd.laysSlF50_f72 enc cf g cb blk off cap a b c' c s d0 d w0 W eg hcmp R hs C ha hb hc hsz hss
def Tryd.laysSlF49_f71_ren : Go.Shelf.Ren := ⟨fun | 49 => 71 | 50 => 72 | 57 => 74 | n => n, fun | 24 => 3 | 22 => 44 | 3 => 3 | 70 => 98 | 25 => 62 | 77 => 102 | 0 => 0 | 4 => 4 | n => n, fun | n => n⟩
theorem Tryd.laysSlF49_f71 : Go.Proofs.SlLaysF.n49 Tryd.prog Tryd.laysSlF49_f71_ren := {
  mixed := by kernel_rfl
  f49 := ⟨Tryd.f71.name, by decide, Tryd.func71.trans (congrArg some (by kernel_rfl))⟩
  f50 := ⟨Tryd.f72.name, by decide, Tryd.func72.trans (congrArg some (by kernel_rfl))⟩
  f57 := ⟨Tryd.f74.name, by decide, Tryd.func74.trans (congrArg some (by kernel_rfl))⟩
  t0 := Tryd.underlying0
  a0 := Tryd.isAgg0
  z0 := Tryd.sizeOf0
  v0 := Tryd.zeroValue0
  t3 := Tryd.underlying3
  a3 := Tryd.isAgg3
  z3 := Tryd.sizeOf3
  v3 := Tryd.zeroValue3
  t4 := Tryd.underlying4
  a4 := Tryd.isAgg4
  z4 := Tryd.sizeOf4
  v4 := Tryd.zeroValue4
  t22 := Tryd.underlying44
  a22 := Tryd.isAgg44
  z22 := Tryd.sizeOf44
  v22 := Tryd.zeroValue44
  a24 := Tryd.isAgg3
  z24 := Tryd.sizeOf3
  t25 := Tryd.underlying62
  a25 := Tryd.isAgg62
  z25 := Tryd.sizeOf62
  v25 := Tryd.zeroValue62
  t70 := Tryd.underlying98
  a70 := Tryd.isAgg98
  z70 := Tryd.sizeOf98
  v70 := Tryd.zeroValue98
  t77 := Tryd.underlying102
  a77 := Tryd.isAgg102
  z77 := Tryd.sizeOf102
  v77 := Tryd.zeroValue102 }
open Go.RowKit Go.Lib Go.Sort in
/-- slices.medianAdjacentCmpFunc at elements of one cell. (LAID AT THE INSTANCE 'slices.medianAdjacentCmpFunc[int]': no walk: one application.) -/
theorem Tryd.medianAdjacentCmpFunc {α : Type} [Inhabited α] (enc : α → Value) (cf : α → α → Int) (g : Nat) (cb : Array Value) (blk off cap a c s : Nat) (d0 d : Array α) (w0 W : World) (eg : ∀ args w, (callFunc g args).run Tryd.prog w = .ok (.enter g args) w) (hcmp : CmpLays1 Tryd.prog g cb enc cf blk off d0.size w0) (R : Row1 enc w0 blk off d0) (hs : d0.size = d.size) (C : Cnt1 enc w0 blk off d c s W) (ha1 : 1 ≤ a) (ha2 : a + 1 < d.size) (hsz : d.size < 4611686018427387904) (hss : s + 3 < 4611686018427387904) :
    Calls Tryd.prog 71 #[.slice (some ⟨blk, off, none⟩) d.size cap, .int .i64 a, .pointer (some ⟨c, 0, none⟩), .func (.func g) #[] cb] W fun e w' =>
      e = .returned (.int .i64 (medianAdjacent (ltOf cf) d a s).1) ∧ Cnt1 enc w0 blk off d c (medianAdjacent (ltOf cf) d a s).2 w' := Any.medianAdjacentCmpFunc Tryd.laysSlF49_f71 enc cf g cb blk off cap a c s d0 d w0 W eg hcmp R hs C ha1 ha2 hsz hss
def Tryd.laysSlF23_f60_ren : Go.Shelf.Ren := ⟨fun | 23 => 60 | 49 => 71 | 50 => 72 | 57 => 74 | n => n, fun | 24 => 3 | 22 => 44 | 3 => 3 | 25 => 62 | 45 => 85 | 0 => 0 | 4 => 4 | 70 => 98 | 77 => 102 | n => n, fun | n => n⟩
theorem Tryd.laysSlF23_f60 : Go.Proofs.SlLaysF.n23 Tryd.prog Tryd.laysSlF23_f60_ren := {
  mixed := by kernel_rfl
  f23 := ⟨Tryd.f60.name, by decide, Tryd.func60.trans (congrArg some (by kernel_rfl))⟩
  f49 := ⟨Tryd.f71.name, by decide, Tryd.func71.trans (congrArg some (by kernel_rfl))⟩
  f50 := ⟨Tryd.f72.name, by decide, Tryd.func72.trans (congrArg some (by kernel_rfl))⟩
  f57 := ⟨Tryd.f74.name, by decide, Tryd.func74.trans (congrArg some (by kernel_rfl))⟩
  t0 := Tryd.underlying0
  a0 := Tryd.isAgg0
  z0 := Tryd.sizeOf0
  v0 := Tryd.zeroValue0
  t3 := Tryd.underlying3
  a3 := Tryd.isAgg3
  z3 := Tryd.sizeOf3
  v3 := Tryd.zeroValue3
  t4 := Tryd.underlying4
  a4 := Tryd.isAgg4
  z4 := Tryd.sizeOf4
  v4 := Tryd.zeroValue4
  t22 := Tryd.underlying44
  a22 := Tryd.isAgg44
  z22 := Tryd.sizeOf44
  v22 := Tryd.zeroValue44
  a24 := Tryd.isAgg3
  z24 := Tryd.sizeOf3
  t25 := Tryd.underlying62
  a25 := Tryd.isAgg62
  z25 := Tryd.sizeOf62
  v25 := Tryd.zeroValue62
  t45 := Tryd.underlying85
  a45 := Tryd.isAgg85
  z45 := Tryd.sizeOf85
  v45 := Tryd.zeroValue85
  t70 := Tryd.underlying98
  a70 := Tryd.isAgg98
  z70 := Tryd.sizeOf98
  v70 := Tryd.zeroValue98
  t77 := Tryd.underlying102
  a77 := Tryd.isAgg102
  z77 := Tryd.sizeOf102
  v77 := Tryd.zeroValue102 }
open Go.RowKit Go.Lib Go.Sort in
/-- slices.choosePivotCmpFunc at elements of one cell: THE LIBRARY's OWN TEXT COMPUTES 'Sort.choosePivot (ltOf cf) d a b'; the row is not turned. (After Derived/Shelf/SlSortFuncK/PivotK.lean, row for row; the counter's world by 'CntK'.) (LAID AT THE INSTANCE 'slices.choosePivotCmpFunc[int]': no walk: one application.) -/
theorem Tryd.choosePivotCmpFunc {α : Type} [Inhabited α] (enc : α → Value) (cf : α → α → Int) (g : Nat) (cb : Array Value) (blk off cap a b : Nat) (d0 d : Array α) (w0 W : World) (eg : ∀ args w, (callFunc g args).run Tryd.prog w = .ok (.enter g args) w) (hcmp : CmpLays1 Tryd.prog g cb enc cf blk off d0.size w0) (R : Row1 enc w0 blk off d0) (hs : d0.size = d.size) (S : SW enc w0 blk off d W) (hab : a < b) (hb : b ≤ d.size) (hsz : d.size < 4611686018427387904) :
    Calls Tryd.prog 60 #[.slice (some ⟨blk, off, none⟩) d.size cap, .int .i64 a, .int .i64 b, .func (.func g) #[] cb] W fun e w' =>
      e = .returned (.tuple #[.int .i64 (choosePivot (ltOf cf) d a b).1, .int .i64 (hintCode (choosePivot (ltOf cf) d a b).2)]) ∧ SW enc w0 blk off d w' := Any.choosePivotCmpFunc Tryd.laysSlF23_f60 enc cf g cb blk off cap a b d0 d w0 W eg hcmp R hs S hab hb hsz
def Tryd.laysSlF24_f61_ren : Go.Shelf.Ren := ⟨fun | 24 => 61 | n => n, fun | 24 => 3 | 22 => 44 | 3 => 3 | 25 => 62 | 4 => 4 | 0 => 0 | n => n, fun | n => n⟩
theorem Tryd.laysSlF24_f61 : Go.Proofs.SlLaysF.n24 Tryd.prog Tryd.laysSlF24_f61_ren := {
  mixed := by kernel_rfl
  f24 := ⟨Tryd.f61.name, by decide, Tryd.func61.trans (congrArg some (by kernel_rfl))⟩
  t0 := Tryd.underlying0
  a0 := Tryd.isAgg0
  z0 := Tryd.sizeOf0
  v0 := Tryd.zeroValue0
  t3 := Tryd.underlying3
  a3 := Tryd.isAgg3
  z3 := Tryd.sizeOf3
  v3 := Tryd.zeroValue3
  t4 := Tryd.underlying4
  a4 := Tryd.isAgg4
  z4 := Tryd.sizeOf4
  v4 := Tryd.zeroValue4
  t22 := Tryd.underlying44
  a22 := Tryd.isAgg44
  z22 := Tryd.sizeOf44
  v22 := Tryd.zeroValue44
  a24 := Tryd.isAgg3
  z24 := Tryd.sizeOf3
  t25 := Tryd.underlying62
  a25 := Tryd.isAgg62
  z25 := Tryd.sizeOf62
  v25 := Tryd.zeroValue62 }
open Go.RowKit Go.Lib Go.Sort in
/-- slices.reverseRangeCmpFunc at elements of one cell: it exchanges and does not compare. (LAID AT THE INSTANCE 'slices.reverseRangeCmpFunc[int]': no walk: one application.) -/
theorem Tryd.reverseRangeCmpFunc {α : Type} [Inhabited α] (enc : α → Value) (g : Nat) (cb : Array Value) (blk off cap a b : Nat) (d0 d : Array α) (w0 w : World) (R : Row1 enc w0 blk off d0) (hs : d0.size = d.size) (S : SW enc w0 blk off d w) (hab : a ≤ b) (hb : b ≤ d.size) (hsz : d.size < 4611686018427387904) :
    Calls Tryd.prog 61 #[.slice (some ⟨blk, off, none⟩) d.size cap, .int .i64 a, .int .i64 b, .func (.func g) #[] cb] w fun e w' => e = .returned (.tuple #[]) ∧ SW enc w0 blk off (reverseRange d a b) w' := Any.reverseRangeCmpFunc Tryd.laysSlF24_f61 enc g cb blk off cap a b d0 d w0 w R hs S hab hb hsz
def Tryd.laysSlF25_f62_ren : Go.Shelf.Ren := ⟨fun | 25 => 62 | n => n, fun | 24 => 3 | 22 => 44 | 3 => 3 | 25 => 62 | 4 => 4 | 0 => 0 | n => n, fun | n => n⟩
theorem Tryd.laysSlF25_f62 : Go.Proofs.SlLaysF.n25 Tryd.prog Tryd.laysSlF25_f62_ren := {
  mixed := by kernel_rfl
  f25 := ⟨Tryd.f62.name, by decide, Tryd.func62.trans (congrArg some (by kernel_rfl))⟩
  t0 := Tryd.underlying0
  a0 := Tryd.isAgg0
  z0 := Tryd.sizeOf0
  v0 := Tryd.zeroValue0
  t3 := Tryd.underlying3
  a3 := Tryd.isAgg3
  z3 := Tryd.sizeOf3
  v3 := Tryd.zeroValue3
  t4 := Tryd.underlying4
  a4 := Tryd.isAgg4
  z4 := Tryd.sizeOf4
  v4 := Tryd.zeroValue4
  t22 := Tryd.underlying44
  a22 := Tryd.isAgg44
  z22 := Tryd.sizeOf44
  v22 := Tryd.zeroValue44
  a24 := Tryd.isAgg3
  z24 := Tryd.sizeOf3
  t25 := Tryd.underlying62
  a25 := Tryd.isAgg62
  z25 := Tryd.sizeOf62
  v25 := Tryd.zeroValue62 }
open Go.RowKit Go.Lib Go.Sort in
/-- slices.partialInsertionSortCmpFunc at elements of one cell. (LAID AT THE INSTANCE 'slices.partialInsertionSortCmpFunc[int]': no walk: one application.) -/
theorem Tryd.partialInsertionSortCmpFunc {α : Type} [Inhabited α] (enc : α → Value) (cf : α → α → Int) (g : Nat) (cb : Array Value) (blk off cap a b : Nat) (d0 d : Array α) (w0 w : World) (eg : ∀ args w, (callFunc g args).run Tryd.prog w = .ok (.enter g args) w) (hcmp : CmpLays1 Tryd.prog g cb enc cf blk off d0.size w0) (R : Row1 enc w0 blk off d0) (hs : d0.size = d.size) (S : SW enc w0 blk off d w) (hab : a < b) (hb : b ≤ d.size) (hsz : d.size < 4611686018427387904) :
    Calls Tryd.prog 62 #[.slice (some ⟨blk, off, none⟩) d.size cap, .int .i64 a, .int .i64 b, .func (.func g) #[] cb] w fun e w' =>
      e = .returned (.bool (Sort.partialInsertionSort (ltOf cf) d a b).2) ∧ SW enc w0 blk off (Sort.partialInsertionSort (ltOf cf) d a b).1 w' := Any.partialInsertionSortCmpFunc Tryd.laysSlF25_f62 enc cf g cb blk off cap a b d0 d w0 w eg hcmp R hs S hab hb hsz
def Tryd.laysSlF26_f63_ren : Go.Shelf.Ren := ⟨fun | 26 => 63 | n => n, fun | 24 => 3 | 22 => 44 | 3 => 3 | 25 => 62 | 0 => 0 | 4 => 4 | n => n, fun | n => n⟩
theorem Tryd.laysSlF26_f63 : Go.Proofs.SlLaysF.n26 Tryd.prog Tryd.laysSlF26_f63_ren := {
  mixed := by kernel_rfl
  f26 := ⟨Tryd.f63.name, by decide, Tryd.func63.trans (congrArg some (by kernel_rfl))⟩
  t0 := Tryd.underlying0
  a0 := Tryd.isAgg0
  z0 := Tryd.sizeOf0
  v0 := Tryd.zeroValue0
  t3 := Tryd.underlying3
  a3 := Tryd.isAgg3
  z3 := Tryd.sizeOf3
  v3 := Tryd.zeroValue3
  t4 := Tryd.underlying4
  a4 := Tryd.isAgg4
  z4 := Tryd.sizeOf4
  v4 := Tryd.zeroValue4
  t22 := Tryd.underlying44
  a22 := Tryd.isAgg44
  z22 := Tryd.sizeOf44
  v22 := Tryd.zeroValue44
  a24 := Tryd.isAgg3
  z24 := Tryd.sizeOf3
  t25 := Tryd.underlying62
  a25 := Tryd.isAgg62
  z25 := Tryd.sizeOf62
  v25 := Tryd.zeroValue62 }
open Go.RowKit Go.Lib Go.Sort in
/-- slices.partitionEqualCmpFunc at elements of one cell. (After Derived/Shelf/SlSortFuncK/PartitionK.lean, row for row.) (LAID AT THE INSTANCE 'slices.partitionEqualCmpFunc[int]': no walk: one application.) -/
theorem Tryd.partitionEqualCmpFunc {α : Type} [Inhabited α] (enc : α → Value) (cf : α → α → Int) (g : Nat) (cb : Array Value) (blk off cap a b pivot : Nat) (d0 d : Array α) (w0 w : World) (eg : ∀ args w, (callFunc g args).run Tryd.prog w = .ok (.enter g args) w) (hcmp : CmpLays1 Tryd.prog g cb enc cf blk off d0.size w0) (R : Row1 enc w0 blk off d0) (hs : d0.size = d.size) (S : SW enc w0 blk off d w) (hap : a ≤ pivot) (hpb : pivot < b) (hb : b ≤ d.size) (hsz : d.size < 4611686018427387904) :
    Calls Tryd.prog 63 #[.slice (some ⟨blk, off, none⟩) d.size cap, .int .i64 a, .int .i64 b, .int .i64 pivot, .func (.func g) #[] cb] w fun e w' =>
      e = .returned (.int .i64 (Sort.partitionEqual (ltOf cf) d a b pivot).1) ∧ SW enc w0 blk off (Sort.partitionEqual (ltOf cf) d a b pivot).2 w' := Any.partitionEqualCmpFunc Tryd.laysSlF26_f63 enc cf g cb blk off cap a b pivot d0 d w0 w eg hcmp R hs S hap hpb hb hsz
def Tryd.laysSlF27_f64_ren : Go.Shelf.Ren := ⟨fun | 27 => 64 | n => n, fun | 24 => 3 | 22 => 44 | 3 => 3 | 25 => 62 | 4 => 4 | 0 => 0 | n => n, fun | n => n⟩
theorem Tryd.laysSlF27_f64 : Go.Proofs.SlLaysF.n27 Tryd.prog Tryd.laysSlF27_f64_ren := {
  mixed := by kernel_rfl
  f27 := ⟨Tryd.f64.name, by decide, Tryd.func64.trans (congrArg some (by kernel_rfl))⟩
  t0 := Tryd.underlying0
  a0 := Tryd.isAgg0
  z0 := Tryd.sizeOf0
  v0 := Tryd.zeroValue0
  t3 := Tryd.underlying3
  a3 := Tryd.isAgg3
  z3 := Tryd.sizeOf3
  v3 := Tryd.zeroValue3
  t4 := Tryd.underlying4
  a4 := Tryd.isAgg4
  z4 := Tryd.sizeOf4
  v4 := Tryd.zeroValue4
  t22 := Tryd.underlying44
  a22 := Tryd.isAgg44
  z22 := Tryd.sizeOf44
  v22 := Tryd.zeroValue44
  a24 := Tryd.isAgg3
  z24 := Tryd.sizeOf3
  t25 := Tryd.underlying62
  a25 := Tryd.isAgg62
  z25 := Tryd.sizeOf62
  v25 := Tryd.zeroValue62 }
open Go.RowKit Go.Lib Go.Sort in
/-- slices.partitionCmpFunc at elements of one cell. (After Derived/Shelf/SlSortFuncK/PartitionK.lean, row for row.) (LAID AT THE INSTANCE 'slices.partitionCmpFunc[int]': no walk: one application.) -/
theorem Tryd.partitionCmpFunc {α : Type} [Inhabited α] (enc : α → Value) (cf : α → α → Int) (g : Nat) (cb : Array Value) (blk off cap a b pivot : Nat) (d0 d : Array α) (w0 w : World) (eg : ∀ args w, (callFunc g args).run Tryd.prog w = .ok (.enter g args) w) (hcmp : CmpLays1 Tryd.prog g cb enc cf blk off d0.size w0) (R : Row1 enc w0 blk off d0) (hs : d0.size = d.size) (S : SW enc w0 blk off d w) (hap : a ≤ pivot) (hpb : pivot < b) (hb : b ≤ d.size) (hsz : d.size < 4611686018427387904) :
    Calls Tryd.prog 64 #[.slice (some ⟨blk, off, none⟩) d.size cap, .int .i64 a, .int .i64 b, .int .i64 pivot, .func (.func g) #[] cb] w fun e w' =>
      e = .returned (.tuple #[.int .i64 (Sort.partition (ltOf cf) d a b pivot).1, .bool (Sort.partition (ltOf cf) d a b pivot).2.1]) ∧ SW enc w0 blk off (Sort.partition (ltOf cf) d a b pivot).2.2 w' := Any.partitionCmpFunc Tryd.laysSlF27_f64 enc cf g cb blk off cap a b pivot d0 d w0 w eg hcmp R hs S hap hpb hb hsz
def Tryd.laysSlF14_f48_ren : Go.Shelf.Ren := ⟨fun | 14 => 48 | 20 => 57 | 21 => 58 | 22 => 59 | 23 => 60 | 24 => 61 | 25 => 62 | 26 => 63 | 27 => 64 | 46 => 68 | 47 => 69 | 48 => 70 | 49 => 71 | 50 => 72 | 15 => 49 | 57 => 74 | 28 => 65 | 29 => 66 | n => n, fun | 24 => 3 | 22 => 44 | 3 => 3 | 25 => 62 | 4 => 4 | 0 => 0 | 46 => 86 | 45 => 85 | 50 => 90 | 66 => 94 | 39 => 76 | 55 => 32 | 70 => 98 | 76 => 101 | 77 => 102 | 53 => 93 | 5 => 5 | 9 => 9 | n => n, fun | n => n⟩
theorem Tryd.laysSlF14_f48 : Go.Proofs.SlLaysF.n14 Tryd.prog Tryd.laysSlF14_f48_ren := {
  mixed := by kernel_rfl
  f14 := ⟨Tryd.f48.name, by decide, Tryd.func48.trans (congrArg some (by kernel_rfl))⟩
  f15 := Tryd.func49.trans (congrArg some (by kernel_rfl))
  f20 := ⟨Tryd.f57.name, by decide, Tryd.func57.trans (congrArg some (by kernel_rfl))⟩
  f21 := ⟨Tryd.f58.name, by decide, Tryd.func58.trans (congrArg some (by kernel_rfl))⟩
  f22 := ⟨Tryd.f59.name, by decide, Tryd.func59.trans (congrArg some (by kernel_rfl))⟩
  f23 := ⟨Tryd.f60.name, by decide, Tryd.func60.trans (congrArg some (by kernel_rfl))⟩
  f24 := ⟨Tryd.f61.name, by decide, Tryd.func61.trans (congrArg some (by kernel_rfl))⟩
  f25 := ⟨Tryd.f62.name, by decide, Tryd.func62.trans (congrArg some (by kernel_rfl))⟩
  f26 := ⟨Tryd.f63.name, by decide, Tryd.func63.trans (congrArg some (by kernel_rfl))⟩
  f27 := ⟨Tryd.f64.name, by decide, Tryd.func64.trans (congrArg some (by kernel_rfl))⟩
  f28 := Tryd.func65.trans (congrArg some (by kernel_rfl))
  f29 := Tryd.func66.trans (congrArg some (by kernel_rfl))
  f46 := ⟨Tryd.f68.name, by decide, Tryd.func68.trans (congrArg some (by kernel_rfl))⟩
  f47 := Tryd.func69.trans (congrArg some (by kernel_rfl))
  f48 := Tryd.func70.trans (congrArg some (by kernel_rfl))
  f49 := ⟨Tryd.f71.name, by decide, Tryd.func71.trans (congrArg some (by kernel_rfl))⟩
  f50 := ⟨Tryd.f72.name, by decide, Tryd.func72.trans (congrArg some (by kernel_rfl))⟩
  f57 := ⟨Tryd.f74.name, by decide, Tryd.func74.trans (congrArg some (by kernel_rfl))⟩
  t0 := Tryd.underlying0
  a0 := Tryd.isAgg0
  z0 := Tryd.sizeOf0
  v0 := Tryd.zeroValue0
  t3 := Tryd.underlying3
  a3 := Tryd.isAgg3
  z3 := Tryd.sizeOf3
  v3 := Tryd.zeroValue3
  t4 := Tryd.underlying4
  a4 := Tryd.isAgg4
  z4 := Tryd.sizeOf4
  v4 := Tryd.zeroValue4
  t5 := Tryd.underlying5
  a5 := Tryd.isAgg5
  z5 := Tryd.sizeOf5
  v5 := Tryd.zeroValue5
  t9 := Tryd.underlying9
  a9 := Tryd.isAgg9
  z9 := Tryd.sizeOf9
  v9 := Tryd.zeroValue9
  t22 := Tryd.underlying44
  a22 := Tryd.isAgg44
  z22 := Tryd.sizeOf44
  v22 := Tryd.zeroValue44
  a24 := Tryd.isAgg3
  z24 := Tryd.sizeOf3
  t25 := Tryd.underlying62
  a25 := Tryd.isAgg62
  z25 := Tryd.sizeOf62
  v25 := Tryd.zeroValue62
  t39 := Tryd.underlying76
  a39 := Tryd.isAgg76
  z39 := Tryd.sizeOf76
  v39 := Tryd.zeroValue76
  t45 := Tryd.underlying85
  a45 := Tryd.isAgg85
  z45 := Tryd.sizeOf85
  v45 := Tryd.zeroValue85
  t46 := Tryd.underlying86
  a46 := Tryd.isAgg86
  z46 := Tryd.sizeOf86
  v46 := Tryd.zeroValue86
  t50 := Tryd.underlying90
  a50 := Tryd.isAgg90
  z50 := Tryd.sizeOf90
  v50 := Tryd.zeroValue90
  t53 := Tryd.underlying93
  a53 := Tryd.isAgg93
  z53 := Tryd.sizeOf93
  v53 := Tryd.zeroValue93
  t55 := Tryd.underlying32
  a55 := Tryd.isAgg32
  z55 := Tryd.sizeOf32
  v55 := Tryd.zeroValue32
  t66 := Tryd.underlying94
  a66 := Tryd.isAgg94
  z66 := Tryd.sizeOf94
  v66 := Tryd.zeroValue94
  t70 := Tryd.underlying98
  a70 := Tryd.isAgg98
  z70 := Tryd.sizeOf98
  v70 := Tryd.zeroValue98
  t76 := Tryd.underlying101
  a76 := Tryd.isAgg101
  z76 := Tryd.sizeOf101
  v76 := Tryd.zeroValue101
  t77 := Tryd.underlying102
  a77 := Tryd.isAgg102
  z77 := Tryd.sizeOf102
  v77 := Tryd.zeroValue102 }
open Go.RowKit Go.Lib Go.Sort in
/-- slices.pdqsortCmpFunc at elements of one cell, WHOLE. (After Derived/Shelf/SlSortFuncK/PdqK.lean, row for row: the slots and the regions' numbers are this body's.) (LAID AT THE INSTANCE 'slices.pdqsortCmpFunc[int]': no walk: one application.) -/
theorem Tryd.pdqsortCmpFunc_all {α : Type} [Inhabited α] (enc : α → Value) (cf : α → α → Int) (g : Nat) (cb : Array Value) (hO : SWO (ltOf cf)) (blk off cap : Nat) (d0 : Array α) (w0 : World) (eg : ∀ args w, (callFunc g args).run Tryd.prog w = .ok (.enter g args) w) (hcmp : CmpLays1 Tryd.prog g cb enc cf blk off d0.size w0) (R : Row1 enc w0 blk off d0) :
    ∀ (N a b limit : Nat) (d : Array α) (w : World), b - a < N → d0.size = d.size → SW enc w0 blk off d w → a ≤ b → b ≤ d.size → d.size < 4611686018427387904 → limit < 4611686018427387904 → Below (ltOf cf) a b d →
    Calls Tryd.prog 48 #[.slice (some ⟨blk, off, none⟩) d.size cap, .int .i64 a, .int .i64 b, .int .i64 limit, .func (.func g) #[] cb] w fun e w' => e = .returned (.tuple #[]) ∧ SW enc w0 blk off (pdq (ltOf cf) d a b limit true true) w' := Any.pdqsortCmpFunc_all Tryd.laysSlF14_f48 enc cf g cb hO blk off cap d0 w0 eg hcmp R
def Tryd.laysSlF6_f27_ren : Go.Shelf.Ren := ⟨fun | 6 => 27 | 15 => 49 | 14 => 48 | 28 => 65 | 29 => 66 | 20 => 57 | 21 => 58 | 22 => 59 | 23 => 60 | 24 => 61 | 25 => 62 | 26 => 63 | 27 => 64 | 46 => 68 | 47 => 69 | 48 => 70 | 49 => 71 | 50 => 72 | 57 => 74 | n => n, fun | 22 => 44 | 24 => 3 | 25 => 62 | 3 => 3 | 39 => 76 | 0 => 0 | 53 => 93 | 55 => 32 | 4 => 4 | 46 => 86 | 45 => 85 | 50 => 90 | 5 => 5 | 9 => 9 | 66 => 94 | 70 => 98 | 76 => 101 | 77 => 102 | n => n, fun | n => n⟩
theorem Tryd.laysSlF6_f27 : Go.Proofs.SlLaysF.n6 Tryd.prog Tryd.laysSlF6_f27_ren := {
  mixed := by kernel_rfl
  f6 := ⟨Tryd.f27.name, by decide, Tryd.func27.trans (congrArg some (by kernel_rfl))⟩
  f14 := ⟨Tryd.f48.name, by decide, Tryd.func48.trans (congrArg some (by kernel_rfl))⟩
  f15 := Tryd.func49.trans (congrArg some (by kernel_rfl))
  f20 := ⟨Tryd.f57.name, by decide, Tryd.func57.trans (congrArg some (by kernel_rfl))⟩
  f21 := ⟨Tryd.f58.name, by decide, Tryd.func58.trans (congrArg some (by kernel_rfl))⟩
  f22 := ⟨Tryd.f59.name, by decide, Tryd.func59.trans (congrArg some (by kernel_rfl))⟩
  f23 := ⟨Tryd.f60.name, by decide, Tryd.func60.trans (congrArg some (by kernel_rfl))⟩
  f24 := ⟨Tryd.f61.name, by decide, Tryd.func61.trans (congrArg some (by kernel_rfl))⟩
  f25 := ⟨Tryd.f62.name, by decide, Tryd.func62.trans (congrArg some (by kernel_rfl))⟩
  f26 := ⟨Tryd.f63.name, by decide, Tryd.func63.trans (congrArg some (by kernel_rfl))⟩
  f27 := ⟨Tryd.f64.name, by decide, Tryd.func64.trans (congrArg some (by kernel_rfl))⟩
  f28 := Tryd.func65.trans (congrArg some (by kernel_rfl))
  f29 := Tryd.func66.trans (congrArg some (by kernel_rfl))
  f46 := ⟨Tryd.f68.name, by decide, Tryd.func68.trans (congrArg some (by kernel_rfl))⟩
  f47 := Tryd.func69.trans (congrArg some (by kernel_rfl))
  f48 := Tryd.func70.trans (congrArg some (by kernel_rfl))
  f49 := ⟨Tryd.f71.name, by decide, Tryd.func71.trans (congrArg some (by kernel_rfl))⟩
  f50 := ⟨Tryd.f72.name, by decide, Tryd.func72.trans (congrArg some (by kernel_rfl))⟩
  f57 := ⟨Tryd.f74.name, by decide, Tryd.func74.trans (congrArg some (by kernel_rfl))⟩
  t0 := Tryd.underlying0
  a0 := Tryd.isAgg0
  z0 := Tryd.sizeOf0
  v0 := Tryd.zeroValue0
  t3 := Tryd.underlying3
  a3 := Tryd.isAgg3
  z3 := Tryd.sizeOf3
  v3 := Tryd.zeroValue3
  t4 := Tryd.underlying4
  a4 := Tryd.isAgg4
  z4 := Tryd.sizeOf4
  v4 := Tryd.zeroValue4
  t5 := Tryd.underlying5
  a5 := Tryd.isAgg5
  z5 := Tryd.sizeOf5
  v5 := Tryd.zeroValue5
  t9 := Tryd.underlying9
  a9 := Tryd.isAgg9
  z9 := Tryd.sizeOf9
  v9 := Tryd.zeroValue9
  t22 := Tryd.underlying44
  a22 := Tryd.isAgg44
  z22 := Tryd.sizeOf44
  v22 := Tryd.zeroValue44
  a24 := Tryd.isAgg3
  z24 := Tryd.sizeOf3
  t25 := Tryd.underlying62
  a25 := Tryd.isAgg62
  z25 := Tryd.sizeOf62
  v25 := Tryd.zeroValue62
  t39 := Tryd.underlying76
  a39 := Tryd.isAgg76
  z39 := Tryd.sizeOf76
  v39 := Tryd.zeroValue76
  t45 := Tryd.underlying85
  a45 := Tryd.isAgg85
  z45 := Tryd.sizeOf85
  v45 := Tryd.zeroValue85
  t46 := Tryd.underlying86
  a46 := Tryd.isAgg86
  z46 := Tryd.sizeOf86
  v46 := Tryd.zeroValue86
  t50 := Tryd.underlying90
  a50 := Tryd.isAgg90
  z50 := Tryd.sizeOf90
  v50 := Tryd.zeroValue90
  t53 := Tryd.underlying93
  a53 := Tryd.isAgg93
  z53 := Tryd.sizeOf93
  v53 := Tryd.zeroValue93
  t55 := Tryd.underlying32
  a55 := Tryd.isAgg32
  z55 := Tryd.sizeOf32
  v55 := Tryd.zeroValue32
  t66 := Tryd.underlying94
  a66 := Tryd.isAgg94
  z66 := Tryd.sizeOf94
  v66 := Tryd.zeroValue94
  t70 := Tryd.underlying98
  a70 := Tryd.isAgg98
  z70 := Tryd.sizeOf98
  v70 := Tryd.zeroValue98
  t76 := Tryd.underlying101
  a76 := Tryd.isAgg101
  z76 := Tryd.sizeOf101
  v76 := Tryd.zeroValue101
  t77 := Tryd.underlying102
  a77 := Tryd.isAgg102
  z77 := Tryd.sizeOf102
  v77 := Tryd.zeroValue102 }
open Go.RowKit Go.Lib Go.Sort in
/-- **slices.SortFunc: WHAT THE ROW HOLDS, TO THE ELEMENT.** (LAID AT THE INSTANCE 'slices.SortFunc[[]int,int]': no walk: one application.) -/
theorem Tryd.slices_SortFunc_eq {α : Type} [Inhabited α] (enc : α → Value) (h1 : OneCell enc) (cf : α → α → Int) (hO : SWO (ltOf cf)) (g : Nat) (cb : Array Value) (blk off cap : Nat) (d : Array α) (w : World) (eg : ∀ args w, (callFunc g args).run Tryd.prog w = .ok (.enter g args) w) (hcmp : CmpLays1 Tryd.prog g cb enc cf blk off d.size w) (hH : Holds enc w blk off d) (hblk : blk < w.heap.size) (hsz : d.size < 4611686018427387904) :
    Calls Tryd.prog 27 #[.slice (some ⟨blk, off, none⟩) d.size cap, .func (.func g) #[] cb] w fun e w' =>
      e = .returned (.tuple #[]) ∧ ∃ n os, w' = sortWorld enc w blk off n (pdq (ltOf cf) d 0 d.size (Lib.bitLen d.size) true true) os := Any.slices_SortFunc_eq Tryd.laysSlF6_f27 enc h1 cf hO g cb blk off cap d w eg hcmp hH hblk hsz
open Go.RowKit Go.Lib Go.Sort in
/-- **slices.SortFunc, IN THE DOCUMENTATION's OWN TERMS: A PERMUTATION OF WHAT THE ROW HELD, SORTED BY 'cmp(a, b) < 0'.** Which of two equals comes first is left open ("The sort is not guaranteed to be stable"). (LAID AT THE INSTANCE 'slices.SortFunc[[]int,int]': no walk: one application.) -/
theorem Tryd.slices_SortFunc {α : Type} [Inhabited α] (enc : α → Value) (h1 : OneCell enc) (cf : α → α → Int) (hO : SWO (ltOf cf)) (g : Nat) (cb : Array Value) (blk off cap : Nat) (d : Array α) (w : World) (eg : ∀ args w, (callFunc g args).run Tryd.prog w = .ok (.enter g args) w) (hcmp : CmpLays1 Tryd.prog g cb enc cf blk off d.size w) (hH : Holds enc w blk off d) (hblk : blk < w.heap.size) (hsz : d.size < 4611686018427387904) :
    Calls Tryd.prog 27 #[.slice (some ⟨blk, off, none⟩) d.size cap, .func (.func g) #[] cb] w fun e w' =>
      e = .returned (.tuple #[]) ∧ ∃ d' n os, PermIn 0 d.size d d' ∧ SortedIn (ltOf cf) 0 d.size d' ∧ w' = sortWorld enc w blk off n d' os := Any.slices_SortFunc Tryd.laysSlF6_f27 enc h1 cf hO g cb blk off cap d w eg hcmp hH hblk hsz
def Tryd.laysSlF020_f57_ren : Go.Shelf.Ren := ⟨fun | 20 => 57 | n => n, fun | 24 => 3 | 22 => 44 | 3 => 3 | 25 => 62 | 4 => 4 | 0 => 0 | n => n, fun | n => n⟩
theorem Tryd.laysSlF020_f57 : Go.Proofs.SlLaysF0.n20 Tryd.prog Tryd.laysSlF020_f57_ren := {
  mixed := by kernel_rfl
  f20 := ⟨Tryd.f57.name, by decide, Tryd.func57.trans (congrArg some (by kernel_rfl))⟩
  t0 := Tryd.underlying0
  a0 := Tryd.isAgg0
  z0 := Tryd.sizeOf0
  v0 := Tryd.zeroValue0
  t3 := Tryd.underlying3
  a3 := Tryd.isAgg3
  z3 := Tryd.sizeOf3
  v3 := Tryd.zeroValue3
  t4 := Tryd.underlying4
  a4 := Tryd.isAgg4
  z4 := Tryd.sizeOf4
  v4 := Tryd.zeroValue4
  t22 := Tryd.underlying44
  a22 := Tryd.isAgg44
  z22 := Tryd.sizeOf44
  v22 := Tryd.zeroValue44
  t25 := Tryd.underlying62
  a25 := Tryd.isAgg62
  z25 := Tryd.sizeOf62
  v25 := Tryd.zeroValue62 }
open Go.RowKit Go.Lib Go.Sort in
theorem Tryd.insertionSortCmpFunc_none {α : Type} [Inhabited α] (p : Option Addr) (cap : Nat) (fv : Value) (w : World) :
    Calls Tryd.prog 57 #[.slice p 0 cap, .int .i64 0, .int .i64 0, fv] w fun e w' => e = .returned (.tuple #[]) ∧ w' = w := AnyF.insertionSortCmpFunc_none Tryd.laysSlF020_f57 p cap fv w
def Tryd.laysSlF014_f48_ren : Go.Shelf.Ren := ⟨fun | 14 => 48 | 20 => 57 | 21 => 58 | 22 => 59 | 23 => 60 | 24 => 61 | 25 => 62 | 26 => 63 | 27 => 64 | 46 => 68 | 47 => 69 | 48 => 70 | 49 => 71 | 50 => 72 | 15 => 49 | 57 => 74 | 28 => 65 | 29 => 66 | n => n, fun | 24 => 3 | 22 => 44 | 3 => 3 | 25 => 62 | 4 => 4 | 0 => 0 | 46 => 86 | 45 => 85 | 50 => 90 | 66 => 94 | 39 => 76 | 55 => 32 | 70 => 98 | 76 => 101 | 77 => 102 | 53 => 93 | 5 => 5 | 9 => 9 | n => n, fun | n => n⟩
theorem Tryd.laysSlF014_f48 : Go.Proofs.SlLaysF0.n14 Tryd.prog Tryd.laysSlF014_f48_ren := {
  mixed := by kernel_rfl
  f14 := ⟨Tryd.f48.name, by decide, Tryd.func48.trans (congrArg some (by kernel_rfl))⟩
  f15 := Tryd.func49.trans (congrArg some (by kernel_rfl))
  f20 := ⟨Tryd.f57.name, by decide, Tryd.func57.trans (congrArg some (by kernel_rfl))⟩
  f21 := ⟨Tryd.f58.name, by decide, Tryd.func58.trans (congrArg some (by kernel_rfl))⟩
  f22 := ⟨Tryd.f59.name, by decide, Tryd.func59.trans (congrArg some (by kernel_rfl))⟩
  f23 := ⟨Tryd.f60.name, by decide, Tryd.func60.trans (congrArg some (by kernel_rfl))⟩
  f24 := ⟨Tryd.f61.name, by decide, Tryd.func61.trans (congrArg some (by kernel_rfl))⟩
  f25 := ⟨Tryd.f62.name, by decide, Tryd.func62.trans (congrArg some (by kernel_rfl))⟩
  f26 := ⟨Tryd.f63.name, by decide, Tryd.func63.trans (congrArg some (by kernel_rfl))⟩
  f27 := ⟨Tryd.f64.name, by decide, Tryd.func64.trans (congrArg some (by kernel_rfl))⟩
  f28 := Tryd.func65.trans (congrArg some (by kernel_rfl))
  f29 := Tryd.func66.trans (congrArg some (by kernel_rfl))
  f46 := ⟨Tryd.f68.name, by decide, Tryd.func68.trans (congrArg some (by kernel_rfl))⟩
  f47 := Tryd.func69.trans (congrArg some (by kernel_rfl))
  f48 := Tryd.func70.trans (congrArg some (by kernel_rfl))
  f49 := ⟨Tryd.f71.name, by decide, Tryd.func71.trans (congrArg some (by kernel_rfl))⟩
  f50 := ⟨Tryd.f72.name, by decide, Tryd.func72.trans (congrArg some (by kernel_rfl))⟩
  f57 := ⟨Tryd.f74.name, by decide, Tryd.func74.trans (congrArg some (by kernel_rfl))⟩
  t0 := Tryd.underlying0
  a0 := Tryd.isAgg0
  z0 := Tryd.sizeOf0
  v0 := Tryd.zeroValue0
  t3 := Tryd.underlying3
  a3 := Tryd.isAgg3
  z3 := Tryd.sizeOf3
  v3 := Tryd.zeroValue3
  t4 := Tryd.underlying4
  a4 := Tryd.isAgg4
  z4 := Tryd.sizeOf4
  v4 := Tryd.zeroValue4
  t5 := Tryd.underlying5
  a5 := Tryd.isAgg5
  z5 := Tryd.sizeOf5
  v5 := Tryd.zeroValue5
  t9 := Tryd.underlying9
  a9 := Tryd.isAgg9
  z9 := Tryd.sizeOf9
  v9 := Tryd.zeroValue9
  t22 := Tryd.underlying44
  a22 := Tryd.isAgg44
  z22 := Tryd.sizeOf44
  v22 := Tryd.zeroValue44
  t25 := Tryd.underlying62
  a25 := Tryd.isAgg62
  z25 := Tryd.sizeOf62
  v25 := Tryd.zeroValue62
  t39 := Tryd.underlying76
  a39 := Tryd.isAgg76
  z39 := Tryd.sizeOf76
  v39 := Tryd.zeroValue76
  t45 := Tryd.underlying85
  a45 := Tryd.isAgg85
  z45 := Tryd.sizeOf85
  v45 := Tryd.zeroValue85
  t46 := Tryd.underlying86
  a46 := Tryd.isAgg86
  z46 := Tryd.sizeOf86
  v46 := Tryd.zeroValue86
  t50 := Tryd.underlying90
  a50 := Tryd.isAgg90
  z50 := Tryd.sizeOf90
  v50 := Tryd.zeroValue90
  t53 := Tryd.underlying93
  a53 := Tryd.isAgg93
  z53 := Tryd.sizeOf93
  v53 := Tryd.zeroValue93
  t55 := Tryd.underlying32
  a55 := Tryd.isAgg32
  z55 := Tryd.sizeOf32
  v55 := Tryd.zeroValue32
  t66 := Tryd.underlying94
  a66 := Tryd.isAgg94
  z66 := Tryd.sizeOf94
  v66 := Tryd.zeroValue94
  t70 := Tryd.underlying98
  a70 := Tryd.isAgg98
  z70 := Tryd.sizeOf98
  v70 := Tryd.zeroValue98
  t76 := Tryd.underlying101
  a76 := Tryd.isAgg101
  z76 := Tryd.sizeOf101
  v76 := Tryd.zeroValue101
  t77 := Tryd.underlying102
  a77 := Tryd.isAgg102
  z77 := Tryd.sizeOf102
  v77 := Tryd.zeroValue102 }
open Go.RowKit Go.Lib Go.Sort in
theorem Tryd.pdqsortCmpFunc_none {α : Type} [Inhabited α] (p : Option Addr) (cap : Nat) (lim : Int) (fv : Value) (w : World) :
    Calls Tryd.prog 48 #[.slice p 0 cap, .int .i64 0, .int .i64 0, .int .i64 lim, fv] w fun e w' => e = .returned (.tuple #[]) ∧ w' = w := AnyF.pdqsortCmpFunc_none Tryd.laysSlF014_f48 p cap lim fv w
def Tryd.laysSlF06_f27_ren : Go.Shelf.Ren := ⟨fun | 6 => 27 | 15 => 49 | 14 => 48 | 28 => 65 | 29 => 66 | 20 => 57 | 21 => 58 | 22 => 59 | 23 => 60 | 24 => 61 | 25 => 62 | 26 => 63 | 27 => 64 | 46 => 68 | 47 => 69 | 48 => 70 | 49 => 71 | 50 => 72 | 57 => 74 | n => n, fun | 22 => 44 | 24 => 3 | 25 => 62 | 3 => 3 | 39 => 76 | 0 => 0 | 53 => 93 | 55 => 32 | 4 => 4 | 46 => 86 | 45 => 85 | 50 => 90 | 5 => 5 | 9 => 9 | 66 => 94 | 70 => 98 | 76 => 101 | 77 => 102 | n => n, fun | n => n⟩
theorem Tryd.laysSlF06_f27 : Go.Proofs.SlLaysF0.n6 Tryd.prog Tryd.laysSlF06_f27_ren := {
  mixed := by kernel_rfl
  f6 := ⟨Tryd.f27.name, by decide, Tryd.func27.trans (congrArg some (by kernel_rfl))⟩
  f14 := ⟨Tryd.f48.name, by decide, Tryd.func48.trans (congrArg some (by kernel_rfl))⟩
  f15 := Tryd.func49.trans (congrArg some (by kernel_rfl))
  f20 := ⟨Tryd.f57.name, by decide, Tryd.func57.trans (congrArg some (by kernel_rfl))⟩
  f21 := ⟨Tryd.f58.name, by decide, Tryd.func58.trans (congrArg some (by kernel_rfl))⟩
  f22 := ⟨Tryd.f59.name, by decide, Tryd.func59.trans (congrArg some (by kernel_rfl))⟩
  f23 := ⟨Tryd.f60.name, by decide, Tryd.func60.trans (congrArg some (by kernel_rfl))⟩
  f24 := ⟨Tryd.f61.name, by decide, Tryd.func61.trans (congrArg some (by kernel_rfl))⟩
  f25 := ⟨Tryd.f62.name, by decide, Tryd.func62.trans (congrArg some (by kernel_rfl))⟩
  f26 := ⟨Tryd.f63.name, by decide, Tryd.func63.trans (congrArg some (by kernel_rfl))⟩
  f27 := ⟨Tryd.f64.name, by decide, Tryd.func64.trans (congrArg some (by kernel_rfl))⟩
  f28 := Tryd.func65.trans (congrArg some (by kernel_rfl))
  f29 := Tryd.func66.trans (congrArg some (by kernel_rfl))
  f46 := ⟨Tryd.f68.name, by decide, Tryd.func68.trans (congrArg some (by kernel_rfl))⟩
  f47 := Tryd.func69.trans (congrArg some (by kernel_rfl))
  f48 := Tryd.func70.trans (congrArg some (by kernel_rfl))
  f49 := ⟨Tryd.f71.name, by decide, Tryd.func71.trans (congrArg some (by kernel_rfl))⟩
  f50 := ⟨Tryd.f72.name, by decide, Tryd.func72.trans (congrArg some (by kernel_rfl))⟩
  f57 := ⟨Tryd.f74.name, by decide, Tryd.func74.trans (congrArg some (by kernel_rfl))⟩
  t0 := Tryd.underlying0
  a0 := Tryd.isAgg0
  z0 := Tryd.sizeOf0
  v0 := Tryd.zeroValue0
  t3 := Tryd.underlying3
  a3 := Tryd.isAgg3
  z3 := Tryd.sizeOf3
  v3 := Tryd.zeroValue3
  t4 := Tryd.underlying4
  a4 := Tryd.isAgg4
  z4 := Tryd.sizeOf4
  v4 := Tryd.zeroValue4
  t5 := Tryd.underlying5
  a5 := Tryd.isAgg5
  z5 := Tryd.sizeOf5
  v5 := Tryd.zeroValue5
  t9 := Tryd.underlying9
  a9 := Tryd.isAgg9
  z9 := Tryd.sizeOf9
  v9 := Tryd.zeroValue9
  t22 := Tryd.underlying44
  a22 := Tryd.isAgg44
  z22 := Tryd.sizeOf44
  v22 := Tryd.zeroValue44
  t25 := Tryd.underlying62
  a25 := Tryd.isAgg62
  z25 := Tryd.sizeOf62
  v25 := Tryd.zeroValue62
  t39 := Tryd.underlying76
  a39 := Tryd.isAgg76
  z39 := Tryd.sizeOf76
  v39 := Tryd.zeroValue76
  t45 := Tryd.underlying85
  a45 := Tryd.isAgg85
  z45 := Tryd.sizeOf85
  v45 := Tryd.zeroValue85
  t46 := Tryd.underlying86
  a46 := Tryd.isAgg86
  z46 := Tryd.sizeOf86
  v46 := Tryd.zeroValue86
  t50 := Tryd.underlying90
  a50 := Tryd.isAgg90
  z50 := Tryd.sizeOf90
  v50 := Tryd.zeroValue90
  t53 := Tryd.underlying93
  a53 := Tryd.isAgg93
  z53 := Tryd.sizeOf93
  v53 := Tryd.zeroValue93
  t55 := Tryd.underlying32
  a55 := Tryd.isAgg32
  z55 := Tryd.sizeOf32
  v55 := Tryd.zeroValue32
  t66 := Tryd.underlying94
  a66 := Tryd.isAgg94
  z66 := Tryd.sizeOf94
  v66 := Tryd.zeroValue94
  t70 := Tryd.underlying98
  a70 := Tryd.isAgg98
  z70 := Tryd.sizeOf98
  v70 := Tryd.zeroValue98
  t76 := Tryd.underlying101
  a76 := Tryd.isAgg101
  z76 := Tryd.sizeOf101
  v76 := Tryd.zeroValue101
  t77 := Tryd.underlying102
  a77 := Tryd.isAgg102
  z77 := Tryd.sizeOf102
  v77 := Tryd.zeroValue102 }
open Go.RowKit Go.Lib Go.Sort in
/-- **slices.SortFunc AT NO ELEMENT, A nil SLICE TOO: nothing turns.** (LAID AT THE INSTANCE 'slices.SortFunc[[]int,int]': no walk: one application.) -/
theorem Tryd.slices_SortFunc_none {α : Type} [Inhabited α] (p : Option Addr) (cap : Nat) (fv : Value) (w : World) :
    Calls Tryd.prog 27 #[.slice p 0 cap, fv] w fun e w' => e = .returned (.tuple #[]) ∧ w' = w := AnyF.slices_SortFunc_none Tryd.laysSlF06_f27 p cap fv w
open Go.RowKit Go.Lib Go.Sort in
/-- **slices.SortFunc AT ONE CELL, UNDER A 'cmp' THAT PARTS WHATEVER TWO THAT ARE NOT ONE: THE ROW HOLDS core's 'mergeSort'.** (LAID AT THE INSTANCE 'slices.SortFunc[[]int,int]': no walk: one application.) -/
theorem Tryd.slices_SortFunc_total {α : Type} [Inhabited α] (enc : α → Value) (h1 : OneCell enc) (cf : α → α → Int) (hO : SWO (ltOf cf)) (g : Nat) (cb : Array Value) (blk off cap : Nat) (d : Array α) (w : World) (eg : ∀ args w, (callFunc g args).run Tryd.prog w = .ok (.enter g args) w) (hcmp : CmpLays1 Tryd.prog g cb enc cf blk off d.size w) (hH : Holds enc w blk off d) (hblk : blk < w.heap.size) (hsz : d.size < 4611686018427387904) (hT : ∀ x y, (ltOf cf) x y = false → (ltOf cf) y x = false → x = y) :
    Calls Tryd.prog 27 #[.slice (some ⟨blk, off, none⟩) d.size cap, .func (.func g) #[] cb] w fun e w' =>
      e = .returned (.tuple #[]) ∧ ∃ n os, w' = sortWorld enc w blk off n (d.toList.mergeSort fun x y => !(ltOf cf) y x).toArray os := Any.slices_SortFunc_total Tryd.laysSlF6_f27 enc h1 cf hO g cb blk off cap d w eg hcmp hH hblk hsz hT
end Go.Proofs
end
section
/- ast.grouped's closures, and the order that they sort into. -/
namespace Go.Proofs.YtaaihcojedibeaaDoor.DSort
open Go.RowKit Go.Lib Go.Sort CMem DRow DDeep DSpec DGrp Q Go.Proofs.YtaaihcojedibeaaDoorW.PrintWords Go.Proofs.YtaaihcojedibeaaDoorW.PrintLast Go.Proofs.YtaaihcojedibeaaDoorW.PrintMore
set_option linter.unusedVariables false
set_option linter.unusedSimpArgs false
set_option maxRecDepth 100000
theorem begin_calls (g3 p n c i : Nat) (s : Int) (W : World) (h1 : W.cell? ⟨g3, 0, none⟩ = some (.slice (some ⟨p, 0, none⟩) n c)) (h2 : W.cell? ⟨p, i, none⟩ = some (.int .i64 s)) (hi : i < n) (hs : 0 ≤ s ∧ s ≤ 1000) (hn : n ≤ 1000) :
    Calls Tryd.prog 26 #[.int .i64 (i : Nat), .pointer (some ⟨g3, 0, none⟩)] W fun e w' => e = .returned (.int .i64 ((i : Int) - s + 1)) ∧ w' = W := by
  have hi2 : (i : Int) < (n : Int) := by omega
  go_enter Tryd.func26, Tryd.ntmps26
  go_wp2
  go_ret
  exact ⟨rfl, rfl⟩
/-- how two are compared -/
def cmpi (S : Nat → Int) (x y : Nat) : Int := if ((x : Int) - S x + 1) - ((y : Int) - S y + 1) ≠ 0 then ((x : Int) - S x + 1) - ((y : Int) - S y + 1) else S y - S x
set_option maxHeartbeats 3200000 in
theorem cmp_calls (g3 g8 p n c x y : Nat) (S : Nat → Int) (W : World) (h1 : W.cell? ⟨g3, 0, none⟩ = some (.slice (some ⟨p, 0, none⟩) n c)) (h8 : W.cell? ⟨g8, 0, none⟩ = some (.func (.func 26) #[] #[.pointer (some ⟨g3, 0, none⟩)]))
    (hx : W.cell? ⟨p, x, none⟩ = some (.int .i64 (S x))) (hy : W.cell? ⟨p, y, none⟩ = some (.int .i64 (S y))) (hxn : x < n) (hyn : y < n) (hS : ∀ i, i < n → 0 ≤ S i ∧ S i ≤ 1000) (hn : n ≤ 1000) :
    Calls Tryd.prog 28 #[.int .i64 (x : Nat), .int .i64 (y : Nat), .pointer (some ⟨g8, 0, none⟩), .pointer (some ⟨g3, 0, none⟩)] W fun e w' => e = .returned (.int .i64 (cmpi S x y)) ∧ ∃ q, w' = W.drewN q := by
  have hE : cmpi S x y = if ((x : Int) - S x + 1) - ((y : Int) - S y + 1) ≠ 0 then ((x : Int) - S x + 1) - ((y : Int) - S y + 1) else S y - S x := rfl
  have hx2 : (x : Int) < (n : Int) := by omega
  have hy2 : (y : Int) < (n : Int) := by omega
  have hSx := hS x hxn
  have hSy := hS y hyn
  have KX : ∀ k, Calls Tryd.prog 26 #[.int .i64 (x : Nat), .pointer (some ⟨g3, 0, none⟩)] (W.drewN k) fun e w' => e = .returned (.int .i64 ((x : Int) - S x + 1)) ∧ ∃ m, w' = W.drewN m := fun k => Calls.quiet_of_same (begin_calls g3 p n c x (S x) (W.drewN k) h1 hx hxn hSx hn)
  have KY : ∀ k, Calls Tryd.prog 26 #[.int .i64 (y : Nat), .pointer (some ⟨g3, 0, none⟩)] (W.drewN k) fun e w' => e = .returned (.int .i64 ((y : Int) - S y + 1)) ∧ ∃ m, w' = W.drewN m := fun k => Calls.quiet_of_same (begin_calls g3 p n c y (S y) (W.drewN k) h1 hy hyn hSy hn)
  obtain ⟨bx, hbx⟩ : ∃ z, (x : Int) - S x + 1 = z := ⟨_, rfl⟩
  obtain ⟨by_, hby⟩ : ∃ z, (y : Int) - S y + 1 = z := ⟨_, rfl⟩
  rw [hbx, hby] at hE
  rw [hbx] at KX
  rw [hby] at KY
  have rx : -2000 ≤ bx ∧ bx ≤ 2000 := by omega
  have ry : -2000 ≤ by_ ∧ by_ ≤ 2000 := by omega
  generalize S x = sx at *
  generalize S y = sy at *
  generalize cmpi S x y = R at *
  clear hbx hby hS
  have eg : ∀ args w, (callFunc 26 args).run Tryd.prog w = .ok (.enter 26 args) w := enters_of Tryd.func26 (by kernel_rfl) rfl
  go_enter Tryd.func28, Tryd.ntmps28
  go_wp2
  go_quiet (first | exact KX _ | exact KY _)
  by_cases hd : bx - by_ = 0
  · have d1 : (bx - by_ != 0) = false := by simp [hd]
    rw [if_neg (by omega)] at hE
    clear KX KY hd
    go_wp2
    go_quiet (fail)
    go_wp2
    go_ret
    exact ⟨by rw [hE]; rfl, _, World.drewN_drewN _ _ _⟩
  · have d1 : (bx - by_ != 0) = true := by simp [hd]
    rw [if_pos hd] at hE
    clear KX KY hd
    go_wp2
    go_ret
    exact ⟨by rw [hE]; rfl, _, rfl⟩
theorem cmpi_swo (n : Nat) (S : Nat → Int) : SWO (ltOf fun x y : {i : Nat // i < n} => cmpi S x.1 y.1) where
  irrefl x := by simp [ltOf, cmpi]
  trans x y z h1 h2 := by
    simp only [ltOf, decide_eq_true_eq] at *
    unfold cmpi at *
    split at h1 <;> split at h2 <;> split <;> omega
  ntrans x y z h1 h2 := by
    simp only [ltOf, decide_eq_false_iff_not] at *
    unfold cmpi at *
    split at h1 <;> split at h2 <;> split <;> omega
def encN (n : Nat) (x : {i : Nat // i < n}) : Value := .int .i64 (x.1 : Int)
theorem heap_sortWorld {α : Type} [Inhabited α] (enc : α → Value) (w : World) (blk m : Nat) (d : Array α) (os : Array Obj) (k : Nat) (hk : k ≠ blk) (hl : k < w.heap.size) : (sortWorld enc w blk 0 m d os).heap[k]? = w.heap[k]? := by
  show ((w.heap.modify blk (onCells (putCells enc 0 d))) ++ os)[k]? = _
  rw [Array.getElem?_append_left (by simpa using hl), Array.getElem?_modify, if_neg (fun e => hk e.symm)]
theorem below_sortWorld {α : Type} [Inhabited α] (enc : α → Value) {w0 w : World} {base : Nat} (blk m : Nat) (d : Array α) (os : Array Obj) (hb : Below base w0 w) (hblk : base ≤ blk) (hsz : base ≤ w.heap.size) : Below base w0 (sortWorld enc w blk 0 m d os) :=
  ⟨hb.os, hb.tape, hb.output, Nat.le_trans hb.size (by show _ ≤ ((w.heap.modify blk _) ++ os).size; simp), fun k hk => (heap_sortWorld enc w blk m d os k (by omega) (by omega)).trans (hb.block k hk)⟩
/-- what the sort leaves: the places, in order; all else as it was -/
theorem sort_calls (g3 g8 p n c blk cap base : Nat) (S : Nat → Int) (l : List Nat) (hl : ∀ x, x ∈ l → x < n) (w0 W : World) (h3 : W.cell? ⟨g3, 0, none⟩ = some (.slice (some ⟨p, 0, none⟩) n c)) (h8 : W.cell? ⟨g8, 0, none⟩ = some (.func (.func 26) #[] #[.pointer (some ⟨g3, 0, none⟩)]))
    (hS : ∀ i, i < n → W.cell? ⟨p, i, none⟩ = some (.int .i64 (S i))) (hb : ∀ i, i < n → 0 ≤ S i ∧ S i ≤ 1000) (hn : n ≤ 1000) (n3 : g3 ≠ blk) (n8 : g8 ≠ blk) (np : p ≠ blk) (l3 : g3 < W.heap.size) (l8 : g8 < W.heap.size) (lp : p < W.heap.size) (lb : blk < W.heap.size) (hpos : 0 < l.length) (hlen : l.length ≤ 1000)
    (hrow : ∀ i (h : i < l.length), W.cell? ⟨blk, i, none⟩ = some (.int .i64 ((l[i]'h : Nat) : Int)) ∧ W.frozen? ⟨blk, i, none⟩ = false) (hB : Below base w0 W) (hbase : base ≤ blk) (hbs : base ≤ W.heap.size) :
    Calls Tryd.prog 27 #[.slice (some ⟨blk, 0, none⟩) l.length cap, .func (.func 28) #[] #[.pointer (some ⟨g8, 0, none⟩), .pointer (some ⟨g3, 0, none⟩)]] W fun e w' => e = .returned (.tuple #[]) ∧
      ∃ l' : List Nat, l.Perm l' ∧ (l'.Pairwise fun a b => ¬ cmpi S b a < 0) ∧ (∀ i (h : i < l'.length), w'.cell? ⟨blk, i, none⟩ = some (.int .i64 ((l'[i]'h : Nat) : Int))) ∧ (∀ k, k ≠ blk → k < W.heap.size → w'.heap[k]? = W.heap[k]?) ∧ Below base w0 w' ∧ W.heap.size ≤ w'.heap.size := by
  obtain ⟨z0, hz0⟩ : ∃ z, z ∈ l := List.exists_mem_of_length_pos hpos
  haveI : Inhabited {i : Nat // i < n} := ⟨⟨z0, hl _ hz0⟩⟩
  have eg : ∀ args w, (callFunc 28 args).run Tryd.prog w = .ok (.enter 28 args) w := enters_of Tryd.func28 (by kernel_rfl) rfl
  obtain ⟨d, hd⟩ : ∃ d : Array {i : Nat // i < n}, d = (l.attach.map fun x => (⟨x.1, hl x.1 x.2⟩ : {i : Nat // i < n})).toArray := ⟨_, rfl⟩
  have hds : d.size = l.length := by rw [hd]; simp
  have hdl : d.toList.map (fun x => x.1) = l := by rw [hd]; simp
  have hdi : ∀ i (h : i < l.length), (d[i]!).1 = l[i]'h := by
    intro i h
    rw [getElem!_pos d i (by omega)]
    subst hd
    simp
  have hH : Holds (encN n) W blk 0 d := by
    intro j hj
    have hj' : j < l.length := by omega
    rw [Nat.zero_add]
    refine ⟨?_, (hrow j hj').2⟩
    rw [(hrow j hj').1]
    unfold encN
    rw [hdi j hj']
  have hcmp : CmpLays1 Tryd.prog 28 #[.pointer (some ⟨g8, 0, none⟩), .pointer (some ⟨g3, 0, none⟩)] (encN n) (fun x y => cmpi S x.1 y.1) blk 0 d.size W := by
    intro m os dk hs x y
    have hc : ∀ g i v, g ≠ blk → g < W.heap.size → W.cell? ⟨g, i, none⟩ = some v → (sortWorld (encN n) W blk 0 m dk os).cell? ⟨g, i, none⟩ = some v := by
      intro g i v h1 h2 h3
      rw [← h3]
      unfold World.cell?
      rw [heap_sortWorld (encN n) W blk m dk os g h1 h2]
    refine (cmp_calls g3 g8 p n c x.1 y.1 S _ (hc _ _ _ n3 l3 h3) (hc _ _ _ n8 l8 h8) (hc _ _ _ np lp (hS _ x.2)) (hc _ _ _ np lp (hS _ y.2)) x.2 y.2 hb hn).mono ?_
    rintro e w' ⟨he, q, hw⟩
    exact ⟨he, q, #[], by rw [hw, grow_empty]⟩
  have h := Tryd.slices_SortFunc (encN n) (fun _ => rfl) (fun x y => cmpi S x.1 y.1) (cmpi_swo n S) 28 #[.pointer (some ⟨g8, 0, none⟩), .pointer (some ⟨g3, 0, none⟩)] blk 0 cap d W eg hcmp hH lb (by omega)
  rw [hds] at h
  refine h.mono ?_
  rintro e w' ⟨he, d', m, os, hperm, hsort, rfl⟩
  refine ⟨he, d'.toList.map (fun x => x.1), ?_, ?_, ?_, fun k h1 h2 => heap_sortWorld _ _ _ _ _ _ k h1 h2, below_sortWorld _ blk m d' os hB hbase hbs, ?_⟩
  · have hp := hperm.2.2
    have hs' : d'.size = d.size := hperm.1
    rw [show d'.extract 0 l.length = d' by rw [← hds, ← hs']; exact Array.extract_size, show d.extract 0 l.length = d by rw [← hds]; exact Array.extract_size] at hp
    have := hp.map (fun x => x.1)
    rw [hdl] at this
    exact this.symm
  · rw [List.pairwise_iff_getElem]
    intro i j hi hj hij
    have hi' : i < d'.size := by simpa using hi
    have hj' : j < d'.size := by simpa using hj
    have hs' : d'.size = d.size := hperm.1
    have hx := hsort i j (Nat.zero_le _) hij (by omega)
    rw [getElem!_pos d' i hi', getElem!_pos d' j hj'] at hx
    simp only [List.getElem_map, Array.getElem_toList]
    unfold ltOf at hx
    simpa using hx
  · intro i hi
    have hi' : i < d'.size := by simpa using hi
    have hs' : d'.size = d.size := hperm.1
    have hh := (holds_sortWorld (encN n) W blk 0 m d d' os lb hH hs' i hi').1
    rw [Nat.zero_add] at hh
    rw [hh, getElem!_pos d' i hi']
    simp [encN]
  · show _ ≤ ((W.heap.modify blk _) ++ os).size
    simp
end Go.Proofs.YtaaihcojedibeaaDoor.DSort
end
section
/- ast.sizes, depths, lens: what they answer; slices.Max of depths. -/
namespace Go.Proofs.YtaaihcojedibeaaDoor.DCon
open Go.RowKit CMem DRow DDeep DSizes DFits DLens DSpec DGrp DSort Q Go.Proofs.YtaaihcojedibeaaDoorW.PrintWords Go.Proofs.YtaaihcojedibeaaDoorW.PrintLast Go.Proofs.YtaaihcojedibeaaDoorW.PrintMore
set_option linter.unusedVariables false
set_option linter.unusedSimpArgs false
set_option maxRecDepth 100000
theorem sort_none (p : Option Addr) (cap : Nat) (fv : Value) (w : World) : Calls Tryd.prog 27 #[.slice p 0 cap, fv] w fun e w' => e = .returned (.tuple #[]) ∧ w' = w :=
  AnyF.slices_SortFunc_none { Tryd.laysSlF6_f27 with } p cap fv w
/-- the first node that does not stand in order -/
theorem first_bad (L : List S37) : ∀ n : Nat, ∃ j, j ≤ n ∧ (∀ i, i < j → sz L i ≠ 0) ∧ (j < n → sz L j = 0)
  | 0 => ⟨0, Nat.le_refl _, fun i h => absurd h (Nat.not_lt_zero _), fun h => absurd h (Nat.not_lt_zero _)⟩
  | n + 1 => by
    obtain ⟨j, h1, h2, h3⟩ := first_bad L n
    by_cases e : j < n
    · exact ⟨j, by omega, h2, fun _ => h3 e⟩
    · obtain rfl : j = n := by omega
      by_cases hz : sz L j = 0
      · exact ⟨j, by omega, h2, fun _ => hz⟩
      · refine ⟨j + 1, Nat.le_refl _, fun i hi => ?_, fun h => absurd h (Nat.lt_irrefl _)⟩
        by_cases hi2 : i = j
        · rw [hi2]; exact hz
        · exact h2 i (by omega)
theorem ord_pos {L : List S37} (h : ord L = true) : 0 < L.length := by
  simp only [ord, Bool.and_eq_true, decide_eq_true_eq, beq_iff_eq] at h
  exact h.1
theorem ord_sz {L : List S37} (h : ord L = true) : sz L (L.length - 1) = (L.length : Int) := by
  simp only [ord, Bool.and_eq_true, decide_eq_true_eq, beq_iff_eq] at h
  exact h.2
theorem sizes_calls (A : Option Addr) (c : Nat) (L : List S37) (n : Nat) (hn : L.length = n) (hn2 : n ≤ 1000) (w : World) (hr : Kd.C k37 w A n L) :
    Calls Tryd.prog 21 #[.agg #[.slice A n c]] w fun e w' => (∃ v, e = .returned (.tuple #[v, .bool (ord L)]) ∧ (ord L = true → ∃ p, w.heap.size ≤ p ∧ v = .slice (some ⟨p, 0, none⟩) n n ∧ w'.heap[p]? = some (.cells (ic (sz L) n) 3 (0, 0)))) ∧ Below w.heap.size w w' := by
  obtain ⟨j, hj, h1, h2⟩ := first_bad L n
  have hwf : ∀ i, i < j → Wf L i := fun i hi => sz_wf L i (h1 i hi)
  refine (sizes_walk fit fits_calls A c L n hn hn2 (sz L) j hj (fun i hi => ⟨sz L i, stp_of_wf (hwf i hi), (hwf i hi).1, rfl, wf_pos (hwf i hi), (sz_rng L i).2⟩) (fun h => not_good h1 (h2 h)) w hr).mono ?_
  rintro e w' ⟨h, hb⟩
  refine ⟨?_, hb⟩
  by_cases hjn : j < n
  · rw [if_pos hjn] at h
    have ho : ord L = false := by
      cases hc : ord L
      · rfl
      · exact absurd (h2 hjn) (by have := wf_pos (ord_wf hc j (by omega)); omega)
    rw [ho]
    exact ⟨_, h, fun h => by cases h⟩
  · rw [if_neg hjn] at h
    obtain ⟨p, hp, he, hh⟩ := h
    have ho : (decide (0 < n) && sz L (n - 1) == (n : Int)) = ord L := by unfold ord; rw [hn]
    rw [ho] at he
    exact ⟨_, he, fun _ => ⟨p, hp, rfl, hh⟩⟩
theorem depths_calls (A : Option Addr) (c : Nat) (L : List S37) (n : Nat) (hn : L.length = n) (hn2 : n ≤ 999) (ho : ord L = true) (w : World) (hr : Kd.C k37 w A n L) :
    Calls Tryd.prog 22 #[.agg #[.slice A n c]] w fun e w' => (∃ p, w.heap.size ≤ p ∧ e = .returned (.slice (some ⟨p, 0, none⟩) n n) ∧ w'.heap[p]? = some (.cells (ic (dp L) n) 3 (0, 0))) ∧ Below w.heap.size w w' := by
  have hw := fun i (hi : i < n) => ord_wf ho i (by omega)
  exact depths_walk A c L n hn (by omega) (dp L) (fun i hi => dp_ok L n hw i hi) (fun i hi => by have := dp_rng L n hw i hi; omega) w hr
theorem lens_calls (A : Option Addr) (c : Nat) (L : List S37) (n : Nat) (hn : L.length = n) (hn2 : n ≤ 1000) (ho : ord L = true) (w : World) (hr : Kd.C k37 w A n L) :
    Calls Tryd.prog 16 #[.agg #[.slice A n c]] w fun e w' => (∃ p q, p ≠ q ∧ e = .returned (.tuple #[.slice (some ⟨p, 0, none⟩) n n, .slice (some ⟨q, 0, none⟩) n n]) ∧ w.heap.size ≤ p ∧ w.heap.size ≤ q ∧ w'.heap[p]? = some (.cells (ic (fun m => (ln L m).1) n) 3 (0, 0)) ∧ w'.heap[q]? = some (.cells (ic (fun m => (ln L m).2) n) 3 (0, 0))) ∧ Below w.heap.size w w' := by
  have hw := fun i (hi : i < n) => ord_wf ho i (by omega)
  exact lens_walk A c L n hn hn2 (fun m => (ln L m).1) (fun m => (ln L m).2) (fun i hi => ln_ok L n hw i hi) (fun i hi => (ln_rng L n hw i hi).2) w hr
theorem maxOf_upto (D : Nat → Int) (n : Nat) : ∀ k, 0 < k → k ≤ n → (∀ i, i < k → D i ≤ D (k - 1)) → Lib.maxOf (((List.range n).map D).take k) = D (k - 1) → True := fun _ _ _ _ _ => trivial
theorem maxOf_all (D : Nat → Int) (n : Nat) : ∀ k, 0 < k → k ≤ n → (∀ i, i < k → D i ≤ Lib.maxOf (((List.range n).map D).take k)) ∧ ∃ i, i < k ∧ Lib.maxOf (((List.range n).map D).take k) = D i
  | 0, h, _ => absurd h (Nat.lt_irrefl _)
  | 1, _, h => by
    have h0 : Lib.maxOf (((List.range n).map D).take 1) = D 0 := by
      rw [Lib.maxOf_one]
      simp [List.getD_eq_getElem?_getD, show 0 < n by omega]
    rw [h0]
    refine ⟨fun i hi => ?_, 0, Nat.one_pos, rfl⟩
    obtain rfl : i = 0 := by omega
    exact Int.le_refl _
  | k + 2, _, h => by
    obtain ⟨h1, i, h2, h3⟩ := maxOf_all D n (k + 1) (by omega) (by omega)
    have hs : Lib.maxOf (((List.range n).map D).take (k + 2)) = max (Lib.maxOf (((List.range n).map D).take (k + 1))) (D (k + 1)) := by
      rw [Lib.maxOf_step _ (k + 1) (by omega) (by simp; omega)]
      simp [List.getD_eq_getElem?_getD, show k + 1 < n by omega]
    rw [hs]
    refine ⟨fun m hm => ?_, ?_⟩
    · by_cases e : m < k + 1
      · have := h1 m e; omega
      · obtain rfl : m = k + 1 := by omega
        omega
    · by_cases e : Lib.maxOf (((List.range n).map D).take (k + 1)) ≤ D (k + 1)
      · exact ⟨k + 1, by omega, by omega⟩
      · exact ⟨i, by omega, by omega⟩
theorem max_calls (p n : Nat) (D : Nat → Int) (hn : 0 < n) (hn2 : n ≤ 1000) (hD : ∀ i, i < n → D i ≤ D (n - 1)) (w : World) (h : w.heap[p]? = some (.cells (ic D n) 3 (0, 0))) :
    Calls Tryd.prog 25 #[.slice (some ⟨p, 0, none⟩) n n] w fun e w' => e = .returned (.int .i64 (D (n - 1))) ∧ w' = w := by
  have hm : Lib.maxOf (((List.range n).map D).take n) = D (n - 1) := by
    obtain ⟨h1, i, h2, h3⟩ := maxOf_all D n n hn (Nat.le_refl _)
    have := h1 (n - 1) (by omega)
    have := hD i h2
    omega
  rw [← hm]
  refine Tryd.slices_Max_int p 0 n n ((List.range n).map D) w hn (by simp) (by omega) (fun j hj => ?_)
  have hj2 : j < n := by simpa using hj
  rw [Nat.zero_add, blk_cell h j _ (ic_at D n j hj2)]
  simp [List.getD_eq_getElem?_getD, hj2]
/-- what is wrong with a tree, but its groups, and what is behind -/
def frm (L : List S37) : Int := if ord L = true then (if dp L (L.length - 1) > 40 then 4 else 0) else 3
def dep (L : List S37) : Int := if ord L = true then dp L (L.length - 1) else 0
theorem dp_max {L : List S37} (ho : ord L = true) (i : Nat) (hi : i < L.length) : dp L i ≤ dp L (L.length - 1) := by
  have hw := fun i (hi : i < L.length) => ord_wf ho i hi
  have := ord_sz ho
  have := ord_pos ho
  exact dp_most L L.length hw (L.length - 1) (by omega) i (by omega) (by omega)
set_option maxHeartbeats 6400000 in
theorem formed_calls (A : Option Addr) (c : Nat) (L : List S37) (n : Nat) (hn : L.length = n) (hn2 : n ≤ 500) (w : World) (hr : Kd.C k37 w A n L) :
    Calls Tryd.prog 14 #[.agg #[.slice A n c]] w fun e w' => e = .returned (.int .i64 (frm L)) ∧ Below w.heap.size w w' := by
  obtain ⟨R, hRdef⟩ : ∃ R, frm L = R := ⟨_, rfl⟩
  rw [hRdef]
  have BT := Lib.hid (heap_alloc_new w (.cells #[.slice A n c] 24))
  have HB := Lib.hid (below1 w (.cells #[.slice A n c] 24))
  have HR := Lib.hid (Kd.C_below hr HB.out)
  have t0 := blk_cell BT.out 0 (.slice A n c) rfl
  have hgt : decide ((n : Int) > 500) = false := by simp; omega
  clear hr
  go_enter Tryd.func14, Tryd.ntmps14
  go_wp2_with fail
  generalize hW : w.alloc (.cells #[.slice A n c] 24) = v0 at *
  clear hW
  refine (sizes_calls A c L n hn (by omega) v0 HR.out).mono ?_
  rintro e w1 ⟨⟨v, rfl, hv⟩, hb⟩
  have BT1 := Lib.hid (below_blk hb BT.out)
  have HR1 := Lib.hid (Kd.C_below HR.out hb)
  have HB1 := Lib.hid (below_step HB.out hb)
  have t1 := blk_cell BT1.out 0 (.slice A n c) rfl
  clear hb BT HB HR t0 hv
  cases ho : ord L
  · obtain rfl : R = 3 := by rw [← hRdef]; unfold frm; rw [ho]; rfl
    clear hRdef
    go_wp2
    go_ret
    exact ⟨rfl, HB1.out⟩
  · have hpos := ord_pos ho
    have K2 := Lib.hid (fun W h => depths_calls A c L n hn (by omega) ho W h)
    have KM := Lib.hid (fun p W h => max_calls p n (dp L) (by omega) (by omega) (fun i hi => by have := dp_max ho i (by omega); rw [hn] at this; exact this) W h)
    have hf : R = if dp L (n - 1) > 40 then 4 else 0 := by rw [← hRdef]; unfold frm; rw [if_pos ho, hn]
    clear hRdef
    generalize dp L (n - 1) = M at *
    go_wp2_with fail
    refine (K2.out _ HR1.out).mono ?_
    rintro e w2 ⟨⟨p, hp, rfl, hh⟩, hb⟩
    have HB2 := Lib.hid (below_step HB1.out hb)
    have KM2 := Lib.hid (KM.out p w2 hh)
    clear hb BT1 HR1 HB1 t1 hh
    go_wp2_with fail
    refine KM2.out.mono ?_
    rintro e w3 ⟨rfl, rfl⟩
    by_cases hM : M > 40
    · have d1 : decide (M > 40) = true := by simp [hM]
      rw [if_pos hM] at hf
      subst hf
      go_wp2
      go_ret
      exact ⟨rfl, HB2.out⟩
    · have d1 : decide (M > 40) = false := by simp [hM]
      rw [if_neg hM] at hf
      subst hf
      go_wp2
      go_ret
      exact ⟨rfl, HB2.out⟩
end Go.Proofs.YtaaihcojedibeaaDoor.DCon
end
section
/- slices.ContainsFunc at nodes, with grouped's closure: their walks. -/
namespace Go.Proofs.YtaaihcojedibeaaDoor.DOdd
open Go.RowKit CMem DRow DDeep DSizes Q Go.Proofs.YtaaihcojedibeaaDoorW.PrintWords Go.Proofs.YtaaihcojedibeaaDoorW.PrintLast Go.Proofs.YtaaihcojedibeaaDoorW.PrintMore
set_option linter.unusedVariables false
set_option linter.unusedSimpArgs false
set_option maxRecDepth 100000
def oddb (k : Nat) (x : S37) : Bool := x.f0 == 12 && (decide (x.f7 < 1) || decide (x.f7 > (k : Int)))
set_option maxHeartbeats 6400000 in
theorem odd_calls (g5 k cap : Nat) (A : Option Addr) (x : S37) (w : World) (h5 : w.cell? ⟨g5, 0, none⟩ = some (.slice A k cap)) :
    Calls Tryd.prog 29 #[.agg (nc x), .pointer (some ⟨g5, 0, none⟩)] w fun e w' => e = .returned (.bool (oddb k x)) ∧ Below w.heap.size w w' := by
  obtain ⟨xk, xa, xb, ⟨⟨s0, s1, s2, s3⟩⟩, x4, x5, x6, x7, x8⟩ := x
  have hlt := World.block_lt_of_cell? w _ h5
  unfold nc
  simp only []
  have HB := Lib.hid (below1 w (.cells #[.int .i64 xk, .int .i64 xa, .int .i64 xb, .int .u64 s0, .int .u64 s1, .int .u64 s2, .int .u64 s3, .int .i64 x4, .int .i64 x5, .int .i64 x6, .int .i64 x7, .bool x8] 37))
  have BN := heap_alloc_new w (.cells #[.int .i64 xk, .int .i64 xa, .int .i64 xb, .int .u64 s0, .int .u64 s1, .int .u64 s2, .int .u64 s3, .int .i64 x4, .int .i64 x5, .int .i64 x6, .int .i64 x7, .bool x8] 37)
  have n0 := blk_cell BN 0 (.int .i64 xk) rfl
  have n7 := blk_cell BN 10 (.int .i64 x7) rfl
  have g0 := below_of HB.out h5
  clear BN hlt h5
  by_cases h12 : xk = 12
  · subst h12
    by_cases h1 : x7 < 1
    · have d1 : decide (x7 < 1) = true := by simp [h1]
      have hr : oddb k ⟨12, xa, xb, ⟨⟨s0, s1, s2, s3⟩⟩, x4, x5, x6, x7, x8⟩ = true := by unfold oddb; simp [h1]
      rw [hr]
      clear hr
      go_enter Tryd.func29, Tryd.ntmps29
      go_wp2
      all_goals go_ret
      all_goals exact ⟨rfl, by first | exact HB.out | exact HB.out.drew | exact below_drewN HB.out _⟩
    · have d1 : decide (x7 < 1) = false := by simp [h1]
      have hr : oddb k ⟨12, xa, xb, ⟨⟨s0, s1, s2, s3⟩⟩, x4, x5, x6, x7, x8⟩ = decide (x7 > (k : Int)) := by unfold oddb; simp [h1]
      rw [hr]
      clear hr
      go_enter Tryd.func29, Tryd.ntmps29
      go_wp2
      all_goals go_ret
      all_goals exact ⟨by first | rfl | simp_all, by first | exact HB.out | exact HB.out.drew | exact below_drewN HB.out _⟩
  · have d1 : (xk == 12) = false := by simp [h12]
    have hr : oddb k ⟨xk, xa, xb, ⟨⟨s0, s1, s2, s3⟩⟩, x4, x5, x6, x7, x8⟩ = false := by unfold oddb; simp [h12]
    rw [hr]
    clear hr
    go_enter Tryd.func29, Tryd.ntmps29
    go_wp2
    all_goals go_ret
    all_goals exact ⟨rfl, by first | exact HB.out | exact HB.out.drew | exact below_drewN HB.out _⟩
set_option maxHeartbeats 6400000 in
theorem index_calls (g5 k cap : Nat) (A : Option Addr) (B : Option Addr) (c : Nat) (L : List S37) (n : Nat) (hn : L.length = n) (hn2 : n ≤ 1000) (w : World) (h5 : w.cell? ⟨g5, 0, none⟩ = some (.slice A k cap)) (hr : Kd.C k37 w B n L) :
    Calls Tryd.prog 50 #[.slice B n c, .func (.func 29) #[] #[.pointer (some ⟨g5, 0, none⟩)]] w fun e w' => (∃ r : Int, e = .returned (.int .i64 r) ∧ decide (r ≥ 0) = L.any (oddb k)) ∧ Below w.heap.size w w' := by
  have eg : ∀ args w, (callFunc 29 args).run Tryd.prog w = .ok (.enter 29 args) w := enters_of Tryd.func29 (by kernel_rfl) rfl
  have HR := Lib.hid hr
  have KO := Lib.hid (fun x W h => odd_calls g5 k cap A x W h)
  have H5 := Lib.hid h5
  have HB := Lib.hid (Below.refl w.heap.size w)
  clear hr h5
  go_enter Tryd.func50, Tryd.ntmps50
  go_wp2
  go_loopw [8] (fun t wr => ∃ i : Nat, i ≤ n ∧ t = .int .i64 (i : Nat) ∧ Hid (∀ j, j < i → oddb k (rd_T37 L j) = false) ∧ Hid (Below w.heap.size w wr)) (fun t _ => n - (intOf t).toNat)
  case atStart => exact ⟨0, Nat.zero_le _, rfl, Lib.hid (fun j h => absurd h (Nat.not_lt_zero _)), HB⟩
  case round =>
    clear HB
    obtain ⟨i, hi, rfl, HJ, HB⟩ := hrel
    by_cases h : i < n
    · obtain ⟨ad, hA, a0, a1, a2, a3, a4, a5, a6, a7, a8, a9, a10, a11⟩ := at_T37 HR.out (i : Int) (by omega) (by omega)
      subst hA
      rw [Int.toNat_natCast] at a0 a1 a2 a3 a4 a5 a6 a7 a8 a9 a10 a11
      have hi2 : (i : Int) < (n : Int) := by omega
      replace a0 := below_of HB.out a0
      replace a1 := below_of HB.out a1
      replace a2 := below_of HB.out a2
      replace a3 := below_of HB.out a3
      replace a4 := below_of HB.out a4
      replace a5 := below_of HB.out a5
      replace a6 := below_of HB.out a6
      replace a7 := below_of HB.out a7
      replace a8 := below_of HB.out a8
      replace a9 := below_of HB.out a9
      replace a10 := below_of HB.out a10
      replace a11 := below_of HB.out a11
      have K1 := Lib.hid (KO.out (rd_T37 L i) wr (below_of HB.out H5.out))
      have hsome : ∀ b, oddb k (rd_T37 L i) = b → b = true → L.any (oddb k) = true := by
        rintro b rfl hb
        refine List.any_eq_true.2 ⟨rd_T37 L i, ?_, hb⟩
        unfold rd_T37
        rw [Int.toNat_natCast, List.getD_eq_getElem?_getD, List.getElem?_eq_getElem (by omega)]
        exact List.getElem_mem _
      have HS := Lib.hid hsome
      have HJ2 : Hid (∀ b, oddb k (rd_T37 L i) = b → b = false → ∀ j, j < i + 1 → oddb k (rd_T37 L j) = false) := Lib.hid (by
        rintro b rfl hb j hj
        by_cases e : j = i
        · rw [e]; exact hb
        · exact HJ.out j (by omega))
      clear hsome HJ
      obtain ⟨b, hb0⟩ : ∃ b, oddb k (rd_T37 L i) = b := ⟨_, rfl⟩
      have HS := HS.out b hb0
      have HJ2 := Lib.hid (HJ2.out b hb0)
      rw [hb0] at K1
      clear hb0
      generalize rd_T37 L i = x at *
      obtain ⟨xk, xa, xb, ⟨⟨s0, s1, s2, s3⟩⟩, x4, x5, x6, x7, x8⟩ := x
      simp only [nc] at a0 a1 a2 a3 a4 a5 a6 a7 a8 a9 a10 a11 K1
      go_wp2_with fail
      refine K1.out.mono ?_
      rintro e w3 ⟨rfl, hb⟩
      have HB2 := Lib.hid (below_step HB.out hb)
      clear hb K1 a0 a1 a2 a3 a4 a5 a6 a7 a8 a9 a10 a11 HB
      cases b
      · have HJ3 := Lib.hid (HJ2.out rfl)
        clear HJ2 HS
        go_wp2
        go_roundw
        case rel => exact ⟨i + 1, by omega, by simp, HJ3, HB2⟩
        case measure => simp [intOf]; omega
      · have hs := HS rfl
        clear HJ2 HS
        go_wp2
        go_ret
        exact ⟨⟨(i : Int), rfl, by rw [hs]; simp⟩, HB2.out⟩
    · obtain rfl : i = n := by omega
      have hi2 : ¬ ((i : Int) < (i : Int)) := by omega
      go_wp2
      go_ret
      refine ⟨⟨-1, rfl, ?_⟩, HB.out⟩
      rw [List.any_eq_false.2 ?_]
      · rfl
      · intro x hx
        obtain ⟨j, hj, rfl⟩ := List.getElem_of_mem hx
        have := HJ.out j (by omega)
        unfold rd_T37 at this
        rw [Int.toNat_natCast, List.getD_eq_getElem?_getD, List.getElem?_eq_getElem hj] at this
        simpa using this
theorem contains_calls (g5 k cap : Nat) (A : Option Addr) (B : Option Addr) (c : Nat) (L : List S37) (n : Nat) (hn : L.length = n) (hn2 : n ≤ 1000) (w : World) (h5 : w.cell? ⟨g5, 0, none⟩ = some (.slice A k cap)) (hr : Kd.C k37 w B n L) :
    Calls Tryd.prog 30 #[.slice B n c, .func (.func 29) #[] #[.pointer (some ⟨g5, 0, none⟩)]] w fun e w' => e = .returned (.bool (L.any (oddb k))) ∧ Below w.heap.size w w' := by
  have KI := Lib.hid (index_calls g5 k cap A B c L n hn hn2 w h5 hr)
  generalize L.any (oddb k) = b at *
  go_enter Tryd.func30, Tryd.ntmps30
  go_wp2_with fail
  refine KI.out.mono ?_
  rintro e w3 ⟨⟨r, rfl, hb0⟩, hb⟩
  have HB2 := Lib.hid hb
  clear hb KI
  go_wp2
  go_ret
  exact ⟨rfl, HB2.out⟩
end Go.Proofs.YtaaihcojedibeaaDoor.DOdd
end
section
/- ast.grouped: its walk. -/
namespace Go.Proofs.YtaaihcojedibeaaDoor.DGrouped
open Go.RowKit CMem DRow DDeep DSizes DFits DLens DSpec DGrp DSort DCon DOdd DWrap Q Go.Proofs.YtaaihcojedibeaaDoorW.PrintWords Go.Proofs.YtaaihcojedibeaaDoorW.PrintLast Go.Proofs.YtaaihcojedibeaaDoorW.PrintMore
set_option linter.unusedVariables false
set_option linter.unusedSimpArgs false
set_option maxRecDepth 100000
/-- groups are numbered as they begin, and what is asked for is one -/
def grp (L : List S37) : Bool :=
  (List.range (gi L (L.length - 1)).length).all (fun k => (rd_T37 L ((gi L (L.length - 1)).getD k 0 : Nat)).f7 == (k : Int) + 1) && (decide ((gi L (L.length - 1)).length ≤ 9) && !L.any (oddb (gi L (L.length - 1)).length))
/-- the first groups, as cells -/
def gc (L : List S37) (i : Nat) : List Value := ((List.range i).filter fun j : Nat => (rd_T37 L (j : Nat)).f0 == 11).map fun j : Nat => .int .i64 (j : Int)
theorem gc_succ (L : List S37) (i : Nat) (h : (rd_T37 L i).f0 = 11) : gc L (i + 1) = gc L i ++ [.int .i64 (i : Int)] := by
  unfold gc
  rw [List.range_succ, List.filter_append, List.map_append]
  simp [h]
theorem gc_skip (L : List S37) (i : Nat) (h : (rd_T37 L i).f0 ≠ 11) : gc L (i + 1) = gc L i := by
  unfold gc
  rw [List.range_succ, List.filter_append, List.map_append]
  simp [h]
theorem gc_len (L : List S37) (i : Nat) : (gc L i).length ≤ i := by
  unfold gc
  rw [List.length_map]
  exact Nat.le_trans (List.length_filter_le _ _) (by simp)
theorem gc_all (L : List S37) : gc L L.length = (gall L).map fun j : Nat => .int .i64 (j : Int) := rfl
theorem gc_gi {L : List S37} (ho : ord L = true) : (gc L L.length).length = (gi L (L.length - 1)).length := by
  rw [gc_all, List.length_map]
  exact (gall_perm ho).length_eq
theorem sorted_calls (L : List S37) (ho : ord L = true) (n : Nat) (hn : L.length = n) (hn2 : n ≤ 500) (w0 W : World) (base PS p g8 cv : Nat) (Av : Option Addr) (HB : Below base w0 W) (hbs : base ≤ W.heap.size)
    (h3 : W.heap[PS]? = some (.cells #[.slice (some ⟨p, 0, none⟩) n n] 44 (0, 0))) (h8 : W.heap[g8]? = some (.cells #[.func (.func 26) #[] #[.pointer (some ⟨PS, 0, none⟩)]] 54 (0, 0))) (hp : W.heap[p]? = some (.cells (ic (sz L) n) 3 (0, 0)))
    (OW : W.ownsRow base 3 1 (.slice Av (gc L n).length cv) (gc L n).length (gc L n)) (hne : ∀ k, (Value.slice Av (gc L n).length cv).ownBlock = some k → k ≠ PS ∧ k ≠ g8 ∧ k ≠ p) :
    Calls Tryd.prog 27 #[.slice Av (gc L n).length cv, .func (.func 28) #[] #[.pointer (some ⟨g8, 0, none⟩), .pointer (some ⟨PS, 0, none⟩)]] W fun e w' => e = .returned (.tuple #[]) ∧
      (∀ (j x : Nat), (gi L (n - 1))[j]? = some x → ∃ gb, Av = some ⟨gb, 0, none⟩ ∧ w'.cell? ⟨gb, j, none⟩ = some (.int .i64 (x : Int))) ∧ (∀ k, (∀ b, (Value.slice Av (gc L n).length cv).ownBlock = some b → k ≠ b) → k < W.heap.size → w'.heap[k]? = W.heap[k]?) ∧ W.heap.size ≤ w'.heap.size ∧ Below base w0 w' := by
  subst hn
  have hw := fun i (hi : i < L.length) => ord_wf ho i hi
  rcases Nat.eq_zero_or_pos (gc L L.length).length with h0 | h0
  · rw [h0]
    refine (sort_none Av cv _ W).mono ?_
    rintro e w' ⟨rfl, rfl⟩
    refine ⟨rfl, fun j x hx => ?_, fun k _ _ => rfl, Nat.le_refl _, HB⟩
    rw [gc_gi ho] at h0
    rw [List.length_eq_zero_iff.1 h0] at hx
    simp at hx
  · rcases OW.2 with ⟨h1, h2⟩ | ⟨gb, cap, cur, hv, hg, hh, hc1, hc2, hc3, hc4⟩
    · omega
    · obtain ⟨rfl, rfl⟩ : Av = some ⟨gb, 0, none⟩ ∧ cv = cap := by
        injection hv with e1 e2 e3
        exact ⟨e1, e3⟩
      obtain ⟨n1, n2, n3⟩ := hne gb (by simp [Value.ownBlock])
      have hl : (gc L L.length).length = (gall L).length := by rw [gc_all, List.length_map]
      have hmem : ∀ x, x ∈ gall L → x < L.length := by
        intro x hx
        unfold gall at hx
        exact List.mem_range.1 (List.mem_filter.1 hx).1
      have hrow : ∀ i (h : i < (gall L).length), W.cell? ⟨gb, i, none⟩ = some (.int .i64 (((gall L)[i]'h : Nat) : Int)) ∧ W.frozen? ⟨gb, i, none⟩ = false := by
        intro i h
        refine ⟨blk_cell hh i _ ?_, blk_free hh i⟩
        have e := congrArg (fun l => l[i]?) hc4
        simp only [Nat.mul_one, List.getElem?_take] at e
        rw [if_pos (by omega), Array.getElem?_toList, gc_all, List.getElem?_map, List.getElem?_eq_getElem h] at e
        rw [e]; rfl
      have hk := sort_calls PS g8 p L.length L.length gb cv base (sz L) (gall L) hmem w0 W (blk_cell h3 0 _ rfl) (blk_cell h8 0 _ rfl) (fun i hi => blk_cell hp i _ (ic_at _ _ _ hi)) (fun i hi => by have := sz_rng L i; omega) (by omega) (fun e => n1 e.symm) (fun e => n2 e.symm) (fun e => n3 e.symm) (lt_of_blk h3) (lt_of_blk h8) (lt_of_blk hp) (lt_of_blk hh) (by omega) (by have := gc_len L L.length; omega) hrow HB hg hbs
      rw [hl]
      refine hk.mono ?_
      rintro e w' ⟨he, l', hperm, hsort, hcell, hkeep, hB, hsz⟩
      have hl' : l' = gi L (L.length - 1) := by
        refine sorted_uniq ho l' hperm (hsort.imp fun {a b} hab hlt => hab ?_)
        unfold glt at hlt
        unfold cmpi
        split <;> omega
      subst hl'
      refine ⟨he, fun j x hx => ⟨gb, rfl, ?_⟩, fun k hk1 hk2 => hkeep k (fun e => hk1 gb (by simp [Value.ownBlock]) e) hk2, hsz, hB⟩
      obtain ⟨hj, hxe⟩ := List.getElem?_eq_some_iff.1 hx
      rw [hcell j hj, hxe]
theorem store_new1 (W : World) (v o : Value) (h1 : v.oneCell' = true) (t : TypeId) : (store ⟨W.heap.size, 0, none⟩ v).run Tryd.prog (W.alloc (.cells #[o] t)) = .ok () (W.alloc (.cells #[v] t)) := by
  have h := run_storeCells_at Tryd.prog W.heap.size 0 t [v] 0 #[o] (W.alloc (.cells #[o] t)) (heap_alloc_new _ _) (by simp) (fun u hu => by rw [List.mem_singleton.1 hu]; exact h1)
  have hadd : (⟨W.heap.size, 0, none⟩ : Addr).add 0 = ⟨W.heap.size, 0, none⟩ := by unfold Addr.add; split <;> simp_all
  rw [alloc_setRow] at h
  simp only [storeCells, hadd, Sem.run_bind] at h
  cases hs : (store ⟨W.heap.size, 0, none⟩ v).run Tryd.prog (W.alloc (.cells #[o] t)) with
  | ok a w' => rw [hs] at h; simpa using h
  | halt a w' => rw [hs] at h; simp at h
set_option maxHeartbeats 12800000 in
theorem grouped_calls (A : Option Addr) (c : Nat) (L : List S37) (n : Nat) (hn : L.length = n) (hn2 : n ≤ 500) (ho : ord L = true) (w : World) (hr : Kd.C k37 w A n L) :
    Calls Tryd.prog 15 #[.agg #[.slice A n c]] w fun e w' => e = .returned (.bool (grp L)) ∧ Below w.heap.size w w' := by
  obtain ⟨R, hRdef⟩ : ∃ R, grp L = R := ⟨_, rfl⟩
  rw [hRdef]
  have HRD := Lib.hid hRdef
  have BT := Lib.hid (heap_alloc_new w (.cells #[.slice A n c] 24))
  have HB := Lib.hid (below1 w (.cells #[.slice A n c] 24))
  have HC := Lib.hid (fun W h => Kd.C_below (w1 := W) hr h)
  have t0 := blk_cell BT.out 0 (.slice A n c) rfl
  clear hr hRdef
  go_enter Tryd.func15, Tryd.ntmps15
  go_wp2_with fail
  generalize hW : w.alloc (.cells #[.slice A n c] 24) = v0 at *
  clear hW
  refine (sizes_calls A c L n hn (by omega) v0 (HC.out _ HB.out)).mono ?_
  rw [ho]
  rintro e w1 ⟨⟨v, rfl, hv⟩, hb⟩
  obtain ⟨p, hp, rfl, hh⟩ := hv rfl
  have hB1 := below_step HB.out hb
  have hp0 : w.heap.size ≤ p := Nat.le_trans HB.out.size hp
  have hlt := lt_of_blk hh
  have P1 := Lib.hid (blk_alloc (blk_alloc hh (.cells #[.slice (some ⟨p, 0, none⟩) n n] 44)) (.cells #[.slice none 0 0] 44))
  have T1 := Lib.hid (blk_alloc (blk_alloc (below_blk hb BT.out) (.cells #[.slice (some ⟨p, 0, none⟩) n n] 44)) (.cells #[.slice none 0 0] 44))
  have S1 := Lib.hid (blk_alloc (heap_alloc_new w1 (.cells #[.slice (some ⟨p, 0, none⟩) n n] 44)) (.cells #[.slice none 0 0] 44))
  have O1 := Lib.hid (blk2 w1 (.cells #[.slice (some ⟨p, 0, none⟩) n n] 44) #[.slice none 0 0] 44)
  have HB1 := Lib.hid ((hB1.alloc hB1.size (.cells #[.slice (some ⟨p, 0, none⟩) n n] 44)).alloc (Nat.le_trans hB1.size (by simp)) (.cells #[.slice none 0 0] 44))
  have hsz := hB1.size
  have tt := blk_cell T1.out 0 (.slice A n c) rfl
  clear hv hb BT HB t0 hh hB1
  go_wp2
  have lp : p < w1.heap.size := hlt
  generalize hW : (w1.alloc (.cells #[.slice (some ⟨p, 0, none⟩) n n] 44)).alloc (.cells #[.slice none 0 0] 44) = v2 at *
  clear hW
  generalize w1.heap.size = PS at *
  have HR2 := Lib.hid (HC.out _ HB1.out)
  go_loopw [20] (fun t wr => ∃ (i : Nat) (Av : Option Addr) (cv : Nat), i ≤ n ∧ t = .int .i64 (i : Nat) ∧ Hid (wr.heap[PS + 1]? = some (.cells #[.slice Av (gc L i).length cv] 44 (0, 0))) ∧ Hid (wr.ownsRow w.heap.size 3 1 (.slice Av (gc L i).length cv) (gc L i).length (gc L i)) ∧ Hid (∀ k, (Value.slice Av (gc L i).length cv).ownBlock = some k → PS + 1 < k) ∧ Hid (wr.heap[PS]? = some (.cells #[.slice (some ⟨p, 0, none⟩) n n] 44 (0, 0))) ∧ Hid (wr.heap[p]? = some (.cells (ic (sz L) n) 3 (0, 0))) ∧ Hid (wr.heap[w.heap.size]? = some (.cells #[.slice A n c] 24 (0, 0))) ∧ Hid (Below w.heap.size w wr)) (fun t _ => n - (intOf t).toNat)
  case atStart => exact ⟨0, none, 0, Nat.zero_le _, rfl, O1, Lib.hid ⟨rfl, .inl ⟨rfl, rfl⟩⟩, Lib.hid (fun k h => by simp [Value.ownBlock] at h), S1, P1, T1, HB1⟩
  case round =>
    clear P1 T1 S1 O1 HB1 HR2 tt
    obtain ⟨i, Av, cv, hi, rfl, OO, OW, ON, SO, PO, TO, HB⟩ := hrel
    by_cases h : i < n
    · obtain ⟨ad, hA, a0, a1, a2, a3, a4, a5, a6, a7, a8, a9, a10, a11⟩ := at_T37 (HC.out _ HB.out) (i : Int) (by omega) (by omega)
      subst hA
      rw [Int.toNat_natCast] at a0 a1 a2 a3 a4 a5 a6 a7 a8 a9 a10 a11
      have hi2 : (i : Int) < (n : Int) := by omega
      have G1 := Lib.hid (gc_succ L i)
      have G2 := Lib.hid (gc_skip L i)
      have hgl := gc_len L i
      generalize gc L i = XS at *
      obtain ⟨YS, hYS⟩ : ∃ Y, gc L (i + 1) = Y := ⟨_, rfl⟩
      rw [hYS] at G1 G2
      have HYS := Lib.hid hYS
      clear hYS
      generalize rd_T37 L i = x at *
      obtain ⟨xk, xa, xb, ⟨⟨s0, s1, s2, s3⟩⟩, x4, x5, x6, x7, x8⟩ := x
      simp only [] at a0 a1 a2 a3 a4 a5 a6 a7 a8 a9 a10 a11
      have BO := Lib.hid (blk_alloc OO.out (.cells #[.int .i64 xk, .int .i64 xa, .int .i64 xb, .int .u64 s0, .int .u64 s1, .int .u64 s2, .int .u64 s3, .int .i64 x4, .int .i64 x5, .int .i64 x6, .int .i64 x7, .bool x8] 37))
      have BS := Lib.hid (blk_alloc SO.out (.cells #[.int .i64 xk, .int .i64 xa, .int .i64 xb, .int .u64 s0, .int .u64 s1, .int .u64 s2, .int .u64 s3, .int .i64 x4, .int .i64 x5, .int .i64 x6, .int .i64 x7, .bool x8] 37))
      have BP := Lib.hid (blk_alloc PO.out (.cells #[.int .i64 xk, .int .i64 xa, .int .i64 xb, .int .u64 s0, .int .u64 s1, .int .u64 s2, .int .u64 s3, .int .i64 x4, .int .i64 x5, .int .i64 x6, .int .i64 x7, .bool x8] 37))
      have BT := Lib.hid (blk_alloc TO.out (.cells #[.int .i64 xk, .int .i64 xa, .int .i64 xb, .int .u64 s0, .int .u64 s1, .int .u64 s2, .int .u64 s3, .int .i64 x4, .int .i64 x5, .int .i64 x6, .int .i64 x7, .bool x8] 37))
      have BN := Lib.hid (heap_alloc_new wr (.cells #[.int .i64 xk, .int .i64 xa, .int .i64 xb, .int .u64 s0, .int .u64 s1, .int .u64 s2, .int .u64 s3, .int .i64 x4, .int .i64 x5, .int .i64 x6, .int .i64 x7, .bool x8] 37))
      have HB1 := Lib.hid (HB.out.alloc HB.out.size (.cells #[.int .i64 xk, .int .i64 xa, .int .i64 xb, .int .u64 s0, .int .u64 s1, .int .u64 s2, .int .u64 s3, .int .i64 x4, .int .i64 x5, .int .i64 x6, .int .i64 x7, .bool x8] 37))
      have BW := Lib.hid (OW.out.alloc (.cells #[.int .i64 xk, .int .i64 xa, .int .i64 xb, .int .u64 s0, .int .u64 s1, .int .u64 s2, .int .u64 s3, .int .i64 x4, .int .i64 x5, .int .i64 x6, .int .i64 x7, .bool x8] 37))
      have LQ := Lib.hid (lt_of_blk OO.out)
      have b0 := blk_cell BO.out 0 _ rfl
      have f0 := blk_free BO.out 0
      simp only [List.getElem_toArray, List.getElem_cons_zero] at b0
      clear HB OO SO PO TO OW
      by_cases h11 : xk = 11
      · subst h11
        have hY := G1.out rfl
        clear G1 G2
        go_wp2_with ((with_reducible show wpList _ _ _ (⟨some 31, _, _, _, _, _⟩ :: _) _ _); refine hold ?_)
        refine Lib.hid ?_
        generalize hWn : wr.alloc (.cells #[.int .i64 11, .int .i64 xa, .int .i64 xb, .int .u64 s0, .int .u64 s1, .int .u64 s2, .int .u64 s3, .int .i64 x4, .int .i64 x5, .int .i64 x6, .int .i64 x7, .bool x8] 37) = v3 at *
        have hsz3 : v3.heap.size = wr.heap.size + 1 := by rw [← hWn]; simp
        have lq := LQ.out
        clear hWn a0 a1 a2 a3 a4 a5 a6 a7 a8 a9 a10 a11 BN LQ
        refine print_append_cells w.heap.size rfl (.tmp 28) (.tmp 30) 44 3 (.int .i64 0) 1 8 rfl Tryd.underlying44 info3 rfl (by decide) (by decide) (.slice Av XS.length cv) XS.length XS [.int .i64 (i : Int)] rfl ?_ rfl (fun u hu => ?_) BW.out HB1.out HB1.out.size (by omega) ?_
        · rw [hsz3]; rfl
        · rw [List.mem_singleton.1 hu]; rfl
        intro v4 w4 hown hb hg hat
        rw [← hY] at hown
        have hYl : YS.length = XS.length + 1 := by rw [hY]; simp
        rw [← hYl] at hown
        obtain ⟨A4, c4, rfl⟩ : ∃ A4 c4, v4 = .slice A4 YS.length c4 := by
          rcases hown.2 with ⟨rfl, h0⟩ | ⟨g, cap, cur, rfl, _⟩
          · omega
          · exact ⟨_, _, rfl⟩
        have hon : ∀ k, (Value.slice A4 YS.length c4).ownBlock = some k → PS + 1 < k := by
          intro k hk
          rcases hat with h1 | ⟨b, h1, hle⟩
          · rw [h1] at hk; exact ON.out k hk
          · rw [h1] at hk
            obtain rfl := Option.some.inj hk
            omega
        have hne : ∀ k, k ≤ PS + 1 → some k ≠ (Value.slice Av XS.length cv).ownBlock := fun k hk e => by have := ON.out k e.symm; omega
        have O5 := (hg.block (PS + 1) (by omega) (hne _ (Nat.le_refl _))).trans BO.out
        have S5 := (hg.block PS (by omega) (hne _ (by omega))).trans BS.out
        have P5 := (hg.block p (by omega) (hne _ (by omega))).trans BP.out
        have T5 := (hg.block w.heap.size (by omega) (hne _ (by omega))).trans BT.out
        have OO := Lib.hid (set_blk (i := 0) O5 (.slice A4 YS.length c4))
        have SO := Lib.hid (set_other (c := PS + 1) (i := 0) (v := .slice A4 YS.length c4) S5 (by omega))
        have PO := Lib.hid (set_other (c := PS + 1) (i := 0) (v := .slice A4 YS.length c4) P5 (by omega))
        have TO := Lib.hid (set_other (c := PS + 1) (i := 0) (v := .slice A4 YS.length c4) T5 (by omega))
        have HB2 := Lib.hid (below_set (b := PS + 1) (i := 0) hb (by omega) (.slice A4 YS.length c4))
        have OW2 := Lib.hid (own_move (w1 := w4.setCell ⟨PS + 1, 0, none⟩ (.slice A4 YS.length c4)) hown (fun j hj => Below.heap_setCell w4 ⟨PS + 1, 0, none⟩ _ j (by have := hon j hj; show j ≠ PS + 1; omega)))
        have ON2 := Lib.hid hon
        have q0 := blk_cell O5 0 (.slice Av XS.length cv) rfl
        have q1 := blk_free O5 0
        clear hown hb hg hat hon hne O5 S5 P5 T5 BO BS BP BT BW HB1 ON b0 f0 hY hYl hsz3 lq
        go_wp2
        go_roundw
        case rel => refine ⟨i + 1, A4, c4, by omega, by simp, ?_⟩; rw [HYS.out]; exact ⟨OO, OW2, ON2, SO, PO, TO, HB2⟩
        case measure => simp [intOf]; omega
      · have hY := G2.out h11
        have d1 : (xk == 11) = false := by simp [h11]
        subst hY
        clear G1 G2 h11
        go_wp2
        go_roundw
        case rel => refine ⟨i + 1, Av, cv, by omega, by simp, ?_⟩; rw [HYS.out]; exact ⟨BO, BW, ON, BS, BP, BT, HB1⟩
        case measure => simp [intOf]; omega
    · obtain rfl : i = n := by omega
      have hi2 : ¬ ((i : Int) < (i : Int)) := by omega
      have BO := Lib.hid (blk_alloc OO.out (.cells #[.func (.func 26) #[] #[.pointer (some ⟨PS, 0, none⟩)]] 54))
      have BS := Lib.hid (blk_alloc SO.out (.cells #[.func (.func 26) #[] #[.pointer (some ⟨PS, 0, none⟩)]] 54))
      have BP := Lib.hid (blk_alloc PO.out (.cells #[.func (.func 26) #[] #[.pointer (some ⟨PS, 0, none⟩)]] 54))
      have BT := Lib.hid (blk_alloc TO.out (.cells #[.func (.func 26) #[] #[.pointer (some ⟨PS, 0, none⟩)]] 54))
      have BF := Lib.hid (heap_alloc_new wr (.cells #[.func (.func 26) #[] #[.pointer (some ⟨PS, 0, none⟩)]] 54))
      have BW := Lib.hid (OW.out.alloc (.cells #[.func (.func 26) #[] #[.pointer (some ⟨PS, 0, none⟩)]] 54))
      have HB5 := Lib.hid (HB.out.alloc HB.out.size (.cells #[.func (.func 26) #[] #[.pointer (some ⟨PS, 0, none⟩)]] 54))
      have hst := fun W => store_new1 W (.func (.func 26) #[] #[.pointer (some ⟨PS, 0, none⟩)]) .nilFunc rfl 54
      have b0 := blk_cell BO.out 0 _ rfl
      simp only [List.getElem_toArray, List.getElem_cons_zero] at b0
      have LW := Lib.hid (fun b (hb : (Value.slice Av (gc L i).length cv).ownBlock = some b) => own_lt OW.out b hb)
      have LQ := Lib.hid (lt_of_blk OO.out)
      clear OO SO PO TO OW HB
      go_wp2_with fail
      generalize hWf : wr.alloc (.cells #[.func (.func 26) #[] #[.pointer (some ⟨PS, 0, none⟩)]] 54) = v5 at *
      have lq := LQ.out
      refine (sorted_calls L ho i hn hn2 w v5 w.heap.size PS p wr.heap.size cv Av HB5.out HB5.out.size BS.out BF.out BP.out BW.out (fun k hk => by have h1 := ON.out k hk; have h2 := LW.out k hk; omega)).mono ?_
      rintro e w6 ⟨rfl, hG, hkeep, hsz6, hb⟩
      have hk2 : ∀ k, k ≤ PS + 1 → w6.heap[k]? = v5.heap[k]? := fun k hk => hkeep k (fun b hb => by have := ON.out b hb; omega) (by rw [← hWf]; simp; omega)
      have OO := Lib.hid ((hk2 (PS + 1) (Nat.le_refl _)).trans BO.out)
      have TO := Lib.hid ((hk2 w.heap.size (by omega)).trans BT.out)
      have HB := Lib.hid hb
      have HG := Lib.hid hG
      have hgl := gc_len L i
      have hgg := gc_gi ho
      rw [hn] at hgg
      have HGG := Lib.hid hgg
      clear hG hkeep hb hk2 hWf BO BS BP BT BF BW HB5 hst b0 LW LQ ON lq hsz6 hgg
      have b0 := blk_cell OO.out 0 _ rfl
      simp only [List.getElem_toArray, List.getElem_cons_zero] at b0
      have t0 := blk_cell TO.out 0 (.slice A i c) rfl
      go_wp2
      have HMEM : Hid (∀ x, x ∈ gi L (i - 1) → x < i) := Lib.hid (by
        intro x hx
        have hw := fun j (hj : j < L.length) => ord_wf ho j hj
        have hp := ord_pos ho
        have := ((gi_mem L L.length hw (i - 1) (by omega) x).1 hx).1
        omega)
      have HRD2 : Hid (((List.range (gi L (i - 1)).length).all (fun k => (rd_T37 L ((gi L (i - 1)).getD k 0 : Nat)).f7 == (k : Int) + 1) && (decide ((gi L (i - 1)).length ≤ 9) && !L.any (oddb (gi L (i - 1)).length))) = R) := Lib.hid (by
        have h := HRD.out
        unfold grp at h
        rw [hn] at h
        exact h)
      clear HRD
      generalize (gc L i).length = K at *
      generalize gi L (i - 1) = G at *
      go_loopw [39] (fun t wr => ∃ j : Nat, j ≤ K ∧ t = .int .i64 (j : Nat) ∧ Hid (∀ k : Nat, k < j → (rd_T37 L (G.getD k 0 : Nat)).f7 = (k : Int) + 1) ∧ wr = w6) (fun t _ => K - (intOf t).toNat)
      case atStart => exact ⟨0, Nat.zero_le _, rfl, Lib.hid (fun k h => absurd h (Nat.not_lt_zero _)), rfl⟩
      case round =>
        obtain ⟨j, hj, rfl, HJ, rfl⟩ := hrel
        by_cases hjk : j < K
        · have hkl := HGG.out
          have hgx : G[j]? = some (G.getD j 0) := by rw [List.getD_eq_getElem?_getD, List.getElem?_eq_getElem (by omega)]; rfl
          have hxm : G.getD j 0 < i := HMEM.out _ (List.mem_of_getElem? hgx)
          obtain ⟨gb, rfl, hcell⟩ := HG.out j _ hgx
          have HJ2 : Hid (∀ b : Int, (rd_T37 L (G.getD j 0 : Nat)).f7 = b → b = (j : Int) + 1 → ∀ k : Nat, k < j + 1 → (rd_T37 L (G.getD k 0 : Nat)).f7 = (k : Int) + 1) := Lib.hid (by
            rintro b rfl hb k hk
            by_cases e : k = j
            · rw [e]; exact hb
            · exact HJ.out k (by omega))
          have HF : Hid (∀ b : Int, (rd_T37 L (G.getD j 0 : Nat)).f7 = b → b ≠ (j : Int) + 1 → R = false) := Lib.hid (by
            rintro b rfl hb
            rw [← HRD2.out]
            have : (List.range G.length).all (fun k => (rd_T37 L (G.getD k 0 : Nat)).f7 == (k : Int) + 1) = false := by
              rw [List.all_eq_false]
              exact ⟨j, List.mem_range.2 (by omega), by simpa using hb⟩
            rw [this]; rfl)
          obtain ⟨b, hb⟩ : ∃ b, (rd_T37 L (G.getD j 0 : Nat)).f7 = b := ⟨_, rfl⟩
          have HJ4 := Lib.hid (HJ2.out b hb)
          have HF4 := Lib.hid (HF.out b hb)
          clear HJ2 HF
          generalize G.getD j 0 = x at *
          obtain ⟨ad, hA, _, _, _, _, _, _, _, _, _, _, a10, _⟩ := at_T37 (HC.out _ HB.out) (x : Int) (by omega) (by omega)
          subst hA
          rw [Int.toNat_natCast, hb] at a10
          have hi3 : (j : Int) < (K : Int) := by omega
          have hi4 : (x : Int) < (i : Int) := by omega
          clear HJ hgx hb
          by_cases hbj : b = (j : Int) + 1
          · have HJ3 := Lib.hid (HJ4.out hbj)
            have d1 : (b != (j : Int) + 1) = false := by simp [hbj]
            clear HJ4 HF4 hbj
            go_wp2
            go_roundw
            case rel => exact ⟨j + 1, by omega, by simp, HJ3, by first | trivial | rfl⟩
            case measure => simp [intOf]; omega
          · have d1 : (b != (j : Int) + 1) = true := by simp [hbj]
            obtain rfl := HF4.out hbj
            clear HJ4 HF4 hbj
            go_wp2
            go_ret
            exact ⟨rfl, HB.out⟩
        · obtain rfl : j = K := by omega
          have hi3 : ¬ ((j : Int) < (j : Int)) := by omega
          have hkl := HGG.out
          have hall : (List.range G.length).all (fun k => (rd_T37 L (G.getD k 0 : Nat)).f7 == (k : Int) + 1) = true := by
            rw [List.all_eq_true]
            intro k hk
            have := HJ.out k (by have := List.mem_range.1 hk; omega)
            simpa using this
          have hR := HRD2.out
          rw [hall, Bool.true_and, ← hkl] at hR
          have KC := Lib.hid (contains_calls (PS + 1) j cv Av A c L i hn (by omega) _ b0 (HC.out _ HB.out))
          generalize L.any (oddb j) = z at *
          by_cases h9 : j ≤ 9
          · have d1 : decide ((j : Int) ≤ 9) = true := by simp; omega
            obtain rfl : R = !z := by rw [← hR]; simp [h9]
            clear hR hall HJ HRD2 HG HMEM
            go_wp2_with fail
            refine KC.out.mono ?_
            rintro e w7 ⟨rfl, hb⟩
            have HB7 := Lib.hid (below_step HB.out hb)
            clear hb KC
            go_wp2
            go_ret
            exact ⟨rfl, HB7.out⟩
          · have d1 : decide ((j : Int) ≤ 9) = false := by simp; omega
            obtain rfl : R = false := by rw [← hR]; simp [h9]
            clear hR hall HJ HRD2 HG HMEM KC
            go_wp2
            go_ret
            exact ⟨rfl, HB.out⟩
end Go.Proofs.YtaaihcojedibeaaDoor.DGrouped
end
section
/- ast.Right, Deep, Len: their walks. -/
namespace Go.Proofs.YtaaihcojedibeaaDoor.DRight
open Go.RowKit CMem DRow DDeep DSizes DFits DLens DSpec DGrp DSort DCon DOdd DWrap DGrouped Q Go.Proofs.YtaaihcojedibeaaDoorW.PrintWords Go.Proofs.YtaaihcojedibeaaDoorW.PrintLast Go.Proofs.YtaaihcojedibeaaDoorW.PrintMore
set_option linter.unusedVariables false
set_option linter.unusedSimpArgs false
set_option maxRecDepth 100000
/-- what is looked for behind has one length, that is not too great -/
def bhd1 (L : List S37) (i : Nat) : Bool := !((rd_T37 L i).f0 == 15 || (rd_T37 L i).f0 == 16) || ((ln L (rd_T37 L i).f1.toNat).1 == (ln L (rd_T37 L i).f1.toNat).2 && decide ((ln L (rd_T37 L i).f1.toNat).1 ≤ 255))
def bhd (L : List S37) : Bool := (List.range L.length).all (bhd1 L)
/-- what is wrong with a tree -/
def rgt (L : List S37) : Int := if frm L = 0 then (if grp L = true then (if bhd L = true then 0 else 7) else 6) else frm L
theorem frm_ord {L : List S37} (h : frm L = 0) : ord L = true := by
  unfold frm at h
  cases ho : ord L
  · rw [ho] at h; simp at h
  · rfl
set_option maxHeartbeats 12800000 in
theorem right_calls (A : Option Addr) (c : Nat) (L : List S37) (n : Nat) (hn : L.length = n) (hn2 : n ≤ 500) (w : World) (hr : Kd.C k37 w A n L) :
    Calls Tryd.prog 7 #[.agg #[.slice A n c]] w fun e w' => e = .returned (.int .i64 (rgt L)) ∧ Below w.heap.size w w' := by
  obtain ⟨R, hRdef⟩ : ∃ R, rgt L = R := ⟨_, rfl⟩
  rw [hRdef]
  unfold rgt at hRdef
  have HRD := Lib.hid hRdef
  have BT := Lib.hid (heap_alloc_new w (.cells #[.slice A n c] 24))
  have HB := Lib.hid (below1 w (.cells #[.slice A n c] 24))
  have HC := Lib.hid (fun W h => Kd.C_below (w1 := W) hr h)
  have t0 := blk_cell BT.out 0 (.slice A n c) rfl
  clear hr hRdef
  go_enter Tryd.func7, Tryd.ntmps7
  go_wp2_with fail
  generalize hW : w.alloc (.cells #[.slice A n c] 24) = v0 at *
  clear hW
  refine (formed_calls A c L n hn hn2 v0 (HC.out _ HB.out)).mono ?_
  rintro e w1 ⟨rfl, hb⟩
  have BT1 := Lib.hid (below_blk hb BT.out)
  have HB1 := Lib.hid (below_step HB.out hb)
  have t1 := blk_cell BT1.out 0 (.slice A n c) rfl
  clear hb BT HB t0
  by_cases hf : frm L = 0
  · have ho := frm_ord hf
    have d1 : (frm L != 0) = false := by simp [hf]
    have hR := HRD.out
    rw [if_pos hf] at hR
    have HR2 := Lib.hid hR
    clear hR HRD
    generalize frm L = fr at *
    go_wp2_with fail
    refine (grouped_calls A c L n hn hn2 ho w1 (HC.out _ HB1.out)).mono ?_
    rintro e w2 ⟨rfl, hb⟩
    have BT2 := Lib.hid (below_blk hb BT1.out)
    have HB2 := Lib.hid (below_step HB1.out hb)
    have t2 := blk_cell BT2.out 0 (.slice A n c) rfl
    clear hb BT1 HB1 t1
    cases hg : grp L
    · have hR := HR2.out
      rw [hg] at hR
      obtain rfl : R = 6 := hR.symm
      clear hR HR2
      go_wp2
      go_ret
      exact ⟨rfl, HB2.out⟩
    · have hR := HR2.out
      rw [if_pos hg] at hR
      have HR3 := Lib.hid hR
      clear hR HR2 hg
      go_wp2_with fail
      refine (lens_calls A c L n hn (by omega) ho w2 (HC.out _ HB2.out)).mono ?_
      rintro e w3 ⟨⟨p, q, hpq, rfl, hp, hq, hP, hQ⟩, hb⟩
      have BT3 := Lib.hid (below_blk hb BT2.out)
      have HB3 := Lib.hid (below_step HB2.out hb)
      have t3 := blk_cell BT3.out 0 (.slice A n c) rfl
      have P3 := Lib.hid hP
      have Q3 := Lib.hid hQ
      have hbase : w.heap.size ≤ p ∧ w.heap.size ≤ q := ⟨Nat.le_trans HB2.out.size hp, Nat.le_trans HB2.out.size hq⟩
      clear hb BT2 HB2 t2 hP hQ hp hq
      go_wp2
      go_loopw [24] (fun t wr => ∃ i : Nat, i ≤ n ∧ t = .int .i64 (i : Nat) ∧ Hid (∀ k : Nat, k < i → bhd1 L k = true) ∧ Hid (wr.heap[p]? = some (.cells (ic (fun m => (ln L m).1) n) 3 (0, 0))) ∧ Hid (wr.heap[q]? = some (.cells (ic (fun m => (ln L m).2) n) 3 (0, 0))) ∧ Hid (Below w.heap.size w wr)) (fun t _ => n - (intOf t).toNat)
      case atStart => exact ⟨0, Nat.zero_le _, rfl, Lib.hid (fun k h => absurd h (Nat.not_lt_zero _)), P3, Q3, HB3⟩
      case round =>
        clear P3 Q3 HB3 BT3 t3
        obtain ⟨i, hi, rfl, HJ, PO, QO, HB⟩ := hrel
        by_cases h : i < n
        · obtain ⟨ad, hA, a0, a1, a2, a3, a4, a5, a6, a7, a8, a9, a10, a11⟩ := at_T37 (HC.out _ HB.out) (i : Int) (by omega) (by omega)
          subst hA
          rw [Int.toNat_natCast] at a0 a1 a2 a3 a4 a5 a6 a7 a8 a9 a10 a11
          have hi2 : (i : Int) < (n : Int) := by omega
          have hw := ord_wf ho i (by omega)
          have HJ2 : Hid (∀ b, bhd1 L i = b → b = true → ∀ k : Nat, k < i + 1 → bhd1 L k = true) := Lib.hid (by
            rintro b rfl hb k hk
            by_cases e : k = i
            · rw [e]; exact hb
            · exact HJ.out k (by omega))
          have HF : Hid (∀ b, bhd1 L i = b → b = false → R = 7) := Lib.hid (by
            rintro b rfl hb
            rw [← HR3.out]
            have : bhd L = false := by
              unfold bhd
              rw [List.all_eq_false]
              exact ⟨i, List.mem_range.2 (by omega), by rw [hb]; decide⟩
            rw [this]; rfl)
          have hk1 : (rd_T37 L i).f0 = 15 ∨ (rd_T37 L i).f0 = 16 → ∃ a : Nat, (rd_T37 L i).f1 = (a : Int) ∧ a < i := fun hk => kid1 hw (by rcases hk with hk | hk <;> rw [hk] <;> rfl)
          obtain ⟨b, hb⟩ : ∃ b, bhd1 L i = b := ⟨_, rfl⟩
          have HJ4 := Lib.hid (HJ2.out b hb)
          have HF4 := Lib.hid (HF.out b hb)
          unfold bhd1 at hb
          clear HJ2 HF HJ hw
          generalize rd_T37 L i = x at *
          obtain ⟨xk, xa, xb, ⟨⟨s0, s1, s2, s3⟩⟩, x4, x5, x6, x7, x8⟩ := x
          simp only [] at a0 a1 a2 a3 a4 a5 a6 a7 a8 a9 a10 a11 hb hk1
          have BP := Lib.hid (blk_alloc PO.out (.cells #[.int .i64 xk, .int .i64 xa, .int .i64 xb, .int .u64 s0, .int .u64 s1, .int .u64 s2, .int .u64 s3, .int .i64 x4, .int .i64 x5, .int .i64 x6, .int .i64 x7, .bool x8] 37))
          have BQ := Lib.hid (blk_alloc QO.out (.cells #[.int .i64 xk, .int .i64 xa, .int .i64 xb, .int .u64 s0, .int .u64 s1, .int .u64 s2, .int .u64 s3, .int .i64 x4, .int .i64 x5, .int .i64 x6, .int .i64 x7, .bool x8] 37))
          have BN := Lib.hid (heap_alloc_new wr (.cells #[.int .i64 xk, .int .i64 xa, .int .i64 xb, .int .u64 s0, .int .u64 s1, .int .u64 s2, .int .u64 s3, .int .i64 x4, .int .i64 x5, .int .i64 x6, .int .i64 x7, .bool x8] 37))
          have HB1 := Lib.hid (HB.out.alloc HB.out.size (.cells #[.int .i64 xk, .int .i64 xa, .int .i64 xb, .int .u64 s0, .int .u64 s1, .int .u64 s2, .int .u64 s3, .int .i64 x4, .int .i64 x5, .int .i64 x6, .int .i64 x7, .bool x8] 37))
          clear HB PO QO
          by_cases hk : xk = 15 ∨ xk = 16
          · obtain ⟨a, rfl, hai⟩ := hk1 hk
            have hkb : (xk == 15 || xk == 16) = true := by rcases hk with hk | hk <;> rw [hk] <;> rfl
            rw [hkb, Int.toNat_natCast] at hb
            have n0 := blk_cell BN.out 0 (.int .i64 xk) rfl
            have n1 := blk_cell BN.out 1 (.int .i64 (a : Nat)) rfl
            have pa := blk_cell BP.out a _ (ic_at _ n a (by omega))
            have qa := blk_cell BQ.out a _ (ic_at _ n a (by omega))
            have han : (a : Int) < (n : Int) := by omega
            generalize (ln L a).1 = lo at *
            generalize (ln L a).2 = hi' at *
            by_cases e1 : lo = hi'
            · subst e1
              by_cases e2 : lo > 255
              · have d1 : decide (lo > 255) = true := by simp [e2]
                have d2 : (lo != lo) = false := by simp
                obtain rfl := HF4.out (by rw [← hb]; simp; omega)
                clear HF4 HJ4 hb hkb
                rcases hk with rfl | rfl
                · go_wp2
                  go_quiet (fail)
                  go_wp2
                  go_ret
                  exact ⟨rfl, by first | exact HB1.out | exact below_drewN HB1.out _⟩
                · go_wp2
                  go_quiet (fail)
                  go_wp2
                  go_ret
                  exact ⟨rfl, by first | exact HB1.out | exact below_drewN HB1.out _⟩
              · have d1 : decide (lo > 255) = false := by simp [e2]
                have d2 : (lo != lo) = false := by simp
                have HJ3 := Lib.hid (HJ4.out (by rw [← hb]; simp; omega))
                clear HF4 HJ4 hb hkb
                rcases hk with rfl | rfl
                · go_wp2
                  go_quiet (fail)
                  go_wp2
                  go_roundw
                  case rel => exact ⟨i + 1, by omega, by simp, HJ3, BP, BQ, Lib.hid (below_drewN HB1.out _)⟩
                  case measure => simp [intOf]; omega
                · go_wp2
                  go_quiet (fail)
                  go_wp2
                  go_roundw
                  case rel => exact ⟨i + 1, by omega, by simp, HJ3, BP, BQ, Lib.hid (below_drewN HB1.out _)⟩
                  case measure => simp [intOf]; omega
            · have d2 : (lo != hi') = true := by simp [e1]
              obtain rfl := HF4.out (by rw [← hb]; simp [e1])
              clear HF4 HJ4 hb hkb e1
              rcases hk with rfl | rfl
              · go_wp2
                go_quiet (fail)
                go_wp2
                go_ret
                exact ⟨rfl, by first | exact HB1.out | exact below_drewN HB1.out _⟩
              · go_wp2
                go_quiet (fail)
                go_wp2
                go_ret
                exact ⟨rfl, by first | exact HB1.out | exact below_drewN HB1.out _⟩
          · have hkb : (xk == 15 || xk == 16) = false := by simp; omega
            have n0 := blk_cell BN.out 0 (.int .i64 xk) rfl
            have d1 : (xk != 15) = true := by simp; omega
            have d2 : (xk != 16) = true := by simp; omega
            have HJ3 := Lib.hid (HJ4.out (by rw [← hb, hkb]; rfl))
            clear HF4 HJ4 hb hkb hk hk1
            go_wp2
            go_roundw
            case rel => exact ⟨i + 1, by omega, by simp, HJ3, BP, BQ, HB1⟩
            case measure => simp [intOf]; omega
        · obtain rfl : i = n := by omega
          have hi2 : ¬ ((i : Int) < (i : Int)) := by omega
          have hall : bhd L = true := by
            unfold bhd
            rw [List.all_eq_true]
            intro k hk
            exact HJ.out k (by have := List.mem_range.1 hk; omega)
          obtain rfl : R = 0 := by rw [← HR3.out, hall]; rfl
          clear HR3 hall HJ
          go_wp2
          go_ret
          exact ⟨rfl, HB.out⟩
  · have d1 : (frm L != 0) = true := by simp [hf]
    have hR := HRD.out
    rw [if_neg hf] at hR
    clear HRD
    generalize frm L = fr at *
    subst hR
    go_wp2
    go_ret
    exact ⟨rfl, HB1.out⟩
set_option maxHeartbeats 6400000 in
theorem deep_calls (A : Option Addr) (c : Nat) (L : List S37) (n : Nat) (hn : L.length = n) (hn2 : n ≤ 500) (w : World) (hr : Kd.C k37 w A n L) :
    Calls Tryd.prog 10 #[.agg #[.slice A n c]] w fun e w' => e = .returned (.int .i64 (dep L)) ∧ Below w.heap.size w w' := by
  obtain ⟨R, hRdef⟩ : ∃ R, dep L = R := ⟨_, rfl⟩
  rw [hRdef]
  unfold dep at hRdef
  have BT := Lib.hid (heap_alloc_new w (.cells #[.slice A n c] 24))
  have HB := Lib.hid (below1 w (.cells #[.slice A n c] 24))
  have HR := Lib.hid (Kd.C_below hr HB.out)
  have t0 := blk_cell BT.out 0 (.slice A n c) rfl
  have hgt : decide ((n : Int) > 500) = false := by simp; omega
  clear hr
  go_enter Tryd.func10, Tryd.ntmps10
  go_wp2_with fail
  generalize hW : w.alloc (.cells #[.slice A n c] 24) = v0 at *
  clear hW
  refine (sizes_calls A c L n hn (by omega) v0 HR.out).mono ?_
  rintro e w1 ⟨⟨v, rfl, hv⟩, hb⟩
  have BT1 := Lib.hid (below_blk hb BT.out)
  have HR1 := Lib.hid (Kd.C_below HR.out hb)
  have HB1 := Lib.hid (below_step HB.out hb)
  have t1 := blk_cell BT1.out 0 (.slice A n c) rfl
  clear hb BT HB HR t0 hv
  cases ho : ord L
  · obtain rfl : R = 0 := by rw [← hRdef, ho]; rfl
    clear hRdef
    go_wp2
    go_ret
    exact ⟨rfl, HB1.out⟩
  · have hpos := ord_pos ho
    rw [if_pos ho, hn] at hRdef
    have K2 := Lib.hid (fun W h => depths_calls A c L n hn (by omega) ho W h)
    obtain ⟨m, hm⟩ : ∃ m, n = m + 1 := ⟨n - 1, by omega⟩
    have hm1 : (n : Int) - 1 = (m : Int) := by omega
    have hm2 : (m : Int) < (n : Int) := by omega
    have hd : dp L m = R := by rw [← hRdef, hm]; rfl
    have HBm := HB1.out.drew
    have HRm := Lib.hid (Kd.C_below HR1.out (Below.refl _ _).drew)
    have hwm : wrap64 (m : Int) = (m : Int) := by unfold wrap64; omega
    have hm0 : decide (0 ≤ (m : Int)) = true := by simp
    clear hRdef hm
    go_wp2
    refine start_ (n := 9) (S := fun w' => w'.cell? ⟨w.heap.size, 0, none⟩ = some (.slice A n c) ∧ Kd.C k37 w' A n L ∧ Below w.heap.size w w') (ds := []) #[false, false, false, false, false, false, false, false, false] (by kernel_rfl) rfl rfl ⟨t1, HRm.out, HBm⟩ (fun hHeld => ?_)
    refine pure_ (i := 2) (N := some 18) (v := ?_) (a' := ?_) #[false, false, true, false, false, false, false, false, false] rfl rfl (by kernel_rfl) (fun _ _ _ h => h) (Or.inl ⟨by rfl, ?_⟩) ?_ ?_
    rotate_left
    · intro w'
      go_simp
      with_reducible rfl
    rotate_left
    · simp only [Act.put, List.setIfInBounds_toArray, List.set_cons_zero, List.set_cons_succ, i64_w, i32_w]
      rfl
    refine take_ (i := 0) (N := some 16) (v := ?_) (a' := ?_) #[true, false, true, false, false, false, false, false, false] rfl rfl (by kernel_rfl) (fun _ _ _ h => h) (Or.inl ⟨by rfl, ?_⟩) hHeld ?_ ?_
    rotate_left
    · rintro w' ⟨s0, s1, s2⟩
      go_simp
      with_reducible rfl
    rotate_left
    · simp only [Act.put, List.setIfInBounds_toArray, List.set_cons_zero, List.set_cons_succ, i64_w, i32_w]
      rfl
    refine take_ (i := 3) (N := some 19) (v := ?_) (a' := ?_) #[true, false, true, true, false, false, false, false, false] rfl rfl (by kernel_rfl) (fun _ _ _ h => h) (Or.inl ⟨by rfl, ?_⟩) hHeld ?_ ?_
    rotate_left
    · rintro w' ⟨s0, s1, s2⟩
      go_simp
      with_reducible rfl
    rotate_left
    · simp only [Act.put, List.setIfInBounds_toArray, List.set_cons_zero, List.set_cons_succ, i64_w, i32_w]
      rfl
    refine pure_ (i := 4) (N := some 20) (v := ?_) (a' := ?_) #[true, false, true, true, true, false, false, false, false] rfl rfl (by kernel_rfl) (fun _ _ _ h => h) (Or.inl ⟨by rfl, ?_⟩) ?_ ?_
    rotate_left
    · intro w'
      go_simp
      with_reducible rfl
    rotate_left
    · simp only [Act.put, List.setIfInBounds_toArray, List.set_cons_zero, List.set_cons_succ, i64_w, i32_w]
      rfl
    refine pure_ (i := 5) (N := some 21) (v := ?_) (a' := ?_) #[true, false, true, true, true, true, false, false, false] rfl rfl (by kernel_rfl) (fun _ _ _ h => h) (Or.inl ⟨by rfl, ?_⟩) ?_ ?_
    rotate_left
    · intro w'
      go_simp
      with_reducible rfl
    rotate_left
    · simp only [Act.put, List.setIfInBounds_toArray, List.set_cons_zero, List.set_cons_succ, i64_w, i32_w]
      rfl
    refine one_ (i := 1) (N := some 17) #[true, true, true, true, true, true, false, false, false] rfl rfl (by kernel_rfl) (by decide) (fun K hK => ?_)
    refine goes_ Tryd.func22 (by kernel_rfl) rfl #[.agg #[.slice A n c]] (by rfl) rfl rfl (by simp only [List.map_toArray, List.map_cons, List.map_nil]; rfl) ?_
    with_reducible refine (K2.out _ hHeld.2.1).mono ?_
    rintro e X1 ⟨⟨p, hp, rfl, hh⟩, hb⟩
    refine ⟨_, rfl, ?_⟩
    have q1 := blk_cell hh m _ (ic_at (dp L) n m (by omega))
    rw [hd] at q1
    refine hK.out _ _ ⟨(below_of hb hHeld.1), (Kd.C_below hHeld.2.1 hb), (below_step hHeld.2.2 hb)⟩ (fun hHeld => ?_)
    clear hK K
    refine norm_ (a' := ?_) ?_ ?_
    rotate_left
    · show Act.put _ (some 17) _ = _
      simp only [Act.put, List.setIfInBounds_toArray, List.set_cons_zero, List.set_cons_succ, i64_w, i32_w]
      rfl
    refine pure_ (i := 6) (N := some 22) (v := ?_) (a' := ?_) #[true, true, true, true, true, true, true, false, false] rfl rfl (by kernel_rfl) (fun _ _ _ h => h) (Or.inl ⟨by rfl, ?_⟩) ?_ ?_
    rotate_left
    · intro w'
      go_simp
      with_reducible rfl
    rotate_left
    · simp only [Act.put, List.setIfInBounds_toArray, List.set_cons_zero, List.set_cons_succ, i64_w, i32_w]
      rfl
    refine one_ (i := 7) (N := some 23) #[true, true, true, true, true, true, true, true, false] rfl rfl (by kernel_rfl) (by decide) (fun K hK => ?_)
    refine value_ (w1 := ?_) (v := ?_) (by rfl) rfl ?_ ?_
    rotate_left 2
    · go_simp
      constructor
      · rfl
      · rfl
    refine hK.out _ _ ⟨hHeld.1, hHeld.2.1, hHeld.2.2⟩ (fun hHeld => ?_)
    clear hK K
    refine norm_ (a' := ?_) ?_ ?_
    rotate_left
    · show Act.put _ (some 23) _ = _
      simp only [Act.put, List.setIfInBounds_toArray, List.set_cons_zero, List.set_cons_succ, i64_w, i32_w]
      rfl
    refine pure_ (i := 8) (N := some 2) (v := ?_) (a' := ?_) #[true, true, true, true, true, true, true, true, true] rfl rfl (by kernel_rfl) (fun _ _ _ h => h) (Or.inl ⟨by rfl, ?_⟩) ?_ ?_
    rotate_left
    · intro w'
      go_simp
      with_reducible rfl
    rotate_left
    · simp only [Act.put, List.setIfInBounds_toArray, List.set_cons_zero, List.set_cons_succ, i64_w, i32_w]
      rfl
    refine done_ (by kernel_rfl) ?_
    have HB2 := Lib.hid (below_step HBm hb)
    clear hb hh q1
    go_wp2
    go_ret
    exact ⟨rfl, HB2.out⟩
end Go.Proofs.YtaaihcojedibeaaDoor.DRight
end
section
/- Contracts over trees, as a law's walk asks them. -/
namespace Go.Proofs.YtaaihcojedibeaaDoor.DKit
set_option maxRecDepth 100000
open Go.RowKit CMem DRow DDeep DSizes DFits DLens DSpec DGrp DCon DOdd DRowN DWrap DJoin DGrouped DRight DRFits DCut Q Go.Proofs.YtaaihcojedibeaaDoorW.PrintWords
set_option linter.unusedVariables false
set_option linter.unusedSimpArgs false
def grn (L : List S37) : Int := ((gall L).length : Int)
theorem gall_upto (L : List S37) (i : Nat) : ((List.range (i + 1)).filter fun j : Nat => (rd_T37 L (j : Nat)).f0 == 11).length = ((List.range i).filter fun j : Nat => (rd_T37 L (j : Nat)).f0 == 11).length + (if (rd_T37 L i).f0 = 11 then 1 else 0) := by
  rw [List.range_succ, List.filter_append, List.length_append]
  congr 1
  by_cases h : (rd_T37 L i).f0 = 11
  · simp [h]
  · simp [h]
theorem gcount_le (L : List S37) (i : Nat) : ((List.range i).filter fun j : Nat => (rd_T37 L (j : Nat)).f0 == 11).length ≤ i := Nat.le_trans (List.length_filter_le _ _) (by simp)
theorem groups_f (L : List S37) (hn2 : L.length ≤ 1000) : ∀ (d j : Nat), j + d = L.length → ∀ k, d + 1 ≤ k → ast_Groups.l0 k (((List.range j).filter fun m : Nat => (rd_T37 L (m : Nat)).f0 == 11).length : Nat) L (L.length : Int) j = some (grn L)
  | 0, j, hj, k, hk => by
    obtain ⟨q, rfl⟩ : ∃ q, k = q + 1 := ⟨k - 1, by omega⟩
    obtain rfl : j = L.length := by omega
    rw [ast_Groups.l0, if_neg (by omega)]
    rfl
  | d + 1, j, hj, k, hk => by
    obtain ⟨q, rfl⟩ : ∃ q, k = q + 1 := ⟨k - 1, by omega⟩
    have hq : d + 1 ≤ q := by omega
    have ih := groups_f L hn2 d (j + 1) (by omega) q hq
    have hg := gall_upto L j
    have hl := gcount_le L j
    generalize ((List.range j).filter fun m : Nat => (rd_T37 L (m : Nat)).f0 == 11).length = c at *
    have w1 : wrap64 ((j : Int) + 1) = ((j + 1 : Nat) : Int) := by unfold wrap64; omega
    have w2 : wrap64 ((c : Int) + 1) = ((c + 1 : Nat) : Int) := by unfold wrap64; omega
    rw [ast_Groups.l0, if_pos (by omega), if_pos (by omega), if_pos (by omega), w1, w2]
    by_cases h : (rd_T37 L j).f0 = 11
    · rw [if_pos h] at hg
      rw [if_pos h, ← ih, hg]
    · rw [if_neg h] at hg
      rw [if_neg h, ← ih, hg]
      rfl
theorem groups_calls (A : Option Addr) (c : Nat) (L : List S37) (n : Nat) (hn : L.length = n) (hn2 : n ≤ 1000) (hc : n ≤ c) (w : World) (hr : Kd.C k37 w A n L) :
    Calls Tryd.prog 9 #[.agg #[.slice A n c]] w fun e w' => e = .returned (.int .i64 (grn L)) ∧ Below w.heap.size w w' := by
  subst hn
  have h := groups_f L hn2 L.length 0 (by omega) (L.length + 1) (Nat.le_refl _)
  exact (ast_Groups.calls (L.length + 1) A c L (grn L) w hr hc h).mono fun e w' hh => ⟨hh.1, by first | exact hh.2 | exact hh.2.below⟩
theorem leaf_tree (k xa xb s0 s1 s2 s3 mi ma mo nn : Int) (fo : Bool) (w : World) :
    Calls Tryd.prog 17 #[.agg #[.int .i64 k, .int .i64 xa, .int .i64 xb, .int .u64 s0, .int .u64 s1, .int .u64 s2, .int .u64 s3, .int .i64 mi, .int .i64 ma, .int .i64 mo, .int .i64 nn, .bool fo]] w fun e w' =>
      (∃ A c, e = .returned (.agg #[.slice A 1 c]) ∧ 1 ≤ c ∧ Kd.C k37 w' A 1 [⟨k, xa, xb, ⟨⟨s0, s1, s2, s3⟩⟩, mi, ma, mo, nn, fo⟩]) ∧ Below w.heap.size w w' := by
  refine (ast_Leaf.calls k xa xb s0 s1 s2 s3 mi ma mo nn fo _ w rfl).mono ?_
  rintro e w' ⟨v, rfl, hR, hb⟩
  obtain ⟨A, c, rfl, hle, hC⟩ := Kd.R_reads hR
  exact ⟨⟨A, c, rfl, hle, hC⟩, hb⟩
theorem wrap_tree (A : Option Addr) (c : Nat) (L R : List S37) (n q : Nat) (hn : L.length = n) (hn2 : n ≤ 999) (hq : n + 1 = q) (k xa xb s0 s1 s2 s3 mi ma mo nn : Int) (fo : Bool) (hR : L ++ [⟨k, (n : Int) - 1, 0, ⟨⟨s0, s1, s2, s3⟩⟩, mi, ma, mo, nn, fo⟩] = R) (w : World) (hr : Kd.C k37 w A n L) :
    Calls Tryd.prog 12 #[.agg #[.slice A n c], .agg #[.int .i64 k, .int .i64 xa, .int .i64 xb, .int .u64 s0, .int .u64 s1, .int .u64 s2, .int .u64 s3, .int .i64 mi, .int .i64 ma, .int .i64 mo, .int .i64 nn, .bool fo]] w fun e w' =>
      (∃ A c, e = .returned (.agg #[.slice A q c]) ∧ q ≤ c ∧ Kd.C k37 w' A q R) ∧ Below w.heap.size w w' := by
  subst hR hq
  refine (wrap_calls A c L n hn hn2 k xa xb s0 s1 s2 s3 mi ma mo nn fo w hr).mono ?_
  rintro e w' ⟨⟨v, rfl, ho⟩, hb⟩
  obtain ⟨A2, c2, rfl, hle, hC⟩ := own_C (by simp [hn]) (by omega) ho
  exact ⟨⟨A2, c2, rfl, hle, hC⟩, hb⟩
theorem join_tree (A : Option Addr) (c : Nat) (L M R : List S37) (n m q : Nat) (hn : L.length = n) (A2 : Option Addr) (c2 : Nat) (hm : M.length = m) (hnm : n + m ≤ 999) (hq : n + m + 1 = q) (kind : Int) (hR : L ++ M.map (shift n) ++ [⟨kind, (n : Int) - 1, (n : Int) + m - 1, z35, 0, 0, 0, 0, false⟩] = R) (w : World) (hr : Kd.C k37 w A n L) (hr2 : Kd.C k37 w A2 m M) :
    Calls Tryd.prog 11 #[.agg #[.slice A n c], .agg #[.slice A2 m c2], .int .i64 kind] w fun e w' =>
      (∃ A c, e = .returned (.agg #[.slice A q c]) ∧ q ≤ c ∧ Kd.C k37 w' A q R) ∧ Below w.heap.size w w' := by
  subst hR hq
  refine (join_calls A c L n hn A2 c2 M m hm hnm kind w hr hr2).mono ?_
  rintro e w' ⟨⟨v, rfl, ho⟩, hb⟩
  obtain ⟨A2, c2, rfl, hle, hC⟩ := own_C (by simp [hn, hm]; omega) (by omega) ho
  exact ⟨⟨A2, c2, rfl, hle, hC⟩, hb⟩
theorem right_tree (A : Option Addr) (c : Nat) (L : List S37) (n : Nat) (r : Int) (hn : L.length = n) (hn2 : n ≤ 500) (hr0 : rgt L = r) (w : World) (hr : Kd.C k37 w A n L) :
    Calls Tryd.prog 7 #[.agg #[.slice A n c]] w fun e w' => e = .returned (.int .i64 r) ∧ Below w.heap.size w w' := by
  subst hr0; exact right_calls A c L n hn hn2 w hr
theorem deep_tree (A : Option Addr) (c : Nat) (L : List S37) (n : Nat) (r : Int) (hn : L.length = n) (hn2 : n ≤ 500) (hr0 : dep L = r) (w : World) (hr : Kd.C k37 w A n L) :
    Calls Tryd.prog 10 #[.agg #[.slice A n c]] w fun e w' => e = .returned (.int .i64 r) ∧ Below w.heap.size w w' := by
  subst hr0; exact deep_calls A c L n hn hn2 w hr
theorem groups_tree (A : Option Addr) (c : Nat) (L : List S37) (n : Nat) (r : Int) (hn : L.length = n) (hn2 : n ≤ 500) (hc : n ≤ c) (hr0 : grn L = r) (w : World) (hr : Kd.C k37 w A n L) :
    Calls Tryd.prog 9 #[.agg #[.slice A n c]] w fun e w' => e = .returned (.int .i64 r) ∧ Below w.heap.size w w' := by
  subst hr0; exact groups_calls A c L n hn (by omega) hc w hr
theorem C_take {α : Type} {d : Kd α} {w : World} {A : Option Addr} {n k : Nat} {L : List α} (h : Kd.C d w A n L) (hk : k ≤ n) : Kd.C d w A k (L.take k) := by
  obtain ⟨h1, h2, h3⟩ := h
  refine ⟨by rw [List.length_take]; omega, by omega, fun hp => ?_⟩
  obtain ⟨ad, e, hc⟩ := h3 (by omega)
  refine ⟨ad, e, fun j p hj => hc j p ?_⟩
  rw [List.getElem?_take] at hj
  split at hj
  · exact hj
  · cases hj
end Go.Proofs.YtaaihcojedibeaaDoor.DKit
end
