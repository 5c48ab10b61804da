import Derived.Shelf.Small.Bits
import Derived.Shelf.Strconv.Itoa0
import Derived.Shelf.Strconv.Itoa1
import Derived.Shelf.LaysM
import Derived.Shelf.Strconv.Itoa2
import Derived.Shelf.Strconv.Itoa3
import Derived.Shelf.Slices.Turned
import Derived.Ground.SlsfProg
import Derived.Shelf.SlSortCmp.Insertion
import Derived.Shelf.SlSortCmp.SiftDown1
import Derived.Shelf.SlSortCmp.HeapSort1
import Derived.Shelf.SlSortCmp.Insertion1
import Derived.Shelf.SlSortCmp.Median1
import Derived.Shelf.SlSortCmp.Pivot1
import Derived.Shelf.SlSortCmp.ReverseRange1
import Derived.Shelf.SlSortCmp.PartialInsertion1
import Derived.Shelf.SlSortCmp.PartitionEqual1
import Derived.Shelf.SlSortCmp.Partition1
import Derived.Shelf.SlSortCmp.Pdq1
import Derived.Shelf.SlSortCmp.Whole1
import Derived.Shelf.SlSortCmp.NoneTotal
import Derived.Test.YtaaihcojedibeaaGreatDoorProg
import Derived.Test.YtaaihcojedibeaaGreatDoorZ4
import Derived.BigQuiet
import Derived.Test.YtaaihcojedibeaaGreatDoorZ0
import Derived.Test.YtaaihcojedibeaaGreatDoorQAll
import Derived.Test.YtaaihcojedibeaaGreatDoorQRb
section
/-
  DERIVED: THE SHELF's CONTRACTS AT THIS DUMP, IN PLAIN WORDS (tools/lay-plain.mjs out of 'TryzShelf.lean', which tools/lay-shelf.mjs wrote): THE SAME DECLARATIONS UNDER THE SAME NAMES: 'import', 'namespace', 'open', 'def', 'theorem' AND NOTHING ELSE: no command of the shelf's: FOR A HAND-IN. Each laying: the table of numbers ('.._ren') and one theorem, a field a fact of the dump's own or the kernel's comparison; each contract: ONE APPLICATION.
-/
namespace Go.Proofs
open Go.Shelf
def Tryz.laysM171_ren : Go.Shelf.Ren := ⟨fun | 171 => 71 | 243 => 86 | 246 => 93 | 283 => 95 | 284 => 96 | 285 => 97 | 286 => 98 | 129 => 85 | 317 => 99 | 318 => 100 | 319 => 101 | 320 => 102 | 337 => 103 | 338 => 104 | n => n, fun | 3 => 3 | 9 => 9 | 2 => 2 | 4 => 4 | 171 => 126 | 0 => 0 | 53 => 25 | 37 => 80 | 5 => 5 | 173 => 128 | 212 => 131 | 51 => 115 | 20 => 20 | 213 => 132 | 46 => 98 | 232 => 134 | 233 => 135 | n => n, fun | 17 => 0 | 18 => 1 | 19 => 2 | n => n⟩
theorem Tryz.laysM171 : Go.Proofs.LaysM.n171 Tryz.prog Tryz.laysM171_ren := {
  mixed := by kernel_rfl
  f129 := Tryz.func85.trans (congrArg some (by kernel_rfl))
  f171 := Tryz.func71.trans (congrArg some (by kernel_rfl))
  f243 := Tryz.func86.trans (congrArg some (by kernel_rfl))
  f246 := Tryz.func93.trans (congrArg some (by kernel_rfl))
  f283 := Tryz.func95.trans (congrArg some (by kernel_rfl))
  f284 := Tryz.func96.trans (congrArg some (by kernel_rfl))
  f285 := Tryz.func97.trans (congrArg some (by kernel_rfl))
  f286 := Tryz.func98.trans (congrArg some (by kernel_rfl))
  f317 := Tryz.func99.trans (congrArg some (by kernel_rfl))
  f318 := Tryz.func100.trans (congrArg some (by kernel_rfl))
  f319 := Tryz.func101.trans (congrArg some (by kernel_rfl))
  f320 := Tryz.func102.trans (congrArg some (by kernel_rfl))
  f337 := Tryz.func103.trans (congrArg some (by kernel_rfl))
  f338 := Tryz.func104.trans (congrArg some (by kernel_rfl))
  t0 := Tryz.underlying0
  a0 := Tryz.isAgg0
  z0 := Tryz.sizeOf0
  v0 := Tryz.zeroValue0
  t2 := Tryz.underlying2
  a2 := Tryz.isAgg2
  z2 := Tryz.sizeOf2
  v2 := Tryz.zeroValue2
  t3 := Tryz.underlying3
  a3 := Tryz.isAgg3
  z3 := Tryz.sizeOf3
  v3 := Tryz.zeroValue3
  t4 := Tryz.underlying4
  a4 := Tryz.isAgg4
  z4 := Tryz.sizeOf4
  v4 := Tryz.zeroValue4
  t5 := Tryz.underlying5
  a5 := Tryz.isAgg5
  z5 := Tryz.sizeOf5
  v5 := Tryz.zeroValue5
  t9 := Tryz.underlying9
  a9 := Tryz.isAgg9
  z9 := Tryz.sizeOf9
  v9 := Tryz.zeroValue9
  t20 := Tryz.underlying20
  a20 := Tryz.isAgg20
  z20 := Tryz.sizeOf20
  v20 := Tryz.zeroValue20
  t37 := Tryz.underlying80
  a37 := Tryz.isAgg80
  z37 := Tryz.sizeOf80
  v37 := Tryz.zeroValue80
  t46 := Tryz.underlying98
  a46 := Tryz.isAgg98
  z46 := Tryz.sizeOf98
  v46 := Tryz.zeroValue98
  t51 := Tryz.underlying115
  a51 := Tryz.isAgg115
  z51 := Tryz.sizeOf115
  v51 := Tryz.zeroValue115
  t53 := Tryz.underlying25
  a53 := Tryz.isAgg25
  z53 := Tryz.sizeOf25
  v53 := Tryz.zeroValue25
  t171 := Tryz.underlying126
  a171 := Tryz.isAgg126
  z171 := Tryz.sizeOf126
  v171 := Tryz.zeroValue126
  t173 := Tryz.underlying128
  a173 := Tryz.isAgg128
  z173 := Tryz.sizeOf128
  v173 := Tryz.zeroValue128
  t212 := Tryz.underlying131
  a212 := Tryz.isAgg131
  z212 := Tryz.sizeOf131
  v212 := Tryz.zeroValue131
  t213 := Tryz.underlying132
  a213 := Tryz.isAgg132
  z213 := Tryz.sizeOf132
  t232 := Tryz.underlying134
  a232 := Tryz.isAgg134
  z232 := Tryz.sizeOf134
  v232 := Tryz.zeroValue134
  t233 := Tryz.underlying135
  a233 := Tryz.isAgg135
  z233 := Tryz.sizeOf135
  v233 := Tryz.zeroValue135
  g17 := by kernel_rfl
  g18 := by kernel_rfl
  g19 := by kernel_rfl
  i0 := by kernel_rfl
  i2 := by kernel_rfl
  i3 := by kernel_rfl
  i4 := by kernel_rfl
  i5 := by kernel_rfl
  i9 := by kernel_rfl
  i20 := by kernel_rfl
  i37 := by kernel_rfl
  i46 := by kernel_rfl
  i51 := by kernel_rfl
  i53 := by kernel_rfl
  i171 := by kernel_rfl
  i173 := by kernel_rfl
  i212 := by kernel_rfl
  i232 := by kernel_rfl
  i233 := by kernel_rfl
  m17 := by kernel_rfl
  m18 := by kernel_rfl
  m19 := by kernel_rfl }
open Go.RowKit Go.Sort Go.Lib in
/-- strconv.Itoa: "Itoa is equivalent to FormatInt(int64(i), 10).": i's DECIMAL NUMERAL ('Lib.itoa': a '-' where i is negative, then the digits), FOR EVERY int. The world behind the call: the world before it, new blocks behind the heap (the library's 'var a [24]byte'), draws. (LAID: no walk: one application.) -/
theorem Tryz.strconv_Itoa (n : Int) (h0 : -9223372036854775808 ≤ n) (h1 : n ≤ 9223372036854775807) (w : World) (htab : Lib.TabIs Tryz.prog w "internal/strconv.uint64pow10" .u64 Lib.pow10Tab) :
    Calls Tryz.prog 71 #[.int .i64 n] w fun e w' => e = .returned (.string ⟨(Lib.itoa n).toArray⟩) ∧ ∃ k os, w' = grow (w.drewN k) os := Any.strconv_Itoa Tryz.laysM171 n h0 h1 w htab
def Tryz.lays113_ren : Go.Shelf.Ren := ⟨fun | 113 => 44 | n => n, fun | 28 => 67 | 3 => 3 | 4 => 4 | 9 => 9 | 20 => 20 | 0 => 0 | n => n, fun | n => n⟩
theorem Tryz.lays113 : Go.Proofs.Lays.n113 Tryz.prog Tryz.lays113_ren := {
  mixed := by kernel_rfl
  f113 := Tryz.func44.trans (congrArg some (by kernel_rfl))
  t0 := Tryz.underlying0
  a0 := Tryz.isAgg0
  z0 := Tryz.sizeOf0
  v0 := Tryz.zeroValue0
  t3 := Tryz.underlying3
  a3 := Tryz.isAgg3
  z3 := Tryz.sizeOf3
  v3 := Tryz.zeroValue3
  t4 := Tryz.underlying4
  a4 := Tryz.isAgg4
  z4 := Tryz.sizeOf4
  v4 := Tryz.zeroValue4
  t9 := Tryz.underlying9
  a9 := Tryz.isAgg9
  z9 := Tryz.sizeOf9
  v9 := Tryz.zeroValue9
  t20 := Tryz.underlying20
  a20 := Tryz.isAgg20
  z20 := Tryz.sizeOf20
  v20 := Tryz.zeroValue20
  t28 := Tryz.underlying67
  a28 := Tryz.isAgg67
  z28 := Tryz.sizeOf67
  v28 := Tryz.zeroValue67 }
open Go.Lib in
/-- slices.Max at []int: "Max returns the maximal value in x. It panics if x is empty.": OF A SLICE THAT IS NOT EMPTY IT RETURNS 'Lib.maxOf (the elements)'; the world is as it was. (Of an empty one it panics: no contract here.) (LAID: no walk: one application.) -/
theorem Tryz.slices_Max_int (b off n c : Nat) (zs : List Int) (w : World) (hn : 0 < n) (hz : n ≤ zs.length) (hbig : n ≤ 9223372036854775807) (hc : ∀ j, j < zs.length → w.cell? ⟨b, off + j, none⟩ = some (.int .i64 (zs.getD j 0))) :
    Calls Tryz.prog 44 #[.slice (some ⟨b, off, none⟩) n c] w fun e w' => e = .returned (.int .i64 (Lib.maxOf (zs.take n))) ∧ w' = w := Any.slices_Max_int Tryz.lays113 b off n c zs w hn hz hbig hc
def Tryz.laysSlF6_f47_ren : Go.Shelf.Ren := ⟨fun | 6 => 47 | 15 => 69 | 14 => 68 | 28 => 84 | 29 => 85 | 20 => 76 | 21 => 77 | 22 => 78 | 23 => 79 | 24 => 80 | 25 => 81 | 26 => 82 | 27 => 83 | 46 => 88 | 47 => 89 | 48 => 90 | 49 => 91 | 50 => 92 | 57 => 94 | n => n, fun | 22 => 67 | 24 => 3 | 25 => 92 | 3 => 3 | 39 => 98 | 0 => 0 | 53 => 115 | 55 => 25 | 4 => 4 | 46 => 108 | 45 => 107 | 50 => 112 | 5 => 5 | 9 => 9 | 66 => 117 | 70 => 121 | 76 => 124 | 77 => 76 | n => n, fun | n => n⟩
theorem Tryz.laysSlF6_f47 : Go.Proofs.SlLaysF.n6 Tryz.prog Tryz.laysSlF6_f47_ren := {
  mixed := by kernel_rfl
  f6 := ⟨Tryz.f47.name, by decide, Tryz.func47.trans (congrArg some (by kernel_rfl))⟩
  f14 := ⟨Tryz.f68.name, by decide, Tryz.func68.trans (congrArg some (by kernel_rfl))⟩
  f15 := Tryz.func69.trans (congrArg some (by kernel_rfl))
  f20 := ⟨Tryz.f76.name, by decide, Tryz.func76.trans (congrArg some (by kernel_rfl))⟩
  f21 := ⟨Tryz.f77.name, by decide, Tryz.func77.trans (congrArg some (by kernel_rfl))⟩
  f22 := ⟨Tryz.f78.name, by decide, Tryz.func78.trans (congrArg some (by kernel_rfl))⟩
  f23 := ⟨Tryz.f79.name, by decide, Tryz.func79.trans (congrArg some (by kernel_rfl))⟩
  f24 := ⟨Tryz.f80.name, by decide, Tryz.func80.trans (congrArg some (by kernel_rfl))⟩
  f25 := ⟨Tryz.f81.name, by decide, Tryz.func81.trans (congrArg some (by kernel_rfl))⟩
  f26 := ⟨Tryz.f82.name, by decide, Tryz.func82.trans (congrArg some (by kernel_rfl))⟩
  f27 := ⟨Tryz.f83.name, by decide, Tryz.func83.trans (congrArg some (by kernel_rfl))⟩
  f28 := Tryz.func84.trans (congrArg some (by kernel_rfl))
  f29 := Tryz.func85.trans (congrArg some (by kernel_rfl))
  f46 := ⟨Tryz.f88.name, by decide, Tryz.func88.trans (congrArg some (by kernel_rfl))⟩
  f47 := Tryz.func89.trans (congrArg some (by kernel_rfl))
  f48 := Tryz.func90.trans (congrArg some (by kernel_rfl))
  f49 := ⟨Tryz.f91.name, by decide, Tryz.func91.trans (congrArg some (by kernel_rfl))⟩
  f50 := ⟨Tryz.f92.name, by decide, Tryz.func92.trans (congrArg some (by kernel_rfl))⟩
  f57 := ⟨Tryz.f94.name, by decide, Tryz.func94.trans (congrArg some (by kernel_rfl))⟩
  t0 := Tryz.underlying0
  a0 := Tryz.isAgg0
  z0 := Tryz.sizeOf0
  v0 := Tryz.zeroValue0
  t3 := Tryz.underlying3
  a3 := Tryz.isAgg3
  z3 := Tryz.sizeOf3
  v3 := Tryz.zeroValue3
  t4 := Tryz.underlying4
  a4 := Tryz.isAgg4
  z4 := Tryz.sizeOf4
  v4 := Tryz.zeroValue4
  t5 := Tryz.underlying5
  a5 := Tryz.isAgg5
  z5 := Tryz.sizeOf5
  v5 := Tryz.zeroValue5
  t9 := Tryz.underlying9
  a9 := Tryz.isAgg9
  z9 := Tryz.sizeOf9
  v9 := Tryz.zeroValue9
  t22 := Tryz.underlying67
  a22 := Tryz.isAgg67
  z22 := Tryz.sizeOf67
  v22 := Tryz.zeroValue67
  a24 := Tryz.isAgg3
  z24 := Tryz.sizeOf3
  t25 := Tryz.underlying92
  a25 := Tryz.isAgg92
  z25 := Tryz.sizeOf92
  v25 := Tryz.zeroValue92
  t39 := Tryz.underlying98
  a39 := Tryz.isAgg98
  z39 := Tryz.sizeOf98
  v39 := Tryz.zeroValue98
  t45 := Tryz.underlying107
  a45 := Tryz.isAgg107
  z45 := Tryz.sizeOf107
  v45 := Tryz.zeroValue107
  t46 := Tryz.underlying108
  a46 := Tryz.isAgg108
  z46 := Tryz.sizeOf108
  v46 := Tryz.zeroValue108
  t50 := Tryz.underlying112
  a50 := Tryz.isAgg112
  z50 := Tryz.sizeOf112
  v50 := Tryz.zeroValue112
  t53 := Tryz.underlying115
  a53 := Tryz.isAgg115
  z53 := Tryz.sizeOf115
  v53 := Tryz.zeroValue115
  t55 := Tryz.underlying25
  a55 := Tryz.isAgg25
  z55 := Tryz.sizeOf25
  v55 := Tryz.zeroValue25
  t66 := Tryz.underlying117
  a66 := Tryz.isAgg117
  z66 := Tryz.sizeOf117
  v66 := Tryz.zeroValue117
  t70 := Tryz.underlying121
  a70 := Tryz.isAgg121
  z70 := Tryz.sizeOf121
  v70 := Tryz.zeroValue121
  t76 := Tryz.underlying124
  a76 := Tryz.isAgg124
  z76 := Tryz.sizeOf124
  v76 := Tryz.zeroValue124
  t77 := Tryz.underlying76
  a77 := Tryz.isAgg76
  z77 := Tryz.sizeOf76
  v77 := Tryz.zeroValue76 }
open Go.RowKit Go.Lib Go.Sort in
/-- **slices.SortFunc, IN THE DOCUMENTATION's OWN TERMS: A PERMUTATION OF WHAT THE ROW HELD, SORTED BY 'cmp(a, b) < 0'.** Which of two equals comes first is left open ("The sort is not guaranteed to be stable"). (LAID AT THE INSTANCE 'slices.SortFunc[[]int,int]': no walk: one application.) -/
theorem Tryz.slices_SortFunc {α : Type} [Inhabited α] (enc : α → Value) (h1 : OneCell enc) (cf : α → α → Int) (hO : SWO (ltOf cf)) (g : Nat) (cb : Array Value) (blk off cap : Nat) (d : Array α) (w : World) (eg : ∀ args w, (callFunc g args).run Tryz.prog w = .ok (.enter g args) w) (hcmp : CmpLays1 Tryz.prog g cb enc cf blk off d.size w) (hH : Holds enc w blk off d) (hblk : blk < w.heap.size) (hsz : d.size < 4611686018427387904) :
    Calls Tryz.prog 47 #[.slice (some ⟨blk, off, none⟩) d.size cap, .func (.func g) #[] cb] w fun e w' =>
      e = .returned (.tuple #[]) ∧ ∃ d' n os, PermIn 0 d.size d d' ∧ SortedIn (ltOf cf) 0 d.size d' ∧ w' = sortWorld enc w blk off n d' os := Any.slices_SortFunc Tryz.laysSlF6_f47 enc h1 cf hO g cb blk off cap d w eg hcmp hH hblk hsz
def Tryz.laysSlF06_f47_ren : Go.Shelf.Ren := ⟨fun | 6 => 47 | 15 => 69 | 14 => 68 | 28 => 84 | 29 => 85 | 20 => 76 | 21 => 77 | 22 => 78 | 23 => 79 | 24 => 80 | 25 => 81 | 26 => 82 | 27 => 83 | 46 => 88 | 47 => 89 | 48 => 90 | 49 => 91 | 50 => 92 | 57 => 94 | n => n, fun | 22 => 67 | 24 => 3 | 25 => 92 | 3 => 3 | 39 => 98 | 0 => 0 | 53 => 115 | 55 => 25 | 4 => 4 | 46 => 108 | 45 => 107 | 50 => 112 | 5 => 5 | 9 => 9 | 66 => 117 | 70 => 121 | 76 => 124 | 77 => 76 | n => n, fun | n => n⟩
theorem Tryz.laysSlF06_f47 : Go.Proofs.SlLaysF0.n6 Tryz.prog Tryz.laysSlF06_f47_ren := {
  mixed := by kernel_rfl
  f6 := ⟨Tryz.f47.name, by decide, Tryz.func47.trans (congrArg some (by kernel_rfl))⟩
  f14 := ⟨Tryz.f68.name, by decide, Tryz.func68.trans (congrArg some (by kernel_rfl))⟩
  f15 := Tryz.func69.trans (congrArg some (by kernel_rfl))
  f20 := ⟨Tryz.f76.name, by decide, Tryz.func76.trans (congrArg some (by kernel_rfl))⟩
  f21 := ⟨Tryz.f77.name, by decide, Tryz.func77.trans (congrArg some (by kernel_rfl))⟩
  f22 := ⟨Tryz.f78.name, by decide, Tryz.func78.trans (congrArg some (by kernel_rfl))⟩
  f23 := ⟨Tryz.f79.name, by decide, Tryz.func79.trans (congrArg some (by kernel_rfl))⟩
  f24 := ⟨Tryz.f80.name, by decide, Tryz.func80.trans (congrArg some (by kernel_rfl))⟩
  f25 := ⟨Tryz.f81.name, by decide, Tryz.func81.trans (congrArg some (by kernel_rfl))⟩
  f26 := ⟨Tryz.f82.name, by decide, Tryz.func82.trans (congrArg some (by kernel_rfl))⟩
  f27 := ⟨Tryz.f83.name, by decide, Tryz.func83.trans (congrArg some (by kernel_rfl))⟩
  f28 := Tryz.func84.trans (congrArg some (by kernel_rfl))
  f29 := Tryz.func85.trans (congrArg some (by kernel_rfl))
  f46 := ⟨Tryz.f88.name, by decide, Tryz.func88.trans (congrArg some (by kernel_rfl))⟩
  f47 := Tryz.func89.trans (congrArg some (by kernel_rfl))
  f48 := Tryz.func90.trans (congrArg some (by kernel_rfl))
  f49 := ⟨Tryz.f91.name, by decide, Tryz.func91.trans (congrArg some (by kernel_rfl))⟩
  f50 := ⟨Tryz.f92.name, by decide, Tryz.func92.trans (congrArg some (by kernel_rfl))⟩
  f57 := ⟨Tryz.f94.name, by decide, Tryz.func94.trans (congrArg some (by kernel_rfl))⟩
  t0 := Tryz.underlying0
  a0 := Tryz.isAgg0
  z0 := Tryz.sizeOf0
  v0 := Tryz.zeroValue0
  t3 := Tryz.underlying3
  a3 := Tryz.isAgg3
  z3 := Tryz.sizeOf3
  v3 := Tryz.zeroValue3
  t4 := Tryz.underlying4
  a4 := Tryz.isAgg4
  z4 := Tryz.sizeOf4
  v4 := Tryz.zeroValue4
  t5 := Tryz.underlying5
  a5 := Tryz.isAgg5
  z5 := Tryz.sizeOf5
  v5 := Tryz.zeroValue5
  t9 := Tryz.underlying9
  a9 := Tryz.isAgg9
  z9 := Tryz.sizeOf9
  v9 := Tryz.zeroValue9
  t22 := Tryz.underlying67
  a22 := Tryz.isAgg67
  z22 := Tryz.sizeOf67
  v22 := Tryz.zeroValue67
  t25 := Tryz.underlying92
  a25 := Tryz.isAgg92
  z25 := Tryz.sizeOf92
  v25 := Tryz.zeroValue92
  t39 := Tryz.underlying98
  a39 := Tryz.isAgg98
  z39 := Tryz.sizeOf98
  v39 := Tryz.zeroValue98
  t45 := Tryz.underlying107
  a45 := Tryz.isAgg107
  z45 := Tryz.sizeOf107
  v45 := Tryz.zeroValue107
  t46 := Tryz.underlying108
  a46 := Tryz.isAgg108
  z46 := Tryz.sizeOf108
  v46 := Tryz.zeroValue108
  t50 := Tryz.underlying112
  a50 := Tryz.isAgg112
  z50 := Tryz.sizeOf112
  v50 := Tryz.zeroValue112
  t53 := Tryz.underlying115
  a53 := Tryz.isAgg115
  z53 := Tryz.sizeOf115
  v53 := Tryz.zeroValue115
  t55 := Tryz.underlying25
  a55 := Tryz.isAgg25
  z55 := Tryz.sizeOf25
  v55 := Tryz.zeroValue25
  t66 := Tryz.underlying117
  a66 := Tryz.isAgg117
  z66 := Tryz.sizeOf117
  v66 := Tryz.zeroValue117
  t70 := Tryz.underlying121
  a70 := Tryz.isAgg121
  z70 := Tryz.sizeOf121
  v70 := Tryz.zeroValue121
  t76 := Tryz.underlying124
  a76 := Tryz.isAgg124
  z76 := Tryz.sizeOf124
  v76 := Tryz.zeroValue124
  t77 := Tryz.underlying76
  a77 := Tryz.isAgg76
  z77 := Tryz.sizeOf76
  v77 := Tryz.zeroValue76 }
open Go.RowKit Go.Lib Go.Sort in
/-- **slices.SortFunc AT NO ELEMENT, A nil SLICE TOO: nothing turns.** (LAID AT THE INSTANCE 'slices.SortFunc[[]int,int]': no walk: one application.) -/
theorem Tryz.slices_SortFunc_none {α : Type} [Inhabited α] (p : Option Addr) (cap : Nat) (fv : Value) (w : World) :
    Calls Tryz.prog 47 #[.slice p 0 cap, fv] w fun e w' => e = .returned (.tuple #[]) ∧ w' = w := AnyF.slices_SortFunc_none Tryz.laysSlF06_f47 p cap fv w
end Go.Proofs
end
section
/- ast.grouped's closures, and the order that they sort into. -/
namespace Go.Proofs.YtaaihcojedibeaaGreatDoor.DSort
open Go.RowKit Go.Lib Go.Sort CMem DRow DDeep DSpec DGrp Q Go.Proofs.YtaaihcojedibeaaGreatDoorW.PrintWords Go.Proofs.YtaaihcojedibeaaGreatDoorW.PrintLast Go.Proofs.YtaaihcojedibeaaGreatDoorW.PrintMore
set_option linter.unusedVariables false
set_option linter.unusedSimpArgs false
set_option maxRecDepth 100000
theorem begin_calls (g3 p n c i : Nat) (s : Int) (W : World) (h1 : W.cell? ⟨g3, 0, none⟩ = some (.slice (some ⟨p, 0, none⟩) n c)) (h2 : W.cell? ⟨p, i, none⟩ = some (.int .i64 s)) (hi : i < n) (hs : 0 ≤ s ∧ s ≤ 1000) (hn : n ≤ 1000) :
    Calls Tryz.prog 46 #[.int .i64 (i : Nat), .pointer (some ⟨g3, 0, none⟩)] W fun e w' => e = .returned (.int .i64 ((i : Int) - s + 1)) ∧ w' = W := by
  have hi2 : (i : Int) < (n : Int) := by omega
  go_enter Tryz.func46, Tryz.ntmps46
  go_wp2
  go_ret
  exact ⟨rfl, rfl⟩
/-- how two are compared -/
def cmpi (S : Nat → Int) (x y : Nat) : Int := if ((x : Int) - S x + 1) - ((y : Int) - S y + 1) ≠ 0 then ((x : Int) - S x + 1) - ((y : Int) - S y + 1) else S y - S x
set_option maxHeartbeats 3200000 in
theorem cmp_calls (g3 g8 p n c x y : Nat) (S : Nat → Int) (W : World) (h1 : W.cell? ⟨g3, 0, none⟩ = some (.slice (some ⟨p, 0, none⟩) n c)) (h8 : W.cell? ⟨g8, 0, none⟩ = some (.func (.func 46) #[] #[.pointer (some ⟨g3, 0, none⟩)]))
    (hx : W.cell? ⟨p, x, none⟩ = some (.int .i64 (S x))) (hy : W.cell? ⟨p, y, none⟩ = some (.int .i64 (S y))) (hxn : x < n) (hyn : y < n) (hS : ∀ i, i < n → 0 ≤ S i ∧ S i ≤ 1000) (hn : n ≤ 1000) :
    Calls Tryz.prog 48 #[.int .i64 (x : Nat), .int .i64 (y : Nat), .pointer (some ⟨g8, 0, none⟩), .pointer (some ⟨g3, 0, none⟩)] W fun e w' => e = .returned (.int .i64 (cmpi S x y)) ∧ ∃ q, w' = W.drewN q := by
  have hE : cmpi S x y = if ((x : Int) - S x + 1) - ((y : Int) - S y + 1) ≠ 0 then ((x : Int) - S x + 1) - ((y : Int) - S y + 1) else S y - S x := rfl
  have hx2 : (x : Int) < (n : Int) := by omega
  have hy2 : (y : Int) < (n : Int) := by omega
  have hSx := hS x hxn
  have hSy := hS y hyn
  have KX : ∀ k, Calls Tryz.prog 46 #[.int .i64 (x : Nat), .pointer (some ⟨g3, 0, none⟩)] (W.drewN k) fun e w' => e = .returned (.int .i64 ((x : Int) - S x + 1)) ∧ ∃ m, w' = W.drewN m := fun k => Calls.quiet_of_same (begin_calls g3 p n c x (S x) (W.drewN k) h1 hx hxn hSx hn)
  have KY : ∀ k, Calls Tryz.prog 46 #[.int .i64 (y : Nat), .pointer (some ⟨g3, 0, none⟩)] (W.drewN k) fun e w' => e = .returned (.int .i64 ((y : Int) - S y + 1)) ∧ ∃ m, w' = W.drewN m := fun k => Calls.quiet_of_same (begin_calls g3 p n c y (S y) (W.drewN k) h1 hy hyn hSy hn)
  obtain ⟨bx, hbx⟩ : ∃ z, (x : Int) - S x + 1 = z := ⟨_, rfl⟩
  obtain ⟨by_, hby⟩ : ∃ z, (y : Int) - S y + 1 = z := ⟨_, rfl⟩
  rw [hbx, hby] at hE
  rw [hbx] at KX
  rw [hby] at KY
  have rx : -2000 ≤ bx ∧ bx ≤ 2000 := by omega
  have ry : -2000 ≤ by_ ∧ by_ ≤ 2000 := by omega
  generalize S x = sx at *
  generalize S y = sy at *
  generalize cmpi S x y = R at *
  clear hbx hby hS
  have eg : ∀ args w, (callFunc 46 args).run Tryz.prog w = .ok (.enter 46 args) w := enters_of Tryz.func46 (by kernel_rfl) rfl
  go_enter Tryz.func48, Tryz.ntmps48
  go_wp2
  go_quiet (first | exact KX _ | exact KY _)
  by_cases hd : bx - by_ = 0
  · have d1 : (bx - by_ != 0) = false := by simp [hd]
    rw [if_neg (by omega)] at hE
    clear KX KY hd
    go_wp2
    go_quiet (fail)
    go_wp2
    go_ret
    exact ⟨by rw [hE]; rfl, _, World.drewN_drewN _ _ _⟩
  · have d1 : (bx - by_ != 0) = true := by simp [hd]
    rw [if_pos hd] at hE
    clear KX KY hd
    go_wp2
    go_ret
    exact ⟨by rw [hE]; rfl, _, rfl⟩
theorem cmpi_swo (n : Nat) (S : Nat → Int) : SWO (ltOf fun x y : {i : Nat // i < n} => cmpi S x.1 y.1) where
  irrefl x := by simp [ltOf, cmpi]
  trans x y z h1 h2 := by
    simp only [ltOf, decide_eq_true_eq] at *
    unfold cmpi at *
    split at h1 <;> split at h2 <;> split <;> omega
  ntrans x y z h1 h2 := by
    simp only [ltOf, decide_eq_false_iff_not] at *
    unfold cmpi at *
    split at h1 <;> split at h2 <;> split <;> omega
def encN (n : Nat) (x : {i : Nat // i < n}) : Value := .int .i64 (x.1 : Int)
theorem heap_sortWorld {α : Type} [Inhabited α] (enc : α → Value) (w : World) (blk m : Nat) (d : Array α) (os : Array Obj) (k : Nat) (hk : k ≠ blk) (hl : k < w.heap.size) : (sortWorld enc w blk 0 m d os).heap[k]? = w.heap[k]? := by
  show ((w.heap.modify blk (onCells (putCells enc 0 d))) ++ os)[k]? = _
  rw [Array.getElem?_append_left (by simpa using hl), Array.getElem?_modify, if_neg (fun e => hk e.symm)]
theorem below_sortWorld {α : Type} [Inhabited α] (enc : α → Value) {w0 w : World} {base : Nat} (blk m : Nat) (d : Array α) (os : Array Obj) (hb : Below base w0 w) (hblk : base ≤ blk) (hsz : base ≤ w.heap.size) : Below base w0 (sortWorld enc w blk 0 m d os) :=
  ⟨hb.os, hb.tape, hb.output, Nat.le_trans hb.size (by show _ ≤ ((w.heap.modify blk _) ++ os).size; simp), fun k hk => (heap_sortWorld enc w blk m d os k (by omega) (by omega)).trans (hb.block k hk)⟩
/-- what the sort leaves: the places, in order; all else as it was -/
theorem sort_calls (g3 g8 p n c blk cap base : Nat) (S : Nat → Int) (l : List Nat) (hl : ∀ x, x ∈ l → x < n) (w0 W : World) (h3 : W.cell? ⟨g3, 0, none⟩ = some (.slice (some ⟨p, 0, none⟩) n c)) (h8 : W.cell? ⟨g8, 0, none⟩ = some (.func (.func 46) #[] #[.pointer (some ⟨g3, 0, none⟩)]))
    (hS : ∀ i, i < n → W.cell? ⟨p, i, none⟩ = some (.int .i64 (S i))) (hb : ∀ i, i < n → 0 ≤ S i ∧ S i ≤ 1000) (hn : n ≤ 1000) (n3 : g3 ≠ blk) (n8 : g8 ≠ blk) (np : p ≠ blk) (l3 : g3 < W.heap.size) (l8 : g8 < W.heap.size) (lp : p < W.heap.size) (lb : blk < W.heap.size) (hpos : 0 < l.length) (hlen : l.length ≤ 1000)
    (hrow : ∀ i (h : i < l.length), W.cell? ⟨blk, i, none⟩ = some (.int .i64 ((l[i]'h : Nat) : Int)) ∧ W.frozen? ⟨blk, i, none⟩ = false) (hB : Below base w0 W) (hbase : base ≤ blk) (hbs : base ≤ W.heap.size) :
    Calls Tryz.prog 47 #[.slice (some ⟨blk, 0, none⟩) l.length cap, .func (.func 48) #[] #[.pointer (some ⟨g8, 0, none⟩), .pointer (some ⟨g3, 0, none⟩)]] W fun e w' => e = .returned (.tuple #[]) ∧
      ∃ l' : List Nat, l.Perm l' ∧ (l'.Pairwise fun a b => ¬ cmpi S b a < 0) ∧ (∀ i (h : i < l'.length), w'.cell? ⟨blk, i, none⟩ = some (.int .i64 ((l'[i]'h : Nat) : Int))) ∧ (∀ k, k ≠ blk → k < W.heap.size → w'.heap[k]? = W.heap[k]?) ∧ Below base w0 w' ∧ W.heap.size ≤ w'.heap.size := by
  obtain ⟨z0, hz0⟩ : ∃ z, z ∈ l := List.exists_mem_of_length_pos hpos
  haveI : Inhabited {i : Nat // i < n} := ⟨⟨z0, hl _ hz0⟩⟩
  have eg : ∀ args w, (callFunc 48 args).run Tryz.prog w = .ok (.enter 48 args) w := enters_of Tryz.func48 (by kernel_rfl) rfl
  obtain ⟨d, hd⟩ : ∃ d : Array {i : Nat // i < n}, d = (l.attach.map fun x => (⟨x.1, hl x.1 x.2⟩ : {i : Nat // i < n})).toArray := ⟨_, rfl⟩
  have hds : d.size = l.length := by rw [hd]; simp
  have hdl : d.toList.map (fun x => x.1) = l := by rw [hd]; simp
  have hdi : ∀ i (h : i < l.length), (d[i]!).1 = l[i]'h := by
    intro i h
    rw [getElem!_pos d i (by omega)]
    subst hd
    simp
  have hH : Holds (encN n) W blk 0 d := by
    intro j hj
    have hj' : j < l.length := by omega
    rw [Nat.zero_add]
    refine ⟨?_, (hrow j hj').2⟩
    rw [(hrow j hj').1]
    unfold encN
    rw [hdi j hj']
  have hcmp : CmpLays1 Tryz.prog 48 #[.pointer (some ⟨g8, 0, none⟩), .pointer (some ⟨g3, 0, none⟩)] (encN n) (fun x y => cmpi S x.1 y.1) blk 0 d.size W := by
    intro m os dk hs x y
    have hc : ∀ g i v, g ≠ blk → g < W.heap.size → W.cell? ⟨g, i, none⟩ = some v → (sortWorld (encN n) W blk 0 m dk os).cell? ⟨g, i, none⟩ = some v := by
      intro g i v h1 h2 h3
      rw [← h3]
      unfold World.cell?
      rw [heap_sortWorld (encN n) W blk m dk os g h1 h2]
    refine (cmp_calls g3 g8 p n c x.1 y.1 S _ (hc _ _ _ n3 l3 h3) (hc _ _ _ n8 l8 h8) (hc _ _ _ np lp (hS _ x.2)) (hc _ _ _ np lp (hS _ y.2)) x.2 y.2 hb hn).mono ?_
    rintro e w' ⟨he, q, hw⟩
    exact ⟨he, q, #[], by rw [hw, grow_empty]⟩
  have h := Tryz.slices_SortFunc (encN n) (fun _ => rfl) (fun x y => cmpi S x.1 y.1) (cmpi_swo n S) 48 #[.pointer (some ⟨g8, 0, none⟩), .pointer (some ⟨g3, 0, none⟩)] blk 0 cap d W eg hcmp hH lb (by omega)
  rw [hds] at h
  refine h.mono ?_
  rintro e w' ⟨he, d', m, os, hperm, hsort, rfl⟩
  refine ⟨he, d'.toList.map (fun x => x.1), ?_, ?_, ?_, fun k h1 h2 => heap_sortWorld _ _ _ _ _ _ k h1 h2, below_sortWorld _ blk m d' os hB hbase hbs, ?_⟩
  · have hp := hperm.2.2
    have hs' : d'.size = d.size := hperm.1
    rw [show d'.extract 0 l.length = d' by rw [← hds, ← hs']; exact Array.extract_size, show d.extract 0 l.length = d by rw [← hds]; exact Array.extract_size] at hp
    have := hp.map (fun x => x.1)
    rw [hdl] at this
    exact this.symm
  · rw [List.pairwise_iff_getElem]
    intro i j hi hj hij
    have hi' : i < d'.size := by simpa using hi
    have hj' : j < d'.size := by simpa using hj
    have hs' : d'.size = d.size := hperm.1
    have hx := hsort i j (Nat.zero_le _) hij (by omega)
    rw [getElem!_pos d' i hi', getElem!_pos d' j hj'] at hx
    simp only [List.getElem_map, Array.getElem_toList]
    unfold ltOf at hx
    simpa using hx
  · intro i hi
    have hi' : i < d'.size := by simpa using hi
    have hs' : d'.size = d.size := hperm.1
    have hh := (holds_sortWorld (encN n) W blk 0 m d d' os lb hH hs' i hi').1
    rw [Nat.zero_add] at hh
    rw [hh, getElem!_pos d' i hi']
    simp [encN]
  · show _ ≤ ((W.heap.modify blk _) ++ os).size
    simp
end Go.Proofs.YtaaihcojedibeaaGreatDoor.DSort
end
section
/- ast.sizes, depths, lens: what they answer; slices.Max of depths. -/
namespace Go.Proofs.YtaaihcojedibeaaGreatDoor.DCon
open Go.RowKit CMem DRow DDeep DSizes DFits DLens DSpec DGrp DSort Q Go.Proofs.YtaaihcojedibeaaGreatDoorW.PrintWords Go.Proofs.YtaaihcojedibeaaGreatDoorW.PrintLast Go.Proofs.YtaaihcojedibeaaGreatDoorW.PrintMore
set_option linter.unusedVariables false
set_option linter.unusedSimpArgs false
set_option maxRecDepth 100000
theorem sort_none (p : Option Addr) (cap : Nat) (fv : Value) (w : World) : Calls Tryz.prog 47 #[.slice p 0 cap, fv] w fun e w' => e = .returned (.tuple #[]) ∧ w' = w :=
  AnyF.slices_SortFunc_none { Tryz.laysSlF6_f47 with } p cap fv w
/-- the first node that does not stand in order -/
theorem first_bad (L : List S49) : ∀ n : Nat, ∃ j, j ≤ n ∧ (∀ i, i < j → sz L i ≠ 0) ∧ (j < n → sz L j = 0)
  | 0 => ⟨0, Nat.le_refl _, fun i h => absurd h (Nat.not_lt_zero _), fun h => absurd h (Nat.not_lt_zero _)⟩
  | n + 1 => by
    obtain ⟨j, h1, h2, h3⟩ := first_bad L n
    by_cases e : j < n
    · exact ⟨j, by omega, h2, fun _ => h3 e⟩
    · obtain rfl : j = n := by omega
      by_cases hz : sz L j = 0
      · exact ⟨j, by omega, h2, fun _ => hz⟩
      · refine ⟨j + 1, Nat.le_refl _, fun i hi => ?_, fun h => absurd h (Nat.lt_irrefl _)⟩
        by_cases hi2 : i = j
        · rw [hi2]; exact hz
        · exact h2 i (by omega)
theorem ord_pos {L : List S49} (h : ord L = true) : 0 < L.length := by
  simp only [ord, Bool.and_eq_true, decide_eq_true_eq, beq_iff_eq] at h
  exact h.1
theorem ord_sz {L : List S49} (h : ord L = true) : sz L (L.length - 1) = (L.length : Int) := by
  simp only [ord, Bool.and_eq_true, decide_eq_true_eq, beq_iff_eq] at h
  exact h.2
theorem sizes_calls (A : Option Addr) (c : Nat) (L : List S49) (n : Nat) (hn : L.length = n) (hn2 : n ≤ 1000) (w : World) (hr : Kd.C k49 w A n L) :
    Calls Tryz.prog 43 #[.agg #[.slice A n c]] w fun e w' => (∃ v, e = .returned (.tuple #[v, .bool (ord L)]) ∧ (ord L = true → ∃ p, w.heap.size ≤ p ∧ v = .slice (some ⟨p, 0, none⟩) n n ∧ w'.heap[p]? = some (.cells (ic (sz L) n) 3 (0, 0)))) ∧ Below w.heap.size w w' := by
  obtain ⟨j, hj, h1, h2⟩ := first_bad L n
  have hwf : ∀ i, i < j → Wf L i := fun i hi => sz_wf L i (h1 i hi)
  refine (sizes_walk fit fits_calls A c L n hn hn2 (sz L) j hj (fun i hi => ⟨sz L i, stp_of_wf (hwf i hi), (hwf i hi).1, rfl, wf_pos (hwf i hi), (sz_rng L i).2⟩) (fun h => not_good h1 (h2 h)) w hr).mono ?_
  rintro e w' ⟨h, hb⟩
  refine ⟨?_, hb⟩
  by_cases hjn : j < n
  · rw [if_pos hjn] at h
    have ho : ord L = false := by
      cases hc : ord L
      · rfl
      · exact absurd (h2 hjn) (by have := wf_pos (ord_wf hc j (by omega)); omega)
    rw [ho]
    exact ⟨_, h, fun h => by cases h⟩
  · rw [if_neg hjn] at h
    obtain ⟨p, hp, he, hh⟩ := h
    have ho : (decide (0 < n) && sz L (n - 1) == (n : Int)) = ord L := by unfold ord; rw [hn]
    rw [ho] at he
    exact ⟨_, he, fun _ => ⟨p, hp, rfl, hh⟩⟩
theorem depths_calls (A : Option Addr) (c : Nat) (L : List S49) (n : Nat) (hn : L.length = n) (hn2 : n ≤ 999) (ho : ord L = true) (w : World) (hr : Kd.C k49 w A n L) :
    Calls Tryz.prog 45 #[.agg #[.slice A n c]] w fun e w' => (∃ p, w.heap.size ≤ p ∧ e = .returned (.slice (some ⟨p, 0, none⟩) n n) ∧ w'.heap[p]? = some (.cells (ic (dp L) n) 3 (0, 0))) ∧ Below w.heap.size w w' := by
  have hw := fun i (hi : i < n) => ord_wf ho i (by omega)
  exact depths_walk A c L n hn (by omega) (dp L) (fun i hi => dp_ok L n hw i hi) (fun i hi => by have := dp_rng L n hw i hi; omega) w hr
theorem lens_calls (A : Option Addr) (c : Nat) (L : List S49) (n : Nat) (hn : L.length = n) (hn2 : n ≤ 1000) (ho : ord L = true) (w : World) (hr : Kd.C k49 w A n L) :
    Calls Tryz.prog 30 #[.agg #[.slice A n c]] w fun e w' => (∃ p q, p ≠ q ∧ e = .returned (.tuple #[.slice (some ⟨p, 0, none⟩) n n, .slice (some ⟨q, 0, none⟩) n n]) ∧ w.heap.size ≤ p ∧ w.heap.size ≤ q ∧ w'.heap[p]? = some (.cells (ic (fun m => (ln L m).1) n) 3 (0, 0)) ∧ w'.heap[q]? = some (.cells (ic (fun m => (ln L m).2) n) 3 (0, 0))) ∧ Below w.heap.size w w' := by
  have hw := fun i (hi : i < n) => ord_wf ho i (by omega)
  exact lens_walk A c L n hn hn2 (fun m => (ln L m).1) (fun m => (ln L m).2) (fun i hi => ln_ok L n hw i hi) (fun i hi => (ln_rng L n hw i hi).2) w hr
theorem maxOf_upto (D : Nat → Int) (n : Nat) : ∀ k, 0 < k → k ≤ n → (∀ i, i < k → D i ≤ D (k - 1)) → Lib.maxOf (((List.range n).map D).take k) = D (k - 1) → True := fun _ _ _ _ _ => trivial
theorem maxOf_all (D : Nat → Int) (n : Nat) : ∀ k, 0 < k → k ≤ n → (∀ i, i < k → D i ≤ Lib.maxOf (((List.range n).map D).take k)) ∧ ∃ i, i < k ∧ Lib.maxOf (((List.range n).map D).take k) = D i
  | 0, h, _ => absurd h (Nat.lt_irrefl _)
  | 1, _, h => by
    have h0 : Lib.maxOf (((List.range n).map D).take 1) = D 0 := by
      rw [Lib.maxOf_one]
      simp [List.getD_eq_getElem?_getD, show 0 < n by omega]
    rw [h0]
    refine ⟨fun i hi => ?_, 0, Nat.one_pos, rfl⟩
    obtain rfl : i = 0 := by omega
    exact Int.le_refl _
  | k + 2, _, h => by
    obtain ⟨h1, i, h2, h3⟩ := maxOf_all D n (k + 1) (by omega) (by omega)
    have hs : Lib.maxOf (((List.range n).map D).take (k + 2)) = max (Lib.maxOf (((List.range n).map D).take (k + 1))) (D (k + 1)) := by
      rw [Lib.maxOf_step _ (k + 1) (by omega) (by simp; omega)]
      simp [List.getD_eq_getElem?_getD, show k + 1 < n by omega]
    rw [hs]
    refine ⟨fun m hm => ?_, ?_⟩
    · by_cases e : m < k + 1
      · have := h1 m e; omega
      · obtain rfl : m = k + 1 := by omega
        omega
    · by_cases e : Lib.maxOf (((List.range n).map D).take (k + 1)) ≤ D (k + 1)
      · exact ⟨k + 1, by omega, by omega⟩
      · exact ⟨i, by omega, by omega⟩
theorem max_calls (p n : Nat) (D : Nat → Int) (hn : 0 < n) (hn2 : n ≤ 1000) (hD : ∀ i, i < n → D i ≤ D (n - 1)) (w : World) (h : w.heap[p]? = some (.cells (ic D n) 3 (0, 0))) :
    Calls Tryz.prog 44 #[.slice (some ⟨p, 0, none⟩) n n] w fun e w' => e = .returned (.int .i64 (D (n - 1))) ∧ w' = w := by
  have hm : Lib.maxOf (((List.range n).map D).take n) = D (n - 1) := by
    obtain ⟨h1, i, h2, h3⟩ := maxOf_all D n n hn (Nat.le_refl _)
    have := h1 (n - 1) (by omega)
    have := hD i h2
    omega
  rw [← hm]
  refine Tryz.slices_Max_int p 0 n n ((List.range n).map D) w hn (by simp) (by omega) (fun j hj => ?_)
  have hj2 : j < n := by simpa using hj
  rw [Nat.zero_add, blk_cell h j _ (ic_at D n j hj2)]
  simp [List.getD_eq_getElem?_getD, hj2]
/-- what is wrong with a tree, but its groups, and what is behind -/
def frm (L : List S49) : Int := if ord L = true then (if dp L (L.length - 1) > 40 then 4 else 0) else 3
def dep (L : List S49) : Int := if ord L = true then dp L (L.length - 1) else 0
theorem dp_max {L : List S49} (ho : ord L = true) (i : Nat) (hi : i < L.length) : dp L i ≤ dp L (L.length - 1) := by
  have hw := fun i (hi : i < L.length) => ord_wf ho i hi
  have := ord_sz ho
  have := ord_pos ho
  exact dp_most L L.length hw (L.length - 1) (by omega) i (by omega) (by omega)
set_option maxHeartbeats 6400000 in
theorem formed_calls (A : Option Addr) (c : Nat) (L : List S49) (n : Nat) (hn : L.length = n) (hn2 : n ≤ 500) (w : World) (hr : Kd.C k49 w A n L) :
    Calls Tryz.prog 28 #[.agg #[.slice A n c]] w fun e w' => e = .returned (.int .i64 (frm L)) ∧ Below w.heap.size w w' := by
  obtain ⟨R, hRdef⟩ : ∃ R, frm L = R := ⟨_, rfl⟩
  rw [hRdef]
  have BT := Lib.hid (heap_alloc_new w (.cells #[.slice A n c] 24))
  have HB := Lib.hid (below1 w (.cells #[.slice A n c] 24))
  have HR := Lib.hid (Kd.C_below hr HB.out)
  have t0 := blk_cell BT.out 0 (.slice A n c) rfl
  have hgt : decide ((n : Int) > 500) = false := by simp; omega
  clear hr
  go_enter Tryz.func28, Tryz.ntmps28
  go_wp2_with fail
  generalize hW : w.alloc (.cells #[.slice A n c] 24) = v0 at *
  clear hW
  refine (sizes_calls A c L n hn (by omega) v0 HR.out).mono ?_
  rintro e w1 ⟨⟨v, rfl, hv⟩, hb⟩
  have BT1 := Lib.hid (below_blk hb BT.out)
  have HR1 := Lib.hid (Kd.C_below HR.out hb)
  have HB1 := Lib.hid (below_step HB.out hb)
  have t1 := blk_cell BT1.out 0 (.slice A n c) rfl
  clear hb BT HB HR t0 hv
  cases ho : ord L
  · obtain rfl : R = 3 := by rw [← hRdef]; unfold frm; rw [ho]; rfl
    clear hRdef
    go_wp2
    go_ret
    exact ⟨rfl, HB1.out⟩
  · have hpos := ord_pos ho
    have K2 := Lib.hid (fun W h => depths_calls A c L n hn (by omega) ho W h)
    have KM := Lib.hid (fun p W h => max_calls p n (dp L) (by omega) (by omega) (fun i hi => by have := dp_max ho i (by omega); rw [hn] at this; exact this) W h)
    have hf : R = if dp L (n - 1) > 40 then 4 else 0 := by rw [← hRdef]; unfold frm; rw [if_pos ho, hn]
    clear hRdef
    generalize dp L (n - 1) = M at *
    go_wp2_with fail
    refine (K2.out _ HR1.out).mono ?_
    rintro e w2 ⟨⟨p, hp, rfl, hh⟩, hb⟩
    have HB2 := Lib.hid (below_step HB1.out hb)
    have KM2 := Lib.hid (KM.out p w2 hh)
    clear hb BT1 HR1 HB1 t1 hh
    go_wp2_with fail
    refine KM2.out.mono ?_
    rintro e w3 ⟨rfl, rfl⟩
    by_cases hM : M > 40
    · have d1 : decide (M > 40) = true := by simp [hM]
      rw [if_pos hM] at hf
      subst hf
      go_wp2
      go_ret
      exact ⟨rfl, HB2.out⟩
    · have d1 : decide (M > 40) = false := by simp [hM]
      rw [if_neg hM] at hf
      subst hf
      go_wp2
      go_ret
      exact ⟨rfl, HB2.out⟩
end Go.Proofs.YtaaihcojedibeaaGreatDoor.DCon
end
section
/- slices.ContainsFunc at nodes, with grouped's closure: their walks. -/
namespace Go.Proofs.YtaaihcojedibeaaGreatDoor.DOdd
open Go.RowKit CMem DRow DDeep DSizes Q Go.Proofs.YtaaihcojedibeaaGreatDoorW.PrintWords Go.Proofs.YtaaihcojedibeaaGreatDoorW.PrintLast Go.Proofs.YtaaihcojedibeaaGreatDoorW.PrintMore
set_option linter.unusedVariables false
set_option linter.unusedSimpArgs false
set_option maxRecDepth 100000
def oddb (k : Nat) (x : S49) : Bool := x.f0 == 12 && (decide (x.f7 < 1) || decide (x.f7 > (k : Int)))
set_option maxHeartbeats 6400000 in
theorem odd_calls (g5 k cap : Nat) (A : Option Addr) (x : S49) (w : World) (h5 : w.cell? ⟨g5, 0, none⟩ = some (.slice A k cap)) :
    Calls Tryz.prog 49 #[.agg (nc x), .pointer (some ⟨g5, 0, none⟩)] w fun e w' => e = .returned (.bool (oddb k x)) ∧ Below w.heap.size w w' := by
  obtain ⟨xk, xa, xb, ⟨⟨s0, s1, s2, s3⟩⟩, x4, x5, x6, x7, x8⟩ := x
  have hlt := World.block_lt_of_cell? w _ h5
  unfold nc
  simp only []
  have HB := Lib.hid (below1 w (.cells #[.int .i64 xk, .int .i64 xa, .int .i64 xb, .int .u64 s0, .int .u64 s1, .int .u64 s2, .int .u64 s3, .int .i64 x4, .int .i64 x5, .int .i64 x6, .int .i64 x7, .bool x8] 49))
  have BN := heap_alloc_new w (.cells #[.int .i64 xk, .int .i64 xa, .int .i64 xb, .int .u64 s0, .int .u64 s1, .int .u64 s2, .int .u64 s3, .int .i64 x4, .int .i64 x5, .int .i64 x6, .int .i64 x7, .bool x8] 49)
  have n0 := blk_cell BN 0 (.int .i64 xk) rfl
  have n7 := blk_cell BN 10 (.int .i64 x7) rfl
  have g0 := below_of HB.out h5
  clear BN hlt h5
  by_cases h12 : xk = 12
  · subst h12
    by_cases h1 : x7 < 1
    · have d1 : decide (x7 < 1) = true := by simp [h1]
      have hr : oddb k ⟨12, xa, xb, ⟨⟨s0, s1, s2, s3⟩⟩, x4, x5, x6, x7, x8⟩ = true := by unfold oddb; simp [h1]
      rw [hr]
      clear hr
      go_enter Tryz.func49, Tryz.ntmps49
      go_wp2
      all_goals go_ret
      all_goals exact ⟨rfl, by first | exact HB.out | exact HB.out.drew | exact below_drewN HB.out _⟩
    · have d1 : decide (x7 < 1) = false := by simp [h1]
      have hr : oddb k ⟨12, xa, xb, ⟨⟨s0, s1, s2, s3⟩⟩, x4, x5, x6, x7, x8⟩ = decide (x7 > (k : Int)) := by unfold oddb; simp [h1]
      rw [hr]
      clear hr
      go_enter Tryz.func49, Tryz.ntmps49
      go_wp2
      all_goals go_ret
      all_goals exact ⟨by first | rfl | simp_all, by first | exact HB.out | exact HB.out.drew | exact below_drewN HB.out _⟩
  · have d1 : (xk == 12) = false := by simp [h12]
    have hr : oddb k ⟨xk, xa, xb, ⟨⟨s0, s1, s2, s3⟩⟩, x4, x5, x6, x7, x8⟩ = false := by unfold oddb; simp [h12]
    rw [hr]
    clear hr
    go_enter Tryz.func49, Tryz.ntmps49
    go_wp2
    all_goals go_ret
    all_goals exact ⟨rfl, by first | exact HB.out | exact HB.out.drew | exact below_drewN HB.out _⟩
set_option maxHeartbeats 6400000 in
theorem index_calls (g5 k cap : Nat) (A : Option Addr) (B : Option Addr) (c : Nat) (L : List S49) (n : Nat) (hn : L.length = n) (hn2 : n ≤ 1000) (w : World) (h5 : w.cell? ⟨g5, 0, none⟩ = some (.slice A k cap)) (hr : Kd.C k49 w B n L) :
    Calls Tryz.prog 70 #[.slice B n c, .func (.func 49) #[] #[.pointer (some ⟨g5, 0, none⟩)]] w fun e w' => (∃ r : Int, e = .returned (.int .i64 r) ∧ decide (r ≥ 0) = L.any (oddb k)) ∧ Below w.heap.size w w' := by
  have eg : ∀ args w, (callFunc 49 args).run Tryz.prog w = .ok (.enter 49 args) w := enters_of Tryz.func49 (by kernel_rfl) rfl
  have HR := Lib.hid hr
  have KO := Lib.hid (fun x W h => odd_calls g5 k cap A x W h)
  have H5 := Lib.hid h5
  have HB := Lib.hid (Below.refl w.heap.size w)
  clear hr h5
  go_enter Tryz.func70, Tryz.ntmps70
  go_wp2
  go_loopw [8] (fun t wr => ∃ i : Nat, i ≤ n ∧ t = .int .i64 (i : Nat) ∧ Hid (∀ j, j < i → oddb k (rd_T49 L j) = false) ∧ Hid (Below w.heap.size w wr)) (fun t _ => n - (intOf t).toNat)
  case atStart => exact ⟨0, Nat.zero_le _, rfl, Lib.hid (fun j h => absurd h (Nat.not_lt_zero _)), HB⟩
  case round =>
    clear HB
    obtain ⟨i, hi, rfl, HJ, HB⟩ := hrel
    by_cases h : i < n
    · obtain ⟨ad, hA, a0, a1, a2, a3, a4, a5, a6, a7, a8, a9, a10, a11⟩ := at_T49 HR.out (i : Int) (by omega) (by omega)
      subst hA
      rw [Int.toNat_natCast] at a0 a1 a2 a3 a4 a5 a6 a7 a8 a9 a10 a11
      have hi2 : (i : Int) < (n : Int) := by omega
      replace a0 := below_of HB.out a0
      replace a1 := below_of HB.out a1
      replace a2 := below_of HB.out a2
      replace a3 := below_of HB.out a3
      replace a4 := below_of HB.out a4
      replace a5 := below_of HB.out a5
      replace a6 := below_of HB.out a6
      replace a7 := below_of HB.out a7
      replace a8 := below_of HB.out a8
      replace a9 := below_of HB.out a9
      replace a10 := below_of HB.out a10
      replace a11 := below_of HB.out a11
      have K1 := Lib.hid (KO.out (rd_T49 L i) wr (below_of HB.out H5.out))
      have hsome : ∀ b, oddb k (rd_T49 L i) = b → b = true → L.any (oddb k) = true := by
        rintro b rfl hb
        refine List.any_eq_true.2 ⟨rd_T49 L i, ?_, hb⟩
        unfold rd_T49
        rw [Int.toNat_natCast, List.getD_eq_getElem?_getD, List.getElem?_eq_getElem (by omega)]
        exact List.getElem_mem _
      have HS := Lib.hid hsome
      have HJ2 : Hid (∀ b, oddb k (rd_T49 L i) = b → b = false → ∀ j, j < i + 1 → oddb k (rd_T49 L j) = false) := Lib.hid (by
        rintro b rfl hb j hj
        by_cases e : j = i
        · rw [e]; exact hb
        · exact HJ.out j (by omega))
      clear hsome HJ
      obtain ⟨b, hb0⟩ : ∃ b, oddb k (rd_T49 L i) = b := ⟨_, rfl⟩
      have HS := HS.out b hb0
      have HJ2 := Lib.hid (HJ2.out b hb0)
      rw [hb0] at K1
      clear hb0
      generalize rd_T49 L i = x at *
      obtain ⟨xk, xa, xb, ⟨⟨s0, s1, s2, s3⟩⟩, x4, x5, x6, x7, x8⟩ := x
      simp only [nc] at a0 a1 a2 a3 a4 a5 a6 a7 a8 a9 a10 a11 K1
      go_wp2_with fail
      refine K1.out.mono ?_
      rintro e w3 ⟨rfl, hb⟩
      have HB2 := Lib.hid (below_step HB.out hb)
      clear hb K1 a0 a1 a2 a3 a4 a5 a6 a7 a8 a9 a10 a11 HB
      cases b
      · have HJ3 := Lib.hid (HJ2.out rfl)
        clear HJ2 HS
        go_wp2
        go_roundw
        case rel => exact ⟨i + 1, by omega, by simp, HJ3, HB2⟩
        case measure => simp [intOf]; omega
      · have hs := HS rfl
        clear HJ2 HS
        go_wp2
        go_ret
        exact ⟨⟨(i : Int), rfl, by rw [hs]; simp⟩, HB2.out⟩
    · obtain rfl : i = n := by omega
      have hi2 : ¬ ((i : Int) < (i : Int)) := by omega
      go_wp2
      go_ret
      refine ⟨⟨-1, rfl, ?_⟩, HB.out⟩
      rw [List.any_eq_false.2 ?_]
      · rfl
      · intro x hx
        obtain ⟨j, hj, rfl⟩ := List.getElem_of_mem hx
        have := HJ.out j (by omega)
        unfold rd_T49 at this
        rw [Int.toNat_natCast, List.getD_eq_getElem?_getD, List.getElem?_eq_getElem hj] at this
        simpa using this
theorem contains_calls (g5 k cap : Nat) (A : Option Addr) (B : Option Addr) (c : Nat) (L : List S49) (n : Nat) (hn : L.length = n) (hn2 : n ≤ 1000) (w : World) (h5 : w.cell? ⟨g5, 0, none⟩ = some (.slice A k cap)) (hr : Kd.C k49 w B n L) :
    Calls Tryz.prog 50 #[.slice B n c, .func (.func 49) #[] #[.pointer (some ⟨g5, 0, none⟩)]] w fun e w' => e = .returned (.bool (L.any (oddb k))) ∧ Below w.heap.size w w' := by
  have KI := Lib.hid (index_calls g5 k cap A B c L n hn hn2 w h5 hr)
  generalize L.any (oddb k) = b at *
  go_enter Tryz.func50, Tryz.ntmps50
  go_wp2_with fail
  refine KI.out.mono ?_
  rintro e w3 ⟨⟨r, rfl, hb0⟩, hb⟩
  have HB2 := Lib.hid hb
  clear hb KI
  go_wp2
  go_ret
  exact ⟨rfl, HB2.out⟩
end Go.Proofs.YtaaihcojedibeaaGreatDoor.DOdd
end
section
/- ast.grouped: its walk. -/
namespace Go.Proofs.YtaaihcojedibeaaGreatDoor.DGrouped
open Go.RowKit CMem DRow DDeep DSizes DFits DLens DSpec DGrp DSort DCon DOdd DWrap Q Go.Proofs.YtaaihcojedibeaaGreatDoorW.PrintWords Go.Proofs.YtaaihcojedibeaaGreatDoorW.PrintLast Go.Proofs.YtaaihcojedibeaaGreatDoorW.PrintMore
set_option linter.unusedVariables false
set_option linter.unusedSimpArgs false
set_option maxRecDepth 100000
/-- groups are numbered as they begin, and what is asked for is one -/
def grp (L : List S49) : Bool :=
  (List.range (gi L (L.length - 1)).length).all (fun k => (rd_T49 L ((gi L (L.length - 1)).getD k 0 : Nat)).f7 == (k : Int) + 1) && (decide ((gi L (L.length - 1)).length ≤ 9) && !L.any (oddb (gi L (L.length - 1)).length))
/-- the first groups, as cells -/
def gc (L : List S49) (i : Nat) : List Value := ((List.range i).filter fun j : Nat => (rd_T49 L (j : Nat)).f0 == 11).map fun j : Nat => .int .i64 (j : Int)
theorem gc_succ (L : List S49) (i : Nat) (h : (rd_T49 L i).f0 = 11) : gc L (i + 1) = gc L i ++ [.int .i64 (i : Int)] := by
  unfold gc
  rw [List.range_succ, List.filter_append, List.map_append]
  simp [h]
theorem gc_skip (L : List S49) (i : Nat) (h : (rd_T49 L i).f0 ≠ 11) : gc L (i + 1) = gc L i := by
  unfold gc
  rw [List.range_succ, List.filter_append, List.map_append]
  simp [h]
theorem gc_len (L : List S49) (i : Nat) : (gc L i).length ≤ i := by
  unfold gc
  rw [List.length_map]
  exact Nat.le_trans (List.length_filter_le _ _) (by simp)
theorem gc_all (L : List S49) : gc L L.length = (gall L).map fun j : Nat => .int .i64 (j : Int) := rfl
theorem gc_gi {L : List S49} (ho : ord L = true) : (gc L L.length).length = (gi L (L.length - 1)).length := by
  rw [gc_all, List.length_map]
  exact (gall_perm ho).length_eq
theorem sorted_calls (L : List S49) (ho : ord L = true) (n : Nat) (hn : L.length = n) (hn2 : n ≤ 500) (w0 W : World) (base PS p g8 cv : Nat) (Av : Option Addr) (HB : Below base w0 W) (hbs : base ≤ W.heap.size)
    (h3 : W.heap[PS]? = some (.cells #[.slice (some ⟨p, 0, none⟩) n n] 67 (0, 0))) (h8 : W.heap[g8]? = some (.cells #[.func (.func 46) #[] #[.pointer (some ⟨PS, 0, none⟩)]] 81 (0, 0))) (hp : W.heap[p]? = some (.cells (ic (sz L) n) 3 (0, 0)))
    (OW : W.ownsRow base 3 1 (.slice Av (gc L n).length cv) (gc L n).length (gc L n)) (hne : ∀ k, (Value.slice Av (gc L n).length cv).ownBlock = some k → k ≠ PS ∧ k ≠ g8 ∧ k ≠ p) :
    Calls Tryz.prog 47 #[.slice Av (gc L n).length cv, .func (.func 48) #[] #[.pointer (some ⟨g8, 0, none⟩), .pointer (some ⟨PS, 0, none⟩)]] W fun e w' => e = .returned (.tuple #[]) ∧
      (∀ (j x : Nat), (gi L (n - 1))[j]? = some x → ∃ gb, Av = some ⟨gb, 0, none⟩ ∧ w'.cell? ⟨gb, j, none⟩ = some (.int .i64 (x : Int))) ∧ (∀ k, (∀ b, (Value.slice Av (gc L n).length cv).ownBlock = some b → k ≠ b) → k < W.heap.size → w'.heap[k]? = W.heap[k]?) ∧ W.heap.size ≤ w'.heap.size ∧ Below base w0 w' := by
  subst hn
  have hw := fun i (hi : i < L.length) => ord_wf ho i hi
  rcases Nat.eq_zero_or_pos (gc L L.length).length with h0 | h0
  · rw [h0]
    refine (sort_none Av cv _ W).mono ?_
    rintro e w' ⟨rfl, rfl⟩
    refine ⟨rfl, fun j x hx => ?_, fun k _ _ => rfl, Nat.le_refl _, HB⟩
    rw [gc_gi ho] at h0
    rw [List.length_eq_zero_iff.1 h0] at hx
    simp at hx
  · rcases OW.2 with ⟨h1, h2⟩ | ⟨gb, cap, cur, hv, hg, hh, hc1, hc2, hc3, hc4⟩
    · omega
    · obtain ⟨rfl, rfl⟩ : Av = some ⟨gb, 0, none⟩ ∧ cv = cap := by
        injection hv with e1 e2 e3
        exact ⟨e1, e3⟩
      obtain ⟨n1, n2, n3⟩ := hne gb (by simp [Value.ownBlock])
      have hl : (gc L L.length).length = (gall L).length := by rw [gc_all, List.length_map]
      have hmem : ∀ x, x ∈ gall L → x < L.length := by
        intro x hx
        unfold gall at hx
        exact List.mem_range.1 (List.mem_filter.1 hx).1
      have hrow : ∀ i (h : i < (gall L).length), W.cell? ⟨gb, i, none⟩ = some (.int .i64 (((gall L)[i]'h : Nat) : Int)) ∧ W.frozen? ⟨gb, i, none⟩ = false := by
        intro i h
        refine ⟨blk_cell hh i _ ?_, blk_free hh i⟩
        have e := congrArg (fun l => l[i]?) hc4
        simp only [Nat.mul_one, List.getElem?_take] at e
        rw [if_pos (by omega), Array.getElem?_toList, gc_all, List.getElem?_map, List.getElem?_eq_getElem h] at e
        rw [e]; rfl
      have hk := sort_calls PS g8 p L.length L.length gb cv base (sz L) (gall L) hmem w0 W (blk_cell h3 0 _ rfl) (blk_cell h8 0 _ rfl) (fun i hi => blk_cell hp i _ (ic_at _ _ _ hi)) (fun i hi => by have := sz_rng L i; omega) (by omega) (fun e => n1 e.symm) (fun e => n2 e.symm) (fun e => n3 e.symm) (lt_of_blk h3) (lt_of_blk h8) (lt_of_blk hp) (lt_of_blk hh) (by omega) (by have := gc_len L L.length; omega) hrow HB hg hbs
      rw [hl]
      refine hk.mono ?_
      rintro e w' ⟨he, l', hperm, hsort, hcell, hkeep, hB, hsz⟩
      have hl' : l' = gi L (L.length - 1) := by
        refine sorted_uniq ho l' hperm (hsort.imp fun {a b} hab hlt => hab ?_)
        unfold glt at hlt
        unfold cmpi
        split <;> omega
      subst hl'
      refine ⟨he, fun j x hx => ⟨gb, rfl, ?_⟩, fun k hk1 hk2 => hkeep k (fun e => hk1 gb (by simp [Value.ownBlock]) e) hk2, hsz, hB⟩
      obtain ⟨hj, hxe⟩ := List.getElem?_eq_some_iff.1 hx
      rw [hcell j hj, hxe]
theorem store_new1 (W : World) (v o : Value) (h1 : v.oneCell' = true) (t : TypeId) : (store ⟨W.heap.size, 0, none⟩ v).run Tryz.prog (W.alloc (.cells #[o] t)) = .ok () (W.alloc (.cells #[v] t)) := by
  have h := run_storeCells_at Tryz.prog W.heap.size 0 t [v] 0 #[o] (W.alloc (.cells #[o] t)) (heap_alloc_new _ _) (by simp) (fun u hu => by rw [List.mem_singleton.1 hu]; exact h1)
  have hadd : (⟨W.heap.size, 0, none⟩ : Addr).add 0 = ⟨W.heap.size, 0, none⟩ := by unfold Addr.add; split <;> simp_all
  rw [alloc_setRow] at h
  simp only [storeCells, hadd, Sem.run_bind] at h
  cases hs : (store ⟨W.heap.size, 0, none⟩ v).run Tryz.prog (W.alloc (.cells #[o] t)) with
  | ok a w' => rw [hs] at h; simpa using h
  | halt a w' => rw [hs] at h; simp at h
set_option maxHeartbeats 12800000 in
theorem grouped_calls (A : Option Addr) (c : Nat) (L : List S49) (n : Nat) (hn : L.length = n) (hn2 : n ≤ 500) (ho : ord L = true) (w : World) (hr : Kd.C k49 w A n L) :
    Calls Tryz.prog 29 #[.agg #[.slice A n c]] w fun e w' => e = .returned (.bool (grp L)) ∧ Below w.heap.size w w' := by
  obtain ⟨R, hRdef⟩ : ∃ R, grp L = R := ⟨_, rfl⟩
  rw [hRdef]
  have HRD := Lib.hid hRdef
  have BT := Lib.hid (heap_alloc_new w (.cells #[.slice A n c] 24))
  have HB := Lib.hid (below1 w (.cells #[.slice A n c] 24))
  have HC := Lib.hid (fun W h => Kd.C_below (w1 := W) hr h)
  have t0 := blk_cell BT.out 0 (.slice A n c) rfl
  clear hr hRdef
  go_enter Tryz.func29, Tryz.ntmps29
  go_wp2_with fail
  generalize hW : w.alloc (.cells #[.slice A n c] 24) = v0 at *
  clear hW
  refine (sizes_calls A c L n hn (by omega) v0 (HC.out _ HB.out)).mono ?_
  rw [ho]
  rintro e w1 ⟨⟨v, rfl, hv⟩, hb⟩
  obtain ⟨p, hp, rfl, hh⟩ := hv rfl
  have hB1 := below_step HB.out hb
  have hp0 : w.heap.size ≤ p := Nat.le_trans HB.out.size hp
  have hlt := lt_of_blk hh
  have P1 := Lib.hid (blk_alloc (blk_alloc hh (.cells #[.slice (some ⟨p, 0, none⟩) n n] 67)) (.cells #[.slice none 0 0] 67))
  have T1 := Lib.hid (blk_alloc (blk_alloc (below_blk hb BT.out) (.cells #[.slice (some ⟨p, 0, none⟩) n n] 67)) (.cells #[.slice none 0 0] 67))
  have S1 := Lib.hid (blk_alloc (heap_alloc_new w1 (.cells #[.slice (some ⟨p, 0, none⟩) n n] 67)) (.cells #[.slice none 0 0] 67))
  have O1 := Lib.hid (blk2 w1 (.cells #[.slice (some ⟨p, 0, none⟩) n n] 67) #[.slice none 0 0] 67)
  have HB1 := Lib.hid ((hB1.alloc hB1.size (.cells #[.slice (some ⟨p, 0, none⟩) n n] 67)).alloc (Nat.le_trans hB1.size (by simp)) (.cells #[.slice none 0 0] 67))
  have hsz := hB1.size
  have tt := blk_cell T1.out 0 (.slice A n c) rfl
  clear hv hb BT HB t0 hh hB1
  go_wp2
  have lp : p < w1.heap.size := hlt
  generalize hW : (w1.alloc (.cells #[.slice (some ⟨p, 0, none⟩) n n] 67)).alloc (.cells #[.slice none 0 0] 67) = v2 at *
  clear hW
  generalize w1.heap.size = PS at *
  have HR2 := Lib.hid (HC.out _ HB1.out)
  go_loopw [20] (fun t wr => ∃ (i : Nat) (Av : Option Addr) (cv : Nat), i ≤ n ∧ t = .int .i64 (i : Nat) ∧ Hid (wr.heap[PS + 1]? = some (.cells #[.slice Av (gc L i).length cv] 67 (0, 0))) ∧ Hid (wr.ownsRow w.heap.size 3 1 (.slice Av (gc L i).length cv) (gc L i).length (gc L i)) ∧ Hid (∀ k, (Value.slice Av (gc L i).length cv).ownBlock = some k → PS + 1 < k) ∧ Hid (wr.heap[PS]? = some (.cells #[.slice (some ⟨p, 0, none⟩) n n] 67 (0, 0))) ∧ Hid (wr.heap[p]? = some (.cells (ic (sz L) n) 3 (0, 0))) ∧ Hid (wr.heap[w.heap.size]? = some (.cells #[.slice A n c] 24 (0, 0))) ∧ Hid (Below w.heap.size w wr)) (fun t _ => n - (intOf t).toNat)
  case atStart => exact ⟨0, none, 0, Nat.zero_le _, rfl, O1, Lib.hid ⟨rfl, .inl ⟨rfl, rfl⟩⟩, Lib.hid (fun k h => by simp [Value.ownBlock] at h), S1, P1, T1, HB1⟩
  case round =>
    clear P1 T1 S1 O1 HB1 HR2 tt
    obtain ⟨i, Av, cv, hi, rfl, OO, OW, ON, SO, PO, TO, HB⟩ := hrel
    by_cases h : i < n
    · obtain ⟨ad, hA, a0, a1, a2, a3, a4, a5, a6, a7, a8, a9, a10, a11⟩ := at_T49 (HC.out _ HB.out) (i : Int) (by omega) (by omega)
      subst hA
      rw [Int.toNat_natCast] at a0 a1 a2 a3 a4 a5 a6 a7 a8 a9 a10 a11
      have hi2 : (i : Int) < (n : Int) := by omega
      have G1 := Lib.hid (gc_succ L i)
      have G2 := Lib.hid (gc_skip L i)
      have hgl := gc_len L i
      generalize gc L i = XS at *
      obtain ⟨YS, hYS⟩ : ∃ Y, gc L (i + 1) = Y := ⟨_, rfl⟩
      rw [hYS] at G1 G2
      have HYS := Lib.hid hYS
      clear hYS
      generalize rd_T49 L i = x at *
      obtain ⟨xk, xa, xb, ⟨⟨s0, s1, s2, s3⟩⟩, x4, x5, x6, x7, x8⟩ := x
      simp only [] at a0 a1 a2 a3 a4 a5 a6 a7 a8 a9 a10 a11
      have BO := Lib.hid (blk_alloc OO.out (.cells #[.int .i64 xk, .int .i64 xa, .int .i64 xb, .int .u64 s0, .int .u64 s1, .int .u64 s2, .int .u64 s3, .int .i64 x4, .int .i64 x5, .int .i64 x6, .int .i64 x7, .bool x8] 49))
      have BS := Lib.hid (blk_alloc SO.out (.cells #[.int .i64 xk, .int .i64 xa, .int .i64 xb, .int .u64 s0, .int .u64 s1, .int .u64 s2, .int .u64 s3, .int .i64 x4, .int .i64 x5, .int .i64 x6, .int .i64 x7, .bool x8] 49))
      have BP := Lib.hid (blk_alloc PO.out (.cells #[.int .i64 xk, .int .i64 xa, .int .i64 xb, .int .u64 s0, .int .u64 s1, .int .u64 s2, .int .u64 s3, .int .i64 x4, .int .i64 x5, .int .i64 x6, .int .i64 x7, .bool x8] 49))
      have BT := Lib.hid (blk_alloc TO.out (.cells #[.int .i64 xk, .int .i64 xa, .int .i64 xb, .int .u64 s0, .int .u64 s1, .int .u64 s2, .int .u64 s3, .int .i64 x4, .int .i64 x5, .int .i64 x6, .int .i64 x7, .bool x8] 49))
      have BN := Lib.hid (heap_alloc_new wr (.cells #[.int .i64 xk, .int .i64 xa, .int .i64 xb, .int .u64 s0, .int .u64 s1, .int .u64 s2, .int .u64 s3, .int .i64 x4, .int .i64 x5, .int .i64 x6, .int .i64 x7, .bool x8] 49))
      have HB1 := Lib.hid (HB.out.alloc HB.out.size (.cells #[.int .i64 xk, .int .i64 xa, .int .i64 xb, .int .u64 s0, .int .u64 s1, .int .u64 s2, .int .u64 s3, .int .i64 x4, .int .i64 x5, .int .i64 x6, .int .i64 x7, .bool x8] 49))
      have BW := Lib.hid (OW.out.alloc (.cells #[.int .i64 xk, .int .i64 xa, .int .i64 xb, .int .u64 s0, .int .u64 s1, .int .u64 s2, .int .u64 s3, .int .i64 x4, .int .i64 x5, .int .i64 x6, .int .i64 x7, .bool x8] 49))
      have LQ := Lib.hid (lt_of_blk OO.out)
      have b0 := blk_cell BO.out 0 _ rfl
      have f0 := blk_free BO.out 0
      simp only [List.getElem_toArray, List.getElem_cons_zero] at b0
      clear HB OO SO PO TO OW
      by_cases h11 : xk = 11
      · subst h11
        have hY := G1.out rfl
        clear G1 G2
        go_wp2_with ((with_reducible show wpList _ _ _ (⟨some 31, _, _, _, _, _⟩ :: _) _ _); refine hold ?_)
        refine Lib.hid ?_
        generalize hWn : wr.alloc (.cells #[.int .i64 11, .int .i64 xa, .int .i64 xb, .int .u64 s0, .int .u64 s1, .int .u64 s2, .int .u64 s3, .int .i64 x4, .int .i64 x5, .int .i64 x6, .int .i64 x7, .bool x8] 49) = v3 at *
        have hsz3 : v3.heap.size = wr.heap.size + 1 := by rw [← hWn]; simp
        have lq := LQ.out
        clear hWn a0 a1 a2 a3 a4 a5 a6 a7 a8 a9 a10 a11 BN LQ
        refine print_append_cells w.heap.size rfl (.tmp 28) (.tmp 30) 67 3 (.int .i64 0) 1 8 rfl Tryz.underlying67 info3 rfl (by decide) (by decide) (.slice Av XS.length cv) XS.length XS [.int .i64 (i : Int)] rfl ?_ rfl (fun u hu => ?_) BW.out HB1.out HB1.out.size (by omega) ?_
        · rw [hsz3]; rfl
        · rw [List.mem_singleton.1 hu]; rfl
        intro v4 w4 hown hb hg hat
        rw [← hY] at hown
        have hYl : YS.length = XS.length + 1 := by rw [hY]; simp
        rw [← hYl] at hown
        obtain ⟨A4, c4, rfl⟩ : ∃ A4 c4, v4 = .slice A4 YS.length c4 := by
          rcases hown.2 with ⟨rfl, h0⟩ | ⟨g, cap, cur, rfl, _⟩
          · omega
          · exact ⟨_, _, rfl⟩
        have hon : ∀ k, (Value.slice A4 YS.length c4).ownBlock = some k → PS + 1 < k := by
          intro k hk
          rcases hat with h1 | ⟨b, h1, hle⟩
          · rw [h1] at hk; exact ON.out k hk
          · rw [h1] at hk
            obtain rfl := Option.some.inj hk
            omega
        have hne : ∀ k, k ≤ PS + 1 → some k ≠ (Value.slice Av XS.length cv).ownBlock := fun k hk e => by have := ON.out k e.symm; omega
        have O5 := (hg.block (PS + 1) (by omega) (hne _ (Nat.le_refl _))).trans BO.out
        have S5 := (hg.block PS (by omega) (hne _ (by omega))).trans BS.out
        have P5 := (hg.block p (by omega) (hne _ (by omega))).trans BP.out
        have T5 := (hg.block w.heap.size (by omega) (hne _ (by omega))).trans BT.out
        have OO := Lib.hid (set_blk (i := 0) O5 (.slice A4 YS.length c4))
        have SO := Lib.hid (set_other (c := PS + 1) (i := 0) (v := .slice A4 YS.length c4) S5 (by omega))
        have PO := Lib.hid (set_other (c := PS + 1) (i := 0) (v := .slice A4 YS.length c4) P5 (by omega))
        have TO := Lib.hid (set_other (c := PS + 1) (i := 0) (v := .slice A4 YS.length c4) T5 (by omega))
        have HB2 := Lib.hid (below_set (b := PS + 1) (i := 0) hb (by omega) (.slice A4 YS.length c4))
        have OW2 := Lib.hid (own_move (w1 := w4.setCell ⟨PS + 1, 0, none⟩ (.slice A4 YS.length c4)) hown (fun j hj => Below.heap_setCell w4 ⟨PS + 1, 0, none⟩ _ j (by have := hon j hj; show j ≠ PS + 1; omega)))
        have ON2 := Lib.hid hon
        have q0 := blk_cell O5 0 (.slice Av XS.length cv) rfl
        have q1 := blk_free O5 0
        clear hown hb hg hat hon hne O5 S5 P5 T5 BO BS BP BT BW HB1 ON b0 f0 hY hYl hsz3 lq
        go_wp2
        go_roundw
        case rel => refine ⟨i + 1, A4, c4, by omega, by simp, ?_⟩; rw [HYS.out]; exact ⟨OO, OW2, ON2, SO, PO, TO, HB2⟩
        case measure => simp [intOf]; omega
      · have hY := G2.out h11
        have d1 : (xk == 11) = false := by simp [h11]
        subst hY
        clear G1 G2 h11
        go_wp2
        go_roundw
        case rel => refine ⟨i + 1, Av, cv, by omega, by simp, ?_⟩; rw [HYS.out]; exact ⟨BO, BW, ON, BS, BP, BT, HB1⟩
        case measure => simp [intOf]; omega
    · obtain rfl : i = n := by omega
      have hi2 : ¬ ((i : Int) < (i : Int)) := by omega
      have BO := Lib.hid (blk_alloc OO.out (.cells #[.func (.func 46) #[] #[.pointer (some ⟨PS, 0, none⟩)]] 81))
      have BS := Lib.hid (blk_alloc SO.out (.cells #[.func (.func 46) #[] #[.pointer (some ⟨PS, 0, none⟩)]] 81))
      have BP := Lib.hid (blk_alloc PO.out (.cells #[.func (.func 46) #[] #[.pointer (some ⟨PS, 0, none⟩)]] 81))
      have BT := Lib.hid (blk_alloc TO.out (.cells #[.func (.func 46) #[] #[.pointer (some ⟨PS, 0, none⟩)]] 81))
      have BF := Lib.hid (heap_alloc_new wr (.cells #[.func (.func 46) #[] #[.pointer (some ⟨PS, 0, none⟩)]] 81))
      have BW := Lib.hid (OW.out.alloc (.cells #[.func (.func 46) #[] #[.pointer (some ⟨PS, 0, none⟩)]] 81))
      have HB5 := Lib.hid (HB.out.alloc HB.out.size (.cells #[.func (.func 46) #[] #[.pointer (some ⟨PS, 0, none⟩)]] 81))
      have hst := fun W => store_new1 W (.func (.func 46) #[] #[.pointer (some ⟨PS, 0, none⟩)]) .nilFunc rfl 81
      have b0 := blk_cell BO.out 0 _ rfl
      simp only [List.getElem_toArray, List.getElem_cons_zero] at b0
      have LW := Lib.hid (fun b (hb : (Value.slice Av (gc L i).length cv).ownBlock = some b) => own_lt OW.out b hb)
      have LQ := Lib.hid (lt_of_blk OO.out)
      clear OO SO PO TO OW HB
      go_wp2_with fail
      generalize hWf : wr.alloc (.cells #[.func (.func 46) #[] #[.pointer (some ⟨PS, 0, none⟩)]] 81) = v5 at *
      have lq := LQ.out
      refine (sorted_calls L ho i hn hn2 w v5 w.heap.size PS p wr.heap.size cv Av HB5.out HB5.out.size BS.out BF.out BP.out BW.out (fun k hk => by have h1 := ON.out k hk; have h2 := LW.out k hk; omega)).mono ?_
      rintro e w6 ⟨rfl, hG, hkeep, hsz6, hb⟩
      have hk2 : ∀ k, k ≤ PS + 1 → w6.heap[k]? = v5.heap[k]? := fun k hk => hkeep k (fun b hb => by have := ON.out b hb; omega) (by rw [← hWf]; simp; omega)
      have OO := Lib.hid ((hk2 (PS + 1) (Nat.le_refl _)).trans BO.out)
      have TO := Lib.hid ((hk2 w.heap.size (by omega)).trans BT.out)
      have HB := Lib.hid hb
      have HG := Lib.hid hG
      have hgl := gc_len L i
      have hgg := gc_gi ho
      rw [hn] at hgg
      have HGG := Lib.hid hgg
      clear hG hkeep hb hk2 hWf BO BS BP BT BF BW HB5 hst b0 LW LQ ON lq hsz6 hgg
      have b0 := blk_cell OO.out 0 _ rfl
      simp only [List.getElem_toArray, List.getElem_cons_zero] at b0
      have t0 := blk_cell TO.out 0 (.slice A i c) rfl
      go_wp2
      have HMEM : Hid (∀ x, x ∈ gi L (i - 1) → x < i) := Lib.hid (by
        intro x hx
        have hw := fun j (hj : j < L.length) => ord_wf ho j hj
        have hp := ord_pos ho
        have := ((gi_mem L L.length hw (i - 1) (by omega) x).1 hx).1
        omega)
      have HRD2 : Hid (((List.range (gi L (i - 1)).length).all (fun k => (rd_T49 L ((gi L (i - 1)).getD k 0 : Nat)).f7 == (k : Int) + 1) && (decide ((gi L (i - 1)).length ≤ 9) && !L.any (oddb (gi L (i - 1)).length))) = R) := Lib.hid (by
        have h := HRD.out
        unfold grp at h
        rw [hn] at h
        exact h)
      clear HRD
      generalize (gc L i).length = K at *
      generalize gi L (i - 1) = G at *
      go_loopw [39] (fun t wr => ∃ j : Nat, j ≤ K ∧ t = .int .i64 (j : Nat) ∧ Hid (∀ k : Nat, k < j → (rd_T49 L (G.getD k 0 : Nat)).f7 = (k : Int) + 1) ∧ wr = w6) (fun t _ => K - (intOf t).toNat)
      case atStart => exact ⟨0, Nat.zero_le _, rfl, Lib.hid (fun k h => absurd h (Nat.not_lt_zero _)), rfl⟩
      case round =>
        obtain ⟨j, hj, rfl, HJ, rfl⟩ := hrel
        by_cases hjk : j < K
        · have hkl := HGG.out
          have hgx : G[j]? = some (G.getD j 0) := by rw [List.getD_eq_getElem?_getD, List.getElem?_eq_getElem (by omega)]; rfl
          have hxm : G.getD j 0 < i := HMEM.out _ (List.mem_of_getElem? hgx)
          obtain ⟨gb, rfl, hcell⟩ := HG.out j _ hgx
          have HJ2 : Hid (∀ b : Int, (rd_T49 L (G.getD j 0 : Nat)).f7 = b → b = (j : Int) + 1 → ∀ k : Nat, k < j + 1 → (rd_T49 L (G.getD k 0 : Nat)).f7 = (k : Int) + 1) := Lib.hid (by
            rintro b rfl hb k hk
            by_cases e : k = j
            · rw [e]; exact hb
            · exact HJ.out k (by omega))
          have HF : Hid (∀ b : Int, (rd_T49 L (G.getD j 0 : Nat)).f7 = b → b ≠ (j : Int) + 1 → R = false) := Lib.hid (by
            rintro b rfl hb
            rw [← HRD2.out]
            have : (List.range G.length).all (fun k => (rd_T49 L (G.getD k 0 : Nat)).f7 == (k : Int) + 1) = false := by
              rw [List.all_eq_false]
              exact ⟨j, List.mem_range.2 (by omega), by simpa using hb⟩
            rw [this]; rfl)
          obtain ⟨b, hb⟩ : ∃ b, (rd_T49 L (G.getD j 0 : Nat)).f7 = b := ⟨_, rfl⟩
          have HJ4 := Lib.hid (HJ2.out b hb)
          have HF4 := Lib.hid (HF.out b hb)
          clear HJ2 HF
          generalize G.getD j 0 = x at *
          obtain ⟨ad, hA, _, _, _, _, _, _, _, _, _, _, a10, _⟩ := at_T49 (HC.out _ HB.out) (x : Int) (by omega) (by omega)
          subst hA
          rw [Int.toNat_natCast, hb] at a10
          have hi3 : (j : Int) < (K : Int) := by omega
          have hi4 : (x : Int) < (i : Int) := by omega
          clear HJ hgx hb
          by_cases hbj : b = (j : Int) + 1
          · have HJ3 := Lib.hid (HJ4.out hbj)
            have d1 : (b != (j : Int) + 1) = false := by simp [hbj]
            clear HJ4 HF4 hbj
            go_wp2
            go_roundw
            case rel => exact ⟨j + 1, by omega, by simp, HJ3, by first | trivial | rfl⟩
            case measure => simp [intOf]; omega
          · have d1 : (b != (j : Int) + 1) = true := by simp [hbj]
            obtain rfl := HF4.out hbj
            clear HJ4 HF4 hbj
            go_wp2
            go_ret
            exact ⟨rfl, HB.out⟩
        · obtain rfl : j = K := by omega
          have hi3 : ¬ ((j : Int) < (j : Int)) := by omega
          have hkl := HGG.out
          have hall : (List.range G.length).all (fun k => (rd_T49 L (G.getD k 0 : Nat)).f7 == (k : Int) + 1) = true := by
            rw [List.all_eq_true]
            intro k hk
            have := HJ.out k (by have := List.mem_range.1 hk; omega)
            simpa using this
          have hR := HRD2.out
          rw [hall, Bool.true_and, ← hkl] at hR
          have KC := Lib.hid (contains_calls (PS + 1) j cv Av A c L i hn (by omega) _ b0 (HC.out _ HB.out))
          generalize L.any (oddb j) = z at *
          by_cases h9 : j ≤ 9
          · have d1 : decide ((j : Int) ≤ 9) = true := by simp; omega
            obtain rfl : R = !z := by rw [← hR]; simp [h9]
            clear hR hall HJ HRD2 HG HMEM
            go_wp2_with fail
            refine KC.out.mono ?_
            rintro e w7 ⟨rfl, hb⟩
            have HB7 := Lib.hid (below_step HB.out hb)
            clear hb KC
            go_wp2
            go_ret
            exact ⟨rfl, HB7.out⟩
          · have d1 : decide ((j : Int) ≤ 9) = false := by simp; omega
            obtain rfl : R = false := by rw [← hR]; simp [h9]
            clear hR hall HJ HRD2 HG HMEM KC
            go_wp2
            go_ret
            exact ⟨rfl, HB.out⟩
end Go.Proofs.YtaaihcojedibeaaGreatDoor.DGrouped
end
section
/- ast.Right, Deep, Len: their walks. -/
namespace Go.Proofs.YtaaihcojedibeaaGreatDoor.DRight
open Go.RowKit CMem DRow DDeep DSizes DFits DLens DSpec DGrp DSort DCon DOdd DWrap DGrouped Q Go.Proofs.YtaaihcojedibeaaGreatDoorW.PrintWords Go.Proofs.YtaaihcojedibeaaGreatDoorW.PrintLast Go.Proofs.YtaaihcojedibeaaGreatDoorW.PrintMore
set_option linter.unusedVariables false
set_option linter.unusedSimpArgs false
set_option maxRecDepth 100000
/-- what is looked for behind has one length, that is not too great -/
def bhd1 (L : List S49) (i : Nat) : Bool := !((rd_T49 L i).f0 == 15 || (rd_T49 L i).f0 == 16) || ((ln L (rd_T49 L i).f1.toNat).1 == (ln L (rd_T49 L i).f1.toNat).2 && decide ((ln L (rd_T49 L i).f1.toNat).1 ≤ 255))
def bhd (L : List S49) : Bool := (List.range L.length).all (bhd1 L)
/-- what is wrong with a tree -/
def rgt (L : List S49) : Int := if frm L = 0 then (if grp L = true then (if bhd L = true then 0 else 7) else 6) else frm L
theorem frm_ord {L : List S49} (h : frm L = 0) : ord L = true := by
  unfold frm at h
  cases ho : ord L
  · rw [ho] at h; simp at h
  · rfl
set_option maxHeartbeats 12800000 in
theorem right_calls (A : Option Addr) (c : Nat) (L : List S49) (n : Nat) (hn : L.length = n) (hn2 : n ≤ 500) (w : World) (hr : Kd.C k49 w A n L) :
    Calls Tryz.prog 11 #[.agg #[.slice A n c]] w fun e w' => e = .returned (.int .i64 (rgt L)) ∧ Below w.heap.size w w' := by
  obtain ⟨R, hRdef⟩ : ∃ R, rgt L = R := ⟨_, rfl⟩
  rw [hRdef]
  unfold rgt at hRdef
  have HRD := Lib.hid hRdef
  have BT := Lib.hid (heap_alloc_new w (.cells #[.slice A n c] 24))
  have HB := Lib.hid (below1 w (.cells #[.slice A n c] 24))
  have HC := Lib.hid (fun W h => Kd.C_below (w1 := W) hr h)
  have t0 := blk_cell BT.out 0 (.slice A n c) rfl
  clear hr hRdef
  go_enter Tryz.func11, Tryz.ntmps11
  go_wp2_with fail
  generalize hW : w.alloc (.cells #[.slice A n c] 24) = v0 at *
  clear hW
  refine (formed_calls A c L n hn hn2 v0 (HC.out _ HB.out)).mono ?_
  rintro e w1 ⟨rfl, hb⟩
  have BT1 := Lib.hid (below_blk hb BT.out)
  have HB1 := Lib.hid (below_step HB.out hb)
  have t1 := blk_cell BT1.out 0 (.slice A n c) rfl
  clear hb BT HB t0
  by_cases hf : frm L = 0
  · have ho := frm_ord hf
    have d1 : (frm L != 0) = false := by simp [hf]
    have hR := HRD.out
    rw [if_pos hf] at hR
    have HR2 := Lib.hid hR
    clear hR HRD
    generalize frm L = fr at *
    go_wp2_with fail
    refine (grouped_calls A c L n hn hn2 ho w1 (HC.out _ HB1.out)).mono ?_
    rintro e w2 ⟨rfl, hb⟩
    have BT2 := Lib.hid (below_blk hb BT1.out)
    have HB2 := Lib.hid (below_step HB1.out hb)
    have t2 := blk_cell BT2.out 0 (.slice A n c) rfl
    clear hb BT1 HB1 t1
    cases hg : grp L
    · have hR := HR2.out
      rw [hg] at hR
      obtain rfl : R = 6 := hR.symm
      clear hR HR2
      go_wp2
      go_ret
      exact ⟨rfl, HB2.out⟩
    · have hR := HR2.out
      rw [if_pos hg] at hR
      have HR3 := Lib.hid hR
      clear hR HR2 hg
      go_wp2_with fail
      refine (lens_calls A c L n hn (by omega) ho w2 (HC.out _ HB2.out)).mono ?_
      rintro e w3 ⟨⟨p, q, hpq, rfl, hp, hq, hP, hQ⟩, hb⟩
      have BT3 := Lib.hid (below_blk hb BT2.out)
      have HB3 := Lib.hid (below_step HB2.out hb)
      have t3 := blk_cell BT3.out 0 (.slice A n c) rfl
      have P3 := Lib.hid hP
      have Q3 := Lib.hid hQ
      have hbase : w.heap.size ≤ p ∧ w.heap.size ≤ q := ⟨Nat.le_trans HB2.out.size hp, Nat.le_trans HB2.out.size hq⟩
      clear hb BT2 HB2 t2 hP hQ hp hq
      go_wp2
      go_loopw [24] (fun t wr => ∃ i : Nat, i ≤ n ∧ t = .int .i64 (i : Nat) ∧ Hid (∀ k : Nat, k < i → bhd1 L k = true) ∧ Hid (wr.heap[p]? = some (.cells (ic (fun m => (ln L m).1) n) 3 (0, 0))) ∧ Hid (wr.heap[q]? = some (.cells (ic (fun m => (ln L m).2) n) 3 (0, 0))) ∧ Hid (Below w.heap.size w wr)) (fun t _ => n - (intOf t).toNat)
      case atStart => exact ⟨0, Nat.zero_le _, rfl, Lib.hid (fun k h => absurd h (Nat.not_lt_zero _)), P3, Q3, HB3⟩
      case round =>
        clear P3 Q3 HB3 BT3 t3
        obtain ⟨i, hi, rfl, HJ, PO, QO, HB⟩ := hrel
        by_cases h : i < n
        · obtain ⟨ad, hA, a0, a1, a2, a3, a4, a5, a6, a7, a8, a9, a10, a11⟩ := at_T49 (HC.out _ HB.out) (i : Int) (by omega) (by omega)
          subst hA
          rw [Int.toNat_natCast] at a0 a1 a2 a3 a4 a5 a6 a7 a8 a9 a10 a11
          have hi2 : (i : Int) < (n : Int) := by omega
          have hw := ord_wf ho i (by omega)
          have HJ2 : Hid (∀ b, bhd1 L i = b → b = true → ∀ k : Nat, k < i + 1 → bhd1 L k = true) := Lib.hid (by
            rintro b rfl hb k hk
            by_cases e : k = i
            · rw [e]; exact hb
            · exact HJ.out k (by omega))
          have HF : Hid (∀ b, bhd1 L i = b → b = false → R = 7) := Lib.hid (by
            rintro b rfl hb
            rw [← HR3.out]
            have : bhd L = false := by
              unfold bhd
              rw [List.all_eq_false]
              exact ⟨i, List.mem_range.2 (by omega), by rw [hb]; decide⟩
            rw [this]; rfl)
          have hk1 : (rd_T49 L i).f0 = 15 ∨ (rd_T49 L i).f0 = 16 → ∃ a : Nat, (rd_T49 L i).f1 = (a : Int) ∧ a < i := fun hk => kid1 hw (by rcases hk with hk | hk <;> rw [hk] <;> rfl)
          obtain ⟨b, hb⟩ : ∃ b, bhd1 L i = b := ⟨_, rfl⟩
          have HJ4 := Lib.hid (HJ2.out b hb)
          have HF4 := Lib.hid (HF.out b hb)
          unfold bhd1 at hb
          clear HJ2 HF HJ hw
          generalize rd_T49 L i = x at *
          obtain ⟨xk, xa, xb, ⟨⟨s0, s1, s2, s3⟩⟩, x4, x5, x6, x7, x8⟩ := x
          simp only [] at a0 a1 a2 a3 a4 a5 a6 a7 a8 a9 a10 a11 hb hk1
          have BP := Lib.hid (blk_alloc PO.out (.cells #[.int .i64 xk, .int .i64 xa, .int .i64 xb, .int .u64 s0, .int .u64 s1, .int .u64 s2, .int .u64 s3, .int .i64 x4, .int .i64 x5, .int .i64 x6, .int .i64 x7, .bool x8] 49))
          have BQ := Lib.hid (blk_alloc QO.out (.cells #[.int .i64 xk, .int .i64 xa, .int .i64 xb, .int .u64 s0, .int .u64 s1, .int .u64 s2, .int .u64 s3, .int .i64 x4, .int .i64 x5, .int .i64 x6, .int .i64 x7, .bool x8] 49))
          have BN := Lib.hid (heap_alloc_new wr (.cells #[.int .i64 xk, .int .i64 xa, .int .i64 xb, .int .u64 s0, .int .u64 s1, .int .u64 s2, .int .u64 s3, .int .i64 x4, .int .i64 x5, .int .i64 x6, .int .i64 x7, .bool x8] 49))
          have HB1 := Lib.hid (HB.out.alloc HB.out.size (.cells #[.int .i64 xk, .int .i64 xa, .int .i64 xb, .int .u64 s0, .int .u64 s1, .int .u64 s2, .int .u64 s3, .int .i64 x4, .int .i64 x5, .int .i64 x6, .int .i64 x7, .bool x8] 49))
          clear HB PO QO
          by_cases hk : xk = 15 ∨ xk = 16
          · obtain ⟨a, rfl, hai⟩ := hk1 hk
            have hkb : (xk == 15 || xk == 16) = true := by rcases hk with hk | hk <;> rw [hk] <;> rfl
            rw [hkb, Int.toNat_natCast] at hb
            have n0 := blk_cell BN.out 0 (.int .i64 xk) rfl
            have n1 := blk_cell BN.out 1 (.int .i64 (a : Nat)) rfl
            have pa := blk_cell BP.out a _ (ic_at _ n a (by omega))
            have qa := blk_cell BQ.out a _ (ic_at _ n a (by omega))
            have han : (a : Int) < (n : Int) := by omega
            generalize (ln L a).1 = lo at *
            generalize (ln L a).2 = hi' at *
            by_cases e1 : lo = hi'
            · subst e1
              by_cases e2 : lo > 255
              · have d1 : decide (lo > 255) = true := by simp [e2]
                have d2 : (lo != lo) = false := by simp
                obtain rfl := HF4.out (by rw [← hb]; simp; omega)
                clear HF4 HJ4 hb hkb
                rcases hk with rfl | rfl
                · go_wp2
                  go_quiet (fail)
                  go_wp2
                  go_ret
                  exact ⟨rfl, by first | exact HB1.out | exact below_drewN HB1.out _⟩
                · go_wp2
                  go_quiet (fail)
                  go_wp2
                  go_ret
                  exact ⟨rfl, by first | exact HB1.out | exact below_drewN HB1.out _⟩
              · have d1 : decide (lo > 255) = false := by simp [e2]
                have d2 : (lo != lo) = false := by simp
                have HJ3 := Lib.hid (HJ4.out (by rw [← hb]; simp; omega))
                clear HF4 HJ4 hb hkb
                rcases hk with rfl | rfl
                · go_wp2
                  go_quiet (fail)
                  go_wp2
                  go_roundw
                  case rel => exact ⟨i + 1, by omega, by simp, HJ3, BP, BQ, Lib.hid (below_drewN HB1.out _)⟩
                  case measure => simp [intOf]; omega
                · go_wp2
                  go_quiet (fail)
                  go_wp2
                  go_roundw
                  case rel => exact ⟨i + 1, by omega, by simp, HJ3, BP, BQ, Lib.hid (below_drewN HB1.out _)⟩
                  case measure => simp [intOf]; omega
            · have d2 : (lo != hi') = true := by simp [e1]
              obtain rfl := HF4.out (by rw [← hb]; simp [e1])
              clear HF4 HJ4 hb hkb e1
              rcases hk with rfl | rfl
              · go_wp2
                go_quiet (fail)
                go_wp2
                go_ret
                exact ⟨rfl, by first | exact HB1.out | exact below_drewN HB1.out _⟩
              · go_wp2
                go_quiet (fail)
                go_wp2
                go_ret
                exact ⟨rfl, by first | exact HB1.out | exact below_drewN HB1.out _⟩
          · have hkb : (xk == 15 || xk == 16) = false := by simp; omega
            have n0 := blk_cell BN.out 0 (.int .i64 xk) rfl
            have d1 : (xk != 15) = true := by simp; omega
            have d2 : (xk != 16) = true := by simp; omega
            have HJ3 := Lib.hid (HJ4.out (by rw [← hb, hkb]; rfl))
            clear HF4 HJ4 hb hkb hk hk1
            go_wp2
            go_roundw
            case rel => exact ⟨i + 1, by omega, by simp, HJ3, BP, BQ, HB1⟩
            case measure => simp [intOf]; omega
        · obtain rfl : i = n := by omega
          have hi2 : ¬ ((i : Int) < (i : Int)) := by omega
          have hall : bhd L = true := by
            unfold bhd
            rw [List.all_eq_true]
            intro k hk
            exact HJ.out k (by have := List.mem_range.1 hk; omega)
          obtain rfl : R = 0 := by rw [← HR3.out, hall]; rfl
          clear HR3 hall HJ
          go_wp2
          go_ret
          exact ⟨rfl, HB.out⟩
  · have d1 : (frm L != 0) = true := by simp [hf]
    have hR := HRD.out
    rw [if_neg hf] at hR
    clear HRD
    generalize frm L = fr at *
    subst hR
    go_wp2
    go_ret
    exact ⟨rfl, HB1.out⟩
end Go.Proofs.YtaaihcojedibeaaGreatDoor.DRight
end
section
/- Contracts over trees, as a law's walk asks them. -/
namespace Go.Proofs.YtaaihcojedibeaaGreatDoor.DKit
set_option maxRecDepth 100000
open Go.RowKit CMem DRow DDeep DSizes DFits DLens DSpec DGrp DCon DOdd DRowN DWrap DJoin DGrouped DRight DRFits DCut Q Go.Proofs.YtaaihcojedibeaaGreatDoorW.PrintWords
set_option linter.unusedVariables false
set_option linter.unusedSimpArgs false
theorem leaf_tree (k xa xb s0 s1 s2 s3 mi ma mo nn : Int) (fo : Bool) (w : World) :
    Calls Tryz.prog 23 #[.agg #[.int .i64 k, .int .i64 xa, .int .i64 xb, .int .u64 s0, .int .u64 s1, .int .u64 s2, .int .u64 s3, .int .i64 mi, .int .i64 ma, .int .i64 mo, .int .i64 nn, .bool fo]] w fun e w' =>
      (∃ A c, e = .returned (.agg #[.slice A 1 c]) ∧ 1 ≤ c ∧ Kd.C k49 w' A 1 [⟨k, xa, xb, ⟨⟨s0, s1, s2, s3⟩⟩, mi, ma, mo, nn, fo⟩]) ∧ Below w.heap.size w w' := by
  refine (ast_Leaf.calls k xa xb s0 s1 s2 s3 mi ma mo nn fo _ w rfl).mono ?_
  rintro e w' ⟨v, rfl, hR, hb⟩
  obtain ⟨A, c, rfl, hle, hC⟩ := Kd.R_reads hR
  exact ⟨⟨A, c, rfl, hle, hC⟩, hb⟩
theorem wrap_tree (A : Option Addr) (c : Nat) (L R : List S49) (n q : Nat) (hn : L.length = n) (hn2 : n ≤ 999) (hq : n + 1 = q) (k xa xb s0 s1 s2 s3 mi ma mo nn : Int) (fo : Bool) (hR : L ++ [⟨k, (n : Int) - 1, 0, ⟨⟨s0, s1, s2, s3⟩⟩, mi, ma, mo, nn, fo⟩] = R) (w : World) (hr : Kd.C k49 w A n L) :
    Calls Tryz.prog 25 #[.agg #[.slice A n c], .agg #[.int .i64 k, .int .i64 xa, .int .i64 xb, .int .u64 s0, .int .u64 s1, .int .u64 s2, .int .u64 s3, .int .i64 mi, .int .i64 ma, .int .i64 mo, .int .i64 nn, .bool fo]] w fun e w' =>
      (∃ A c, e = .returned (.agg #[.slice A q c]) ∧ q ≤ c ∧ Kd.C k49 w' A q R) ∧ Below w.heap.size w w' := by
  subst hR hq
  refine (wrap_calls A c L n hn hn2 k xa xb s0 s1 s2 s3 mi ma mo nn fo w hr).mono ?_
  rintro e w' ⟨⟨v, rfl, ho⟩, hb⟩
  obtain ⟨A2, c2, rfl, hle, hC⟩ := own_C (by simp [hn]) (by omega) ho
  exact ⟨⟨A2, c2, rfl, hle, hC⟩, hb⟩
theorem join_tree (A : Option Addr) (c : Nat) (L M R : List S49) (n m q : Nat) (hn : L.length = n) (A2 : Option Addr) (c2 : Nat) (hm : M.length = m) (hnm : n + m ≤ 999) (hq : n + m + 1 = q) (kind : Int) (hR : L ++ M.map (shift n) ++ [⟨kind, (n : Int) - 1, (n : Int) + m - 1, z28, 0, 0, 0, 0, false⟩] = R) (w : World) (hr : Kd.C k49 w A n L) (hr2 : Kd.C k49 w A2 m M) :
    Calls Tryz.prog 26 #[.agg #[.slice A n c], .agg #[.slice A2 m c2], .int .i64 kind] w fun e w' =>
      (∃ A c, e = .returned (.agg #[.slice A q c]) ∧ q ≤ c ∧ Kd.C k49 w' A q R) ∧ Below w.heap.size w w' := by
  subst hR hq
  refine (join_calls A c L n hn A2 c2 M m hm hnm kind w hr hr2).mono ?_
  rintro e w' ⟨⟨v, rfl, ho⟩, hb⟩
  obtain ⟨A2, c2, rfl, hle, hC⟩ := own_C (by simp [hn, hm]; omega) (by omega) ho
  exact ⟨⟨A2, c2, rfl, hle, hC⟩, hb⟩
theorem right_tree (A : Option Addr) (c : Nat) (L : List S49) (n : Nat) (r : Int) (hn : L.length = n) (hn2 : n ≤ 500) (hr0 : rgt L = r) (w : World) (hr : Kd.C k49 w A n L) :
    Calls Tryz.prog 11 #[.agg #[.slice A n c]] w fun e w' => e = .returned (.int .i64 r) ∧ Below w.heap.size w w' := by
  subst hr0; exact right_calls A c L n hn hn2 w hr
theorem C_take {α : Type} {d : Kd α} {w : World} {A : Option Addr} {n k : Nat} {L : List α} (h : Kd.C d w A n L) (hk : k ≤ n) : Kd.C d w A k (L.take k) := by
  obtain ⟨h1, h2, h3⟩ := h
  refine ⟨by rw [List.length_take]; omega, by omega, fun hp => ?_⟩
  obtain ⟨ad, e, hc⟩ := h3 (by omega)
  refine ⟨ad, e, fun j p hj => hc j p ?_⟩
  rw [List.getElem?_take] at hj
  split at hj
  · exact hj
  · cases hj
end Go.Proofs.YtaaihcojedibeaaGreatDoor.DKit
end
section
/- The document's functions, printed, say what trees in order say; plain (for DTreeS). -/
namespace Go.Proofs.YtaaihcojedibeaaGreatDoor.DRef
set_option maxRecDepth 100000
open Go.RowKit CMem DRow DDeep DSizes DFits DLens DSpec DGrp DCon DOdd DWrap DGrouped DRight DRJoin DRFits ROd DLensR Q Go.Proofs.YtaaihcojedibeaaGreatDoorW.PrintWords
set_option linter.unusedVariables false
set_option linter.unusedSimpArgs false
theorem rkids (k : Nat) (a : Int) : clewref05_Kids.f (k + 1) a = some (kd a) := by
  have h := rkids_f a
  simp only [clewref05_Kids.f, clewref05_Kids.j0] at h ⊢
  exact h
/-- .. of any number -/
def szi (L : List S49) (i : Int) : Int := if i < 0 then 0 else sz L i.toNat
theorem szf_szi (L : List S49) (f : Nat) (i : Int) (h : i < (f : Int)) : szf L f i = szi L i := by
  unfold szi
  by_cases h0 : i < 0
  · rw [if_pos h0, (szf_rng L f i).2.2 h0]
  · rw [if_neg h0]
    obtain ⟨m, rfl⟩ := Int.eq_ofNat_of_zero_le (show 0 ≤ i by omega)
    rw [Int.toNat_natCast]
    exact szf_eq L f m (by omega)
theorem szi_rng (L : List S49) (i : Int) : 0 ≤ szi L i ∧ (0 ≤ i → szi L i ≤ i + 1) := by
  unfold szi
  by_cases h0 : i < 0
  · rw [if_pos h0]; omega
  · rw [if_neg h0]
    have := sz_rng L i.toNat
    omega
theorem sz_step (L : List S49) (i : Nat) : sz L i = if fit (rd_T49 L i) = false then 0
    else if kd (rd_T49 L i).f0 = 0 then (if (rd_T49 L i).f1 = 0 ∧ (rd_T49 L i).f2 = 0 then 1 else 0)
    else if szi L ((i : Int) - 1) = 0 then 0
    else if kd (rd_T49 L i).f0 = 1 then (if (rd_T49 L i).f1 = (i : Int) - 1 ∧ (rd_T49 L i).f2 = 0 then szi L ((i : Int) - 1) + 1 else 0)
    else if szi L ((i : Int) - 1 - szi L ((i : Int) - 1)) = 0 then 0
    else if (rd_T49 L i).f1 = (i : Int) - 1 - szi L ((i : Int) - 1) ∧ (rd_T49 L i).f2 = (i : Int) - 1 then szi L ((i : Int) - 1 - szi L ((i : Int) - 1)) + szi L ((i : Int) - 1) + 1 else 0 := by
  have hs : sz L i = szf L (i + 1) i := rfl
  unfold szf at hs
  have h1 := szi_rng L ((i : Int) - 1)
  rw [if_neg (show ¬ (i : Int) < 0 by omega), szf_szi L i ((i : Int) - 1) (by omega), szf_szi L i ((i : Int) - 1 - szi L ((i : Int) - 1)) (by omega)] at hs
  exact hs
theorem size_neg (l : List S46) (k : Nat) (i : Int) (h : i < 0) : clewref05_Size.f (k + 2) l i = some 0 := by
  simp only [clewref05_Size.f, if_pos h, clewref05_Size.j0, if_true]
set_option maxHeartbeats 1600000 in
theorem size_f (L : List S49) (hn2 : L.length ≤ 1000) : ∀ (i : Nat), i < L.length → ∀ k, 2 * i ≤ k → clewref05_Size.f (k + 4) (L.map od) i = some (sz L i) := by
  intro i
  induction i using Nat.strongRecOn with
  | ind i ih =>
    intro hi k hk
    have hl : (i : Int) < ((L.map od).length : Int) := by rw [List.length_map]; omega
    have hi0 : ¬ (i : Int) < 0 := by omega
    have hi1 : 0 ≤ (i : Int) := by omega
    have w1 : wrap64 ((i : Int) - 1) = (i : Int) - 1 := by unfold wrap64; omega
    have HS : ∀ j : Int, j < i → clewref05_Size.f (k + 2) (L.map od) j = some (szi L j) := by
      intro j hj
      unfold szi
      by_cases h0 : j < 0
      · rw [if_pos h0, size_neg _ k j h0]
      · rw [if_neg h0]
        obtain ⟨m, rfl⟩ := Int.eq_ofNat_of_zero_le (show 0 ≤ j by omega)
        rw [Int.toNat_natCast]
        obtain ⟨k', rfl⟩ : ∃ k', k = k' + 2 := ⟨k - 2, by omega⟩
        exact ih m (by omega) (by omega) k' (by omega)
    have r1 := szi_rng L ((i : Int) - 1)
    have w2 : wrap64 ((i : Int) - 1 - szi L ((i : Int) - 1)) = (i : Int) - 1 - szi L ((i : Int) - 1) := by
      rcases Nat.eq_zero_or_pos i with h | h
      · have : szi L ((i : Int) - 1) = 0 := by unfold szi; rw [if_pos (by omega)]
        unfold wrap64; omega
      · have := r1.2 (by omega)
        unfold wrap64; omega
    have r2 := szi_rng L ((i : Int) - 1 - szi L ((i : Int) - 1))
    have hneg : ∀ j : Int, j < 0 → szi L j = 0 := fun j hj => by unfold szi; rw [if_pos hj]
    have B1 : szi L ((i : Int) - 1) ≤ i := by
      by_cases h : (i : Int) - 1 < 0
      · rw [hneg _ h]; omega
      · have := r1.2 (by omega); omega
    have B2 : szi L ((i : Int) - 1 - szi L ((i : Int) - 1)) ≤ i := by
      by_cases h : (i : Int) - 1 - szi L ((i : Int) - 1) < 0
      · rw [hneg _ h]; omega
      · have := r2.2 (by omega); omega
    clear hneg
    rw [sz_step L i, show k + 4 = (k + 3) + 1 from rfl]
    simp only [clewref05_Size.f, if_neg hi0, if_pos hi1, if_pos hl, clewref05_fits.f, Option.bind_some, rd_one L i hi]
    rw [show k + 3 = (k + 2) + 1 from rfl]
    simp only [clewref05_Size.j0, if_pos hi1, if_pos hl, rd_one L i hi, rkids, Option.bind_some, w1, w2, HS _ (show (i : Int) - 1 < i by omega), HS _ (show (i : Int) - 1 - szi L ((i : Int) - 1) < i by omega)]
    have hfe : rfit (od (rd_T49 L i)).f0 (od (rd_T49 L i)).f3.f0 (od (rd_T49 L i)).f3.f1 (od (rd_T49 L i)).f3.f2 (od (rd_T49 L i)).f3.f3 (od (rd_T49 L i)).f4 (od (rd_T49 L i)).f5 (od (rd_T49 L i)).f6 (od (rd_T49 L i)).f7 (od (rd_T49 L i)).f8 = fit (rd_T49 L i) := rfl
    rw [hfe]
    show _ = _
    have e0 : (od (rd_T49 L i)).f0 = (rd_T49 L i).f0 := rfl
    have e1 : (od (rd_T49 L i)).f1 = (rd_T49 L i).f1 := rfl
    have e2 : (od (rd_T49 L i)).f2 = (rd_T49 L i).f2 := rfl
    rw [e0, e1, e2]
    generalize szi L ((i : Int) - 1 - szi L ((i : Int) - 1)) = s2 at *
    generalize szi L ((i : Int) - 1) = s1 at *
    cases hf : fit (rd_T49 L i)
    · simp
    · rw [if_neg (show ¬ (true = false) by decide)]
      simp only [Bool.not_true, Bool.false_eq_true, if_false]
      rcases kd_cases (rd_T49 L i).f0 with hk0 | hk0 | hk0
      · rw [if_pos hk0, if_pos hk0]
        by_cases h1 : (rd_T49 L i).f1 = 0
        · by_cases h2 : (rd_T49 L i).f2 = 0
          · rw [if_pos h1, if_pos h2, if_pos ⟨h1, h2⟩]
          · rw [if_pos h1, if_neg h2, if_neg (fun h => h2 h.2)]
        · rw [if_neg h1, if_neg (fun h => h1 h.1)]
      · rw [if_neg (show ¬ kd (rd_T49 L i).f0 = 0 by omega), if_neg (show ¬ kd (rd_T49 L i).f0 = 0 by omega)]
        by_cases hz : s1 = 0
        · rw [if_pos hz, if_pos hz]
        · rw [if_neg hz, if_neg hz, if_pos hk0, if_pos hk0]
          have w3 : wrap64 (s1 + 1) = s1 + 1 := by unfold wrap64; omega
          by_cases h1 : (rd_T49 L i).f1 = (i : Int) - 1
          · rw [if_pos h1]
            show clewref05_Size.j1 (k + 1 + 1) s1 _ = _
            rw [clewref05_Size.j1]
            by_cases h2 : (rd_T49 L i).f2 = 0
            · have hb : ((rd_T49 L i).f2 != 0) = false := by simp [h2]
              rw [hb, if_neg (show ¬ (false = true) by decide), if_pos ⟨h1, h2⟩, w3]
            · have hb : ((rd_T49 L i).f2 != 0) = true := by simp [h2]
              rw [hb, if_pos rfl, if_neg (fun h => h2 h.2)]
          · rw [if_neg h1, if_neg (fun h => h1 h.1)]
            show clewref05_Size.j1 (k + 1 + 1) s1 true = _
            rw [clewref05_Size.j1, if_pos rfl]
      · rw [if_neg (show ¬ kd (rd_T49 L i).f0 = 0 by omega), if_neg (show ¬ kd (rd_T49 L i).f0 = 0 by omega)]
        by_cases hz : s1 = 0
        · rw [if_pos hz, if_pos hz]
        · rw [if_neg hz, if_neg hz, if_neg (show ¬ kd (rd_T49 L i).f0 = 1 by omega), if_neg (show ¬ kd (rd_T49 L i).f0 = 1 by omega)]
          by_cases hz2 : s2 = 0
          · rw [if_pos hz2, if_pos hz2]
          · rw [if_neg hz2, if_neg hz2]
            by_cases h1 : (rd_T49 L i).f1 = (i : Int) - 1 - s1
            · by_cases h2 : (rd_T49 L i).f2 = (i : Int) - 1
              · rw [if_pos h1, if_pos h2, if_pos ⟨h1, h2⟩]
                have w3 : wrap64 (wrap64 (s2 + s1) + 1) = s2 + s1 + 1 := by unfold wrap64; omega
                rw [w3]
              · rw [if_pos h1, if_neg h2, if_neg (fun h => h2 h.2)]
            · rw [if_neg h1, if_neg (fun h => h1 h.1)]
theorem deep_f (L : List S49) (hn2 : L.length ≤ 999) (hw : ∀ i, i < L.length → Wf L i) : ∀ (i : Nat), i < L.length → ∀ k, i ≤ k → clewref05_deep.f (k + 2) (L.map od) i = some (dp L i) := by
  intro i
  induction i using Nat.strongRecOn with
  | ind i ih =>
    intro hi k hk
    have hl : (i : Int) < ((L.map od).length : Int) := by rw [List.length_map]; omega
    have hi1 : 0 ≤ (i : Int) := by omega
    have e0 : (od (rd_T49 L i)).f0 = (rd_T49 L i).f0 := rfl
    have e1 : (od (rd_T49 L i)).f1 = (rd_T49 L i).f1 := rfl
    have e2 : (od (rd_T49 L i)).f2 = (rd_T49 L i).f2 := rfl
    have HS : ∀ a : Nat, a < i → clewref05_deep.f (k + 1) (L.map od) a = some (dp L a) := fun a ha => by
      obtain ⟨k', rfl⟩ : ∃ k', k = k' + 1 := ⟨k - 1, by omega⟩
      exact ih a ha (by omega) k' (by omega)
    have hK := rkids k
    rw [show k + 2 = (k + 1) + 1 from rfl]
    generalize k + 1 = q at *
    simp only [clewref05_deep.f, if_pos hi1, if_pos hl, rd_one L i hi, e0, e1, e2, hK, Option.bind_some]
    rcases dp_eq L L.length hw i hi with ⟨hk0, hd⟩ | ⟨a, hk0, h1, h2, hd⟩ | ⟨a, b, hk0, h1, h2, h3, h4, hd⟩
    · rw [if_pos hk0, hd]
    · have := dp_rng L L.length hw a (by omega)
      rw [if_neg (by omega), if_pos hk0, h1, HS a h2, Option.bind_some, hd]
      congr 1
      unfold wrap64; omega
    · have := dp_rng L L.length hw a (by omega)
      have := dp_rng L L.length hw b (by omega)
      rw [if_neg (by omega), if_neg (by omega), h1, h2, HS a h3, Option.bind_some, HS b h4, Option.bind_some, hd, mx_max]
      congr 1
      unfold wrap64; omega
theorem gi_len (L : List S49) (j : Nat) (hw : ∀ i, i < j → Wf L i) : ∀ i, i < j → ((gi L i).length : Int) ≤ sz L i := by
  intro i
  induction i using Nat.strongRecOn with
  | ind i ih =>
    intro hi
    rcases (hw i hi).2 with ⟨hk, _, _, h3⟩ | ⟨q, rfl, hk, hf1, hf2, h1, h2⟩ | ⟨q, p, rfl, hp, hk, hf1, hf2, h1, h2, h3⟩
    · rcases gi_eq L j hw i hi with ⟨_, h⟩ | ⟨a, h0, _⟩ | ⟨a, b, h0, _⟩
      · rw [h, h3]; simp
      · omega
      · omega
    · rcases gi_eq L j hw _ hi with ⟨h0, h⟩ | ⟨a, h0, ha, hlt, h⟩ | ⟨a, b, h0, _⟩
      · omega
      · obtain rfl : a = q := by omega
        have := ih a (by omega) (by omega)
        rw [h, List.length_append]
        split
        · simp; omega
        · simp; omega
      · omega
    · rcases gi_eq L j hw _ hi with ⟨h0, h⟩ | ⟨a, h0, ha, hlt, h⟩ | ⟨a, b, h0, ha, hb, _, _, h⟩
      · omega
      · omega
      · obtain rfl : a = p := by omega
        obtain rfl : b = q := by omega
        have := ih a (by omega) (by omega)
        have := ih b (by omega) (by omega)
        rw [h, List.length_append]
        omega
/-- the groups' numbers, as they begin -/
def nums (L : List S49) (i : Nat) : List Int := (gi L i).map fun j : Nat => (rd_T49 L j).f7
theorem numbers_f (L : List S49) (hn2 : L.length ≤ 999) (hw : ∀ i, i < L.length → Wf L i) : ∀ (i : Nat), i < L.length → ∀ k, 2 * i ≤ k → clewref05_numbers.f (k + 4) (L.map od) i = some (nums L i) := by
  intro i
  induction i using Nat.strongRecOn with
  | ind i ih =>
    intro hi k hk
    have hl : (i : Int) < ((L.map od).length : Int) := by rw [List.length_map]; omega
    have hi1 : 0 ≤ (i : Int) := by omega
    have e0 : (od (rd_T49 L i)).f0 = (rd_T49 L i).f0 := rfl
    have e1 : (od (rd_T49 L i)).f1 = (rd_T49 L i).f1 := rfl
    have e2 : (od (rd_T49 L i)).f2 = (rd_T49 L i).f2 := rfl
    have e7 : (od (rd_T49 L i)).f7 = (rd_T49 L i).f7 := rfl
    have HS : ∀ a : Nat, a < i → clewref05_numbers.f (k + 2) (L.map od) a = some (nums L a) := fun a ha => by
      obtain ⟨k', rfl⟩ : ∃ k', k = k' + 2 := ⟨k - 2, by omega⟩
      exact ih a ha (by omega) k' (by omega)
    have hN : ∀ a : Nat, a < i → (nums L a).length ≤ 1000 := fun a ha => by
      unfold nums
      rw [List.length_map]
      have := gi_len L L.length hw a (by omega)
      have := sz_rng L a
      omega
    have hK := rkids (k + 1)
    rw [show k + 1 + 1 = k + 2 from rfl] at hK
    rw [show k + 4 = ((k + 2) + 1) + 1 from rfl]
    generalize k + 2 = q at *
    have hj : ∀ xs : List Int, xs.length ≤ 1 → clewref05_numbers.j0 (q + 1) (L.map od) i xs = some (xs ++ (if kd (rd_T49 L i).f0 = 0 then [] else if kd (rd_T49 L i).f0 = 1 then nums L (rd_T49 L i).f1.toNat else nums L (rd_T49 L i).f1.toNat ++ nums L (rd_T49 L i).f2.toNat)) := by
      intro xs hxs
      rw [clewref05_numbers.j0, if_pos hi1, if_pos hl, rd_one L i hi, e0, e1, e2, hK, Option.bind_some]
      rcases wf_kids (hw i hi) with hk0 | ⟨a, h1, h2, hk0⟩ | ⟨a, b, h1, h2, h3, h4, hk0⟩
      · rw [if_neg (show ¬ kd (rd_T49 L i).f0 ≥ 1 by omega), if_neg (show ¬ kd (rd_T49 L i).f0 = 2 by omega), if_pos hk0, List.append_nil]
      · have := hN a h2
        rw [if_pos (show kd (rd_T49 L i).f0 ≥ 1 by omega), h1, HS a h2, Option.bind_some, if_pos (by omega), Option.bind_some, if_neg (show ¬ kd (rd_T49 L i).f0 = 2 by omega), if_neg (show ¬ kd (rd_T49 L i).f0 = 0 by omega), if_pos hk0, Int.toNat_natCast]
      · have ha := hN a h3
        have hb := hN b h4
        rw [if_pos (show kd (rd_T49 L i).f0 ≥ 1 by omega), h1, HS a h3, Option.bind_some, if_pos (by omega), Option.bind_some, if_pos hk0, h2, HS b h4, Option.bind_some, if_pos (by rw [List.length_append]; omega), if_neg (show ¬ kd (rd_T49 L i).f0 = 0 by omega), if_neg (show ¬ kd (rd_T49 L i).f0 = 1 by omega), Int.toNat_natCast, Int.toNat_natCast, List.append_assoc]
    rw [clewref05_numbers.f, Option.bind_some, if_pos hi1, if_pos hl, rd_one L i hi, e0, e7]
    have hfin : nums L i = (if (rd_T49 L i).f0 = 11 then [(rd_T49 L i).f7] else []) ++ (if kd (rd_T49 L i).f0 = 0 then [] else if kd (rd_T49 L i).f0 = 1 then nums L (rd_T49 L i).f1.toNat else nums L (rd_T49 L i).f1.toNat ++ nums L (rd_T49 L i).f2.toNat) := by
      have hn11 : ∀ k, kd k = 0 ∨ kd k = 2 → k ≠ 11 := by
        rintro k h rfl
        have : kd 11 = 1 := rfl
        omega
      rcases gi_eq L L.length hw i hi with ⟨hk0, h⟩ | ⟨a, hk0, h1, h2, h⟩ | ⟨a, b, hk0, h1, h2, h3, h4, h⟩
      · rw [if_pos hk0, if_neg (hn11 _ (.inl hk0))]
        unfold nums; rw [h]; rfl
      · rw [if_neg (show ¬ kd (rd_T49 L i).f0 = 0 by omega), if_pos hk0, h1, Int.toNat_natCast]
        unfold nums; rw [h, List.map_append]
        split <;> rfl
      · rw [if_neg (show ¬ kd (rd_T49 L i).f0 = 0 by omega), if_neg (show ¬ kd (rd_T49 L i).f0 = 1 by omega), if_neg (hn11 _ (.inr hk0)), h1, h2, Int.toNat_natCast, Int.toNat_natCast]
        unfold nums; rw [h, List.map_append]; rfl
    rw [hfin]
    by_cases h11 : (rd_T49 L i).f0 = 11
    · rw [if_pos h11, if_pos h11, if_pos (by simp), List.nil_append, hj _ (by simp)]
    · rw [if_neg h11, if_neg h11, hj _ (by simp)]
end Go.Proofs.YtaaihcojedibeaaGreatDoor.DRef
end
section
/- The document's Deep, formed, Right say what trees in order say; plain (for DTreeS). -/
namespace Go.Proofs.YtaaihcojedibeaaGreatDoor.DRefB
set_option maxRecDepth 100000
open Go.RowKit CMem DRow DDeep DSizes DFits DLens DSpec DGrp DCon DOdd DWrap DGrouped DRight DRJoin DRFits ROd DLensR DRef Q Go.Proofs.YtaaihcojedibeaaGreatDoorW.PrintWords
set_option linter.unusedVariables false
set_option linter.unusedSimpArgs false
theorem deepr_f (L : List S49) (hn2 : L.length ≤ 500) (k : Nat) (hk : 2 * L.length + 4 ≤ k) : clewref05_Deep.f k (L.map od) = some (dep L) := by
  unfold clewref05_Deep.f dep
  rw [List.length_map]
  by_cases h0 : L.length = 0
  · have ho : ord L = false := by unfold ord; simp [h0]
    rw [if_pos (by omega), ho]; rfl
  · rw [if_neg (by omega), if_neg (by omega)]
    obtain ⟨m, hm⟩ : ∃ m, L.length = m + 1 := ⟨L.length - 1, by omega⟩
    obtain ⟨q, rfl⟩ : ∃ q, k = q + 4 := ⟨k - 4, by omega⟩
    have e1 : wrap64 ((L.length : Int) - 1) = (m : Int) := by unfold wrap64; omega
    have e2 : L.length - 1 = m := by omega
    rw [e1, size_f L (by omega) m (by omega) q (by omega), Option.bind_some, e2]
    by_cases hs : sz L m = (L.length : Int)
    · have ho : ord L = true := by unfold ord; simp [hs, e2]; omega
      have hw := fun i (hi : i < L.length) => ord_wf ho i hi
      rw [if_pos hs, if_pos ho, deep_f L (by omega) hw m (by omega) (q + 2) (by omega)]; rfl
    · have ho : ord L = false := by
        cases hc : ord L
        · rfl
        · have := ord_sz hc; rw [e2] at this; exact absurd this hs
      rw [if_neg hs, ho]; rfl
theorem dep_zero (L : List S49) : dep L = 0 ↔ ord L = false := by
  unfold dep
  cases ho : ord L
  · simp
  · have hw := fun i (hi : i < L.length) => ord_wf ho i hi
    have hp := ord_pos ho
    have := dp_rng L L.length hw (L.length - 1) (by omega)
    simp
    omega
theorem formedr_f (L : List S49) (hn2 : L.length ≤ 500) (k : Nat) (hk : 2 * L.length + 4 ≤ k) : clewref05_formed.f k (L.map od) = some (frm L) := by
  unfold clewref05_formed.f
  rw [List.length_map, if_neg (by omega), deepr_f L hn2 k hk, Option.bind_some, Option.bind_some]
  unfold frm
  by_cases h0 : dep L = 0
  · have ho := (dep_zero L).1 h0
    rw [if_pos h0, ho]; rfl
  · have ho : ord L = true := by
      cases hc : ord L
      · exact absurd ((dep_zero L).2 hc) h0
      · rfl
    rw [if_neg h0, if_pos ho]
    have hd : dep L = dp L (L.length - 1) := by unfold dep; rw [if_pos ho]
    rw [hd]
    split <;> rfl
theorem l2_f (L : List S49) (hn2 : L.length ≤ 500) (hw : ∀ i, i < L.length → Wf L i) : ∀ (d j : Nat), j + d = L.length → ∀ k, 2 * d + 2 * L.length + 6 ≤ k → clewref05_Right.l2 k (L.map od) j = some (if (List.range' j d).all (bhd1 L) = true then 0 else 7)
  | 0, j, hj, k, hk => by
    obtain ⟨q, rfl⟩ : ∃ q, k = q + 1 := ⟨k - 1, by omega⟩
    rw [clewref05_Right.l2, List.length_map, if_neg (by omega)]
    rfl
  | d + 1, j, hj, k, hk => by
    obtain ⟨q, rfl⟩ : ∃ q, k = (q + 1) + 1 := ⟨k - 2, by omega⟩
    have hjl : j < L.length := by omega
    have hwj := hw j hjl
    have e0 : (od (rd_T49 L j)).f0 = (rd_T49 L j).f0 := rfl
    have e1 : (od (rd_T49 L j)).f1 = (rd_T49 L j).f1 := rfl
    have w1 : wrap64 ((j : Int) + 1) = ((j + 1 : Nat) : Int) := by unfold wrap64; omega
    have ih := l2_f L hn2 hw d (j + 1) (by omega) q (by omega)
    have hjc : (j : Int) < ((L.map od).length : Int) := by rw [List.length_map]; omega
    rw [clewref05_Right.l2, if_pos hjc, if_pos (show 0 ≤ (j : Int) by omega), rd_one L j hjl, e0]
    have hj3 : ∀ b : Bool, b = ((rd_T49 L j).f0 == 15 || (rd_T49 L j).f0 == 16) → clewref05_Right.j3 (q + 1) (L.map od) j b = some (if (List.range' j (d + 1)).all (bhd1 L) = true then 0 else 7) := by
      intro b hb
      rw [clewref05_Right.j3, List.range'_succ, List.all_cons]
      unfold bhd1
      rw [← hb]
      cases b
      · rw [if_neg (show ¬ (false = true) by decide), w1, ih]
        rfl
      · have hk15 : (rd_T49 L j).f0 = 15 ∨ (rd_T49 L j).f0 = 16 := by
          have h := hb.symm
          simp only [Bool.or_eq_true, beq_iff_eq] at h
          exact h
        obtain ⟨a, h1, h2⟩ := kid1 hwj (by rcases hk15 with h | h <;> rw [h] <;> rfl)
        obtain ⟨q', rfl⟩ : ∃ q', q = q' + 4 := ⟨q - 4, by omega⟩
        rw [if_pos rfl, if_pos (show 0 ≤ (j : Int) by omega), if_pos hjc, rd_one L j hjl, e1, h1, Int.toNat_natCast, show clewref05_Lens.f (L.map od) (a : Nat) = some (ln L a) from rlen_f L hw a (by omega), Option.bind_some]
        by_cases c1 : (ln L a).1 = (ln L a).2
        · rw [if_pos c1]
          by_cases c2 : (ln L a).1 > 255
          · have hd : decide ((ln L a).1 ≤ 255) = false := by simp; omega
            rw [if_pos c2, hd]
            simp
          · have hd : decide ((ln L a).1 ≤ 255) = true := by simp; omega
            have hb1 : ((ln L a).1 == (ln L a).2) = true := by simp [c1]
            rw [if_neg c2, w1, ih, hd, hb1]
            rfl
        · have hb1 : ((ln L a).1 == (ln L a).2) = false := by simp [c1]
          rw [if_neg c1, hb1]
          simp
    by_cases h15 : (rd_T49 L j).f0 = 15
    · rw [if_pos h15, hj3 true (by simp [h15])]
    · rw [if_neg h15, hj3 _ (by simp [h15])]
theorem l1_f (L : List S49) (hn2 : L.length ≤ 500) (hw : ∀ i, i < L.length → Wf L i) (g : List Int) (K : Nat) (hK : g.length = K) : ∀ (d j : Nat), j + d = L.length → ∀ k, d + 4 * L.length + 8 ≤ k → clewref05_Right.l1 k (L.map od) g j = some (if (List.range' j d).any (fun m => oddb K (rd_T49 L (m : Nat))) = true then 6 else if bhd L = true then 0 else 7)
  | 0, j, hj, k, hk => by
    obtain ⟨q, rfl⟩ : ∃ q, k = q + 1 := ⟨k - 1, by omega⟩
    rw [clewref05_Right.l1, List.length_map, if_neg (by omega)]
    have h := l2_f L hn2 hw L.length 0 (by omega) q (by omega)
    rw [show ((0 : Nat) : Int) = 0 from rfl] at h
    rw [h]
    unfold bhd
    rw [List.range_eq_range']
    rfl
  | d + 1, j, hj, k, hk => by
    obtain ⟨q, rfl⟩ : ∃ q, k = q + 1 := ⟨k - 1, by omega⟩
    have hjl : j < L.length := by omega
    have hj2 : j + 1 + d = L.length := by omega
    have hq2 : d + 4 * L.length + 8 ≤ q := by omega
    have hj0 : 0 ≤ (j : Int) := by omega
    have hjc : (j : Int) < ((L.map od).length : Int) := by rw [List.length_map]; omega
    have w1 : wrap64 ((j : Int) + 1) = ((j + 1 : Nat) : Int) := by unfold wrap64; omega
    have ih := l1_f L hn2 hw g K hK d (j + 1) hj2 q hq2
    have e0 : (od (rd_T49 L j)).f0 = (rd_T49 L j).f0 := rfl
    have e7 : (od (rd_T49 L j)).f7 = (rd_T49 L j).f7 := rfl
    rw [clewref05_Right.l1, if_pos hjc, if_pos hj0, rd_one L j hjl, e0, e7, w1, ih, hK, List.range'_succ, List.any_cons]
    generalize (List.range' (j + 1) d).any (fun m => oddb K (rd_T49 L (m : Nat))) = z
    unfold oddb
    by_cases h12 : (rd_T49 L j).f0 = 12
    · have b12 : ((rd_T49 L j).f0 == 12) = true := by simp [h12]
      rw [if_pos h12, b12]
      by_cases h1 : (rd_T49 L j).f7 < 1
      · rw [if_pos h1]; simp [h1]
      · rw [if_neg h1]
        by_cases h2 : (rd_T49 L j).f7 > (K : Int)
        · rw [if_pos h2]; simp [h2]
        · have d1 : decide ((rd_T49 L j).f7 < 1) = false := by simp [h1]
          have d2 : decide ((rd_T49 L j).f7 > (K : Int)) = false := by simp [h2]
          rw [if_neg h2, d1, d2]
          rfl
    · have b12 : ((rd_T49 L j).f0 == 12) = false := by simp [h12]
      rw [if_neg h12, b12]
      rfl
theorem l0_f (L : List S49) (hn2 : L.length ≤ 500) (hw : ∀ i, i < L.length → Wf L i) (g : List Int) (K : Nat) (hK : g.length = K) (hK2 : K ≤ 1000) : ∀ (d j : Nat), j + d = K → ∀ k, d + 5 * L.length + 10 ≤ k → clewref05_Right.l0 k (L.map od) g j = some (if (List.range' j d).all (fun m => g.getD m 0 == (m : Int) + 1) = true then (if L.any (oddb K) = true then 6 else if bhd L = true then 0 else 7) else 6)
  | 0, j, hj, k, hk => by
    obtain ⟨q, rfl⟩ : ∃ q, k = q + 1 := ⟨k - 1, by omega⟩
    have hq : L.length + 4 * L.length + 8 ≤ q := by omega
    have hjk : ¬ (j : Int) < (g.length : Int) := by omega
    have h := l1_f L hn2 hw g K hK L.length 0 (by omega) q hq
    rw [clewref05_Right.l0, if_neg hjk]
    rw [show ((0 : Nat) : Int) = 0 from rfl] at h
    rw [h]
    have e : (List.range' 0 L.length).any (fun m => oddb K (rd_T49 L (m : Nat))) = L.any (oddb K) := by
      rw [← List.range_eq_range', Bool.eq_iff_iff, List.any_eq_true, List.any_eq_true]
      constructor
      · rintro ⟨m, hm, ho⟩
        have hml := List.mem_range.1 hm
        refine ⟨rd_T49 L m, ?_, ho⟩
        unfold rd_T49
        rw [Int.toNat_natCast, List.getD_eq_getElem?_getD, List.getElem?_eq_getElem hml]
        exact List.getElem_mem _
      · rintro ⟨x, hx, ho⟩
        obtain ⟨m, hml, rfl⟩ := List.getElem_of_mem hx
        refine ⟨m, List.mem_range.2 hml, ?_⟩
        unfold rd_T49
        rw [Int.toNat_natCast, List.getD_eq_getElem?_getD, List.getElem?_eq_getElem hml]
        exact ho
    rw [e]
    rfl
  | d + 1, j, hj, k, hk => by
    obtain ⟨q, rfl⟩ : ∃ q, k = q + 1 := ⟨k - 1, by omega⟩
    have hj2 : j + 1 + d = K := by omega
    have hq2 : d + 5 * L.length + 10 ≤ q := by omega
    have hj0 : 0 ≤ (j : Int) := by omega
    have hjk : (j : Int) < (g.length : Int) := by omega
    have w1 : wrap64 ((j : Int) + 1) = ((j + 1 : Nat) : Int) := by unfold wrap64; omega
    have w2 : wrap64 ((j : Int) + 1) = (j : Int) + 1 := by unfold wrap64; omega
    have ih := l0_f L hn2 hw g K hK hK2 d (j + 1) hj2 q hq2
    have er : rd g (j : Int) = g.getD j 0 := by unfold rd; rw [Int.toNat_natCast]
    rw [clewref05_Right.l0, if_pos hjk, if_pos hj0, er, List.range'_succ, List.all_cons]
    by_cases h1 : g.getD j 0 = (j : Int) + 1
    · have b1 : (g.getD j 0 == (j : Int) + 1) = true := by simp only [beq_iff_eq]; exact h1
      rw [if_pos (by rw [w2]; exact h1), w1, ih, b1]
      rfl
    · have b1 : (g.getD j 0 == (j : Int) + 1) = false := by simp only [beq_eq_false_iff_ne]; exact h1
      rw [if_neg (by rw [w2]; exact h1), b1]
      rfl
theorem rightr_f (L : List S49) (hn2 : L.length ≤ 500) (k : Nat) (hk : 6 * L.length + 20 ≤ k) : clewref05_Right.f k (L.map od) = some (rgt L) := by
  unfold clewref05_Right.f rgt
  have hk4 : 2 * L.length + 4 ≤ k := by omega
  rw [formedr_f L hn2 k hk4, Option.bind_some]
  by_cases hf : frm L = 0
  · have ho := frm_ord hf
    have hw := fun i (hi : i < L.length) => ord_wf ho i hi
    have hp := ord_pos ho
    obtain ⟨m, hm⟩ : ∃ m, L.length = m + 1 := ⟨L.length - 1, by omega⟩
    have hm2 : L.length - 1 = m := by omega
    have e1 : wrap64 (((L.map od).length : Int) - 1) = (m : Int) := by rw [List.length_map]; unfold wrap64; omega
    have hml : m < L.length := by omega
    obtain ⟨q, hq⟩ : ∃ q, k = q + 4 := ⟨k - 4, by omega⟩
    have hnf : clewref05_numbers.f k (L.map od) m = some (DRef.nums L m) := by rw [hq]; exact numbers_f L (by omega) hw m hml q (by omega)
    have hlen : (DRef.nums L m).length = (gi L m).length := by unfold DRef.nums; rw [List.length_map]
    have hgl : (gi L m).length ≤ L.length := by
      have := gi_len L L.length hw m hml
      have := sz_rng L m
      omega
    rw [if_pos hf, if_pos hf, e1, hnf, Option.bind_some, hlen]
    unfold grp
    rw [hm2]
    by_cases h9 : (gi L m).length ≤ 9
    · have hl0 := l0_f L hn2 hw (DRef.nums L m) (gi L m).length hlen (by omega) (gi L m).length 0 (by omega) k (by omega)
      rw [show ((0 : Nat) : Int) = 0 from rfl] at hl0
      have h9' : ¬ ((gi L m).length : Int) > 9 := by omega
      have ea : (List.range' 0 (gi L m).length).all (fun j => (DRef.nums L m).getD j 0 == (j : Int) + 1) = (List.range (gi L m).length).all (fun k => (rd_T49 L ((gi L m).getD k 0 : Nat)).f7 == (k : Int) + 1) := by
        rw [← List.range_eq_range', Bool.eq_iff_iff, List.all_eq_true, List.all_eq_true]
        have hx : ∀ x, x < (gi L m).length → (DRef.nums L m).getD x 0 = (rd_T49 L ((gi L m).getD x 0 : Nat)).f7 := by
          intro x hx
          unfold DRef.nums
          rw [List.getD_eq_getElem?_getD, List.getElem?_map, List.getD_eq_getElem?_getD, List.getElem?_eq_getElem hx]
          rfl
        constructor
        · intro h x hxm
          have := h x hxm
          rw [hx x (List.mem_range.1 hxm)] at this
          exact this
        · intro h x hxm
          have := h x hxm
          rw [hx x (List.mem_range.1 hxm)]
          exact this
      rw [if_neg h9', hl0, ea]
      cases (List.range (gi L m).length).all (fun k => (rd_T49 L ((gi L m).getD k 0 : Nat)).f7 == (k : Int) + 1)
      · rfl
      · have d9 : decide ((gi L m).length ≤ 9) = true := by simp [h9]
        rw [d9]
        cases L.any (oddb (gi L m).length) <;> rfl
    · have h9' : ((gi L m).length : Int) > 9 := by omega
      have d9 : decide ((gi L m).length ≤ 9) = false := by simp [h9]
      rw [if_pos h9', d9]
      simp
  · rw [if_neg hf, if_neg hf]
end Go.Proofs.YtaaihcojedibeaaGreatDoor.DRefB
end
section
/- A tree for the document, and what is wrong with it (DTreeS). -/
namespace Go.Proofs.YtaaihcojedibeaaGreatDoor.DTreeS
set_option maxRecDepth 100000
open Go.RowKit CMem DRow DDeep DSizes DFits DLens DSpec DGrp DCon DOdd DRight DRJoin DRFits ROd DRef DRefB Q Go.Proofs.YtaaihcojedibeaaGreatDoorW.PrintWords
set_option linter.unusedVariables false
set_option linter.unusedSimpArgs false
theorem rright_calls (A : Option Addr) (c : Nat) (L : List S49) (n : Nat) (hn : L.length = n) (hn2 : n ≤ 500) (hc : n ≤ c) (w : World) (hr : Kd.C k46 w A n (L.map od)) :
    Calls Tryz.prog 13 #[.slice A n c] w fun e w' => e = .returned (.int .i64 (rgt L)) ∧ Below w.heap.size w w' := by
  have hl : (L.map od).length = n := by rw [List.length_map, hn]
  have h := clewref05_Right.calls (6 * L.length + 20) A c (L.map od) (rgt L) w (by rw [hl]; exact hr) (by rw [hl]; exact hc) (rightr_f L (by omega) _ (Nat.le_refl _))
  rw [hl] at h
  exact h.mono fun e w' hh => ⟨hh.1, by first | exact hh.2 | exact hh.2.below⟩
/-- a tree for the document -/
theorem ref_f (L : List S49) (hn2 : L.length ≤ 1000) : ∀ (d j : Nat), j + d = L.length → ∀ k, d + 1 ≤ k → clewlaw05_Ref.l0 k ((L.take j).map od) j L = some (L.map od)
  | 0, j, hj, k, hk => by
    obtain ⟨q, rfl⟩ : ∃ q, k = q + 1 := ⟨k - 1, by omega⟩
    rw [clewlaw05_Ref.l0, if_neg (by omega), List.take_of_length_le (by omega)]
  | d + 1, j, hj, k, hk => by
    obtain ⟨q, rfl⟩ : ∃ q, k = q + 1 := ⟨k - 1, by omega⟩
    have hq : d + 1 ≤ q := by omega
    have hjl : j < L.length := by omega
    have ih := ref_f L hn2 d (j + 1) (by omega) q hq
    have w1 : wrap64 ((j : Int) + 1) = ((j + 1 : Nat) : Int) := by unfold wrap64; omega
    have hx : L[j]? = some (rd_T49 L j) := by
      unfold rd_T49
      rw [Int.toNat_natCast, List.getD_eq_getElem?_getD, List.getElem?_eq_getElem hjl]
      rfl
    have ht : (L.take (j + 1)).map od = (L.take j).map od ++ [od (rd_T49 L j)] := by
      rw [List.take_add_one, hx, List.map_append]; rfl
    rw [clewlaw05_Ref.l0, if_pos (by omega), if_pos (by omega), w1]
    unfold clewlaw05_One.f
    rw [Option.bind_some, if_pos (by rw [List.length_map, List.length_take]; omega)]
    rw [ht] at ih
    exact ih
theorem ref_calls (A : Option Addr) (c : Nat) (L : List S49) (n : Nat) (hn : L.length = n) (hn2 : n ≤ 1000) (hc : n ≤ c) (w : World) (hr : Kd.C k49 w A n L) :
    Calls Tryz.prog 7 #[.agg #[.slice A n c]] w fun e w' => (∃ A2 c2, e = .returned (.slice A2 n c2) ∧ n ≤ c2 ∧ Kd.C k46 w' A2 n (L.map od)) ∧ Below w.heap.size w w' := by
  subst hn
  have h := ref_f L hn2 L.length 0 (by omega) (L.length + 1) (Nat.le_refl _)
  refine (clewlaw05_Ref.calls (L.length + 1) A c L (L.map od) w hr hc h).mono ?_
  rintro e w' ⟨v, rfl, hR, hb⟩
  obtain ⟨A2, c2, rfl, hle, hC⟩ := Kd.R_reads hR
  rw [List.length_map] at hle hC
  exact ⟨⟨A2, c2, by rw [List.length_map], hle, hC⟩, hb⟩
end Go.Proofs.YtaaihcojedibeaaGreatDoor.DTreeS
end
