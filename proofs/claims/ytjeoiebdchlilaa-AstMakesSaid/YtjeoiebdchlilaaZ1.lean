import Derived.Test.YtjeoiebdchlilaaZ0
import Derived.Shelf.Small.Bits
import Derived.Shelf.Strconv.Itoa0
import Derived.Shelf.Slices.Turned
import Derived.Ground.SlsfProg
import Derived.Shelf.SlSortCmp.Insertion
import Derived.Shelf.SlSortCmp.SiftDown1
import Derived.Shelf.SlSortCmp.HeapSort1
import Derived.Shelf.SlSortCmp.Insertion1
import Derived.Shelf.SlSortCmp.Median1
import Derived.Shelf.SlSortCmp.Pivot1
import Derived.Shelf.SlSortCmp.ReverseRange1
import Derived.Shelf.SlSortCmp.PartialInsertion1
import Derived.Shelf.SlSortCmp.PartitionEqual1
import Derived.Shelf.SlSortCmp.Partition1
import Derived.Shelf.SlSortCmp.Pdq1
import Derived.Shelf.SlSortCmp.Whole1
import Derived.Test.YtjeoiebdchlilaaProg
import Derived.BigQuiet
import Derived.Shelf.SlSortCmp.NoneTotal
import Derived.Laws.CopyOwn
import Derived.Test.YtjeoiebdchlilaaQ8
import Derived.Test.YtjeoiebdchlilaaQ6
import Derived.Test.YtjeoiebdchlilaaQ21
import Derived.Test.YtjeoiebdchlilaaQ22
import Derived.Test.YtjeoiebdchlilaaQ4
import Derived.Test.YtjeoiebdchlilaaQ5
import Derived.Deep.Slices
import Derived.ChangeSame
import Derived.OpenShut
section
/- The groups of a tree, as they begin; plain. -/
namespace Go.Proofs.Ytjeoiebdchlilaa.DGrp
open CMem DRow DDeep DRFits DSizes DFits DLens DSpec Q
set_option linter.unusedVariables false
set_option linter.unusedSimpArgs false
/-- the groups of a node's tree, ahead of those within -/
def gif (L : List S43) : Nat → Int → List Nat
  | 0, _ => []
  | f + 1, i => (if (rd_T43 L i).f0 = 11 then [i.toNat] else []) ++ (if kd (rd_T43 L i).f0 = 0 then [] else if kd (rd_T43 L i).f0 = 1 then gif L f (rd_T43 L i).f1 else gif L f (rd_T43 L i).f1 ++ gif L f (rd_T43 L i).f2)
def gi (L : List S43) (i : Nat) : List Nat := gif L (i + 1) i
theorem gif_fuel (L : List S43) (j : Nat) (hw : ∀ i, i < j → Wf L i) : ∀ (i : Nat) (f g : Nat), i < j → i < f → i < g → gif L f i = gif L g i := by
  intro i
  induction i using Nat.strongRecOn with
  | ind i ih =>
    intro f g hi hf hg
    obtain ⟨f, rfl⟩ : ∃ k, f = k + 1 := ⟨f - 1, by omega⟩
    obtain ⟨g, rfl⟩ : ∃ k, g = k + 1 := ⟨g - 1, by omega⟩
    unfold gif
    rcases wf_kids (hw i hi) with hk | ⟨a, h1, h2, hk⟩ | ⟨a, b, h1, h2, h3, h4, hk⟩
    · rw [if_pos hk, if_pos hk]
    · rw [if_neg (show ¬ kd (rd_T43 L i).f0 = 0 by omega), if_pos hk, if_neg (show ¬ kd (rd_T43 L i).f0 = 0 by omega), if_pos hk, h1, ih a h2 f g (by omega) (by omega) (by omega)]
    · rw [h1, h2, ih a h3 f g (by omega) (by omega) (by omega), ih b h4 f g (by omega) (by omega) (by omega)]
theorem gi_eq (L : List S43) (j : Nat) (hw : ∀ i, i < j → Wf L i) (i : Nat) (hi : i < j) :
    (kd (rd_T43 L i).f0 = 0 ∧ gi L i = []) ∨
    (∃ a : Nat, kd (rd_T43 L i).f0 = 1 ∧ (rd_T43 L i).f1 = (a : Int) ∧ a < i ∧ gi L i = (if (rd_T43 L i).f0 = 11 then [i] else []) ++ gi L a) ∨
    (∃ a b : Nat, kd (rd_T43 L i).f0 = 2 ∧ (rd_T43 L i).f1 = (a : Int) ∧ (rd_T43 L i).f2 = (b : Int) ∧ a < i ∧ b < i ∧ gi L i = gi L a ++ gi L b) := by
  have hd : gi L i = gif L (i + 1) i := rfl
  have hn : ∀ k, kd k = 0 ∨ kd k = 2 → k ≠ 11 := by
    rintro k h rfl
    have : kd 11 = 1 := rfl
    omega
  unfold gif at hd
  rw [Int.toNat_natCast] at hd
  rcases wf_kids (hw i hi) with hk | ⟨a, h1, h2, hk⟩ | ⟨a, b, h1, h2, h3, h4, hk⟩
  · rw [if_pos hk, if_neg (hn _ (.inl hk))] at hd
    exact .inl ⟨hk, hd⟩
  · rw [if_neg (show ¬ kd (rd_T43 L i).f0 = 0 by omega), if_pos hk, h1, gif_fuel L j hw a i (a + 1) (by omega) h2 (by omega)] at hd
    exact .inr (.inl ⟨a, hk, h1, h2, hd⟩)
  · rw [if_neg (show ¬ kd (rd_T43 L i).f0 = 0 by omega), if_neg (show ¬ kd (rd_T43 L i).f0 = 1 by omega), if_neg (hn _ (.inr hk)), h1, h2, gif_fuel L j hw a i (a + 1) (by omega) h3 (by omega), gif_fuel L j hw b i (b + 1) (by omega) h4 (by omega)] at hd
    exact .inr (.inr ⟨a, b, hk, h1, h2, h3, h4, hd⟩)
/-- a tree within a tree begins no earlier -/
theorem nested (L : List S43) (j : Nat) (hw : ∀ i, i < j → Wf L i) : ∀ i, i < j → ∀ m : Nat, m ≤ i → (i : Int) - sz L i < (m : Int) → (i : Int) - sz L i ≤ (m : Int) - sz L m := by
  intro i
  induction i using Nat.strongRecOn with
  | ind i ih =>
    intro hi m hm hlo
    by_cases e : m = i
    · rw [e]; exact Int.le_refl _
    · rcases (hw i hi).2 with ⟨_, _, _, h3⟩ | ⟨q, rfl, hk, hf1, hf2, h1, h2⟩ | ⟨q, p, rfl, hp, hk, hf1, hf2, h1, h2, h3⟩
      · omega
      · have := ih q (by omega) (by omega) m (by omega) (by omega)
        omega
      · by_cases hmq : (q : Int) - sz L q < (m : Int)
        · have := ih q (by omega) (by omega) m (by omega) hmq
          omega
        · have := ih p (by omega) (by omega) m (by omega) (by omega)
          omega
theorem gi_mem (L : List S43) (j : Nat) (hw : ∀ i, i < j → Wf L i) : ∀ i, i < j → ∀ m : Nat, m ∈ gi L i ↔ (m ≤ i ∧ (i : Int) - sz L i < (m : Int) ∧ (rd_T43 L m).f0 = 11) := by
  intro i
  induction i using Nat.strongRecOn with
  | ind i ih =>
    intro hi m
    rcases (hw i hi).2 with ⟨hk, _, _, h3⟩ | ⟨q, rfl, hk, hf1, hf2, h1, h2⟩ | ⟨q, p, rfl, hp, hk, hf1, hf2, h1, h2, h3⟩
    · rcases gi_eq L j hw i hi with ⟨_, h⟩ | ⟨a, h0, _⟩ | ⟨a, b, h0, _⟩
      · rw [h]
        constructor
        · intro h; cases h
        · rintro ⟨a, b, c⟩
          obtain rfl : m = i := by omega
          rw [c] at hk
          exact absurd hk (by decide)
      · omega
      · omega
    · rcases gi_eq L j hw _ hi with ⟨h0, h⟩ | ⟨a, h0, ha, hlt, h⟩ | ⟨a, b, h0, _⟩
      · omega
      · obtain rfl : a = q := by omega
        rw [h, List.mem_append, ih a (by omega) (by omega) m]
        constructor
        · rintro (h | ⟨h4, h5, h6⟩)
          · split at h
            · rename_i hc
              obtain rfl := List.mem_singleton.1 h
              exact ⟨Nat.le_refl _, by omega, hc⟩
            · cases h
          · exact ⟨by omega, by omega, h6⟩
        · rintro ⟨h4, h5, h6⟩
          by_cases e : m = a + 1
          · subst e
            left
            rw [if_pos h6]
            exact List.mem_singleton.2 rfl
          · exact .inr ⟨by omega, by omega, h6⟩
      · omega
    · rcases gi_eq L j hw _ hi with ⟨h0, h⟩ | ⟨a, h0, ha, hlt, h⟩ | ⟨a, b, h0, ha, hb, _, _, h⟩
      · omega
      · omega
      · obtain rfl : a = p := by omega
        obtain rfl : b = q := by omega
        rw [h, List.mem_append, ih a (by omega) (by omega) m, ih b (by omega) (by omega) m]
        constructor
        · rintro (⟨h4, h5, h6⟩ | ⟨h4, h5, h6⟩)
          · exact ⟨by omega, by omega, h6⟩
          · exact ⟨by omega, by omega, h6⟩
        · rintro ⟨h4, h5, h6⟩
          by_cases e : m = b + 1
          · subst e
            rw [h6] at hk
            exact absurd hk (by decide)
          · by_cases hmq : (b : Int) - sz L b < (m : Int)
            · exact .inr ⟨by omega, hmq, h6⟩
            · exact .inl ⟨by omega, by omega, h6⟩
/-- begins ahead of, or around -/
def glt (L : List S43) (a b : Nat) : Prop := (a : Int) - sz L a < (b : Int) - sz L b ∨ ((a : Int) - sz L a = (b : Int) - sz L b ∧ sz L b < sz L a)
theorem gi_sorted (L : List S43) (j : Nat) (hw : ∀ i, i < j → Wf L i) : ∀ i, i < j → (gi L i).Pairwise (glt L) := by
  intro i
  induction i using Nat.strongRecOn with
  | ind i ih =>
    intro hi
    rcases (hw i hi).2 with ⟨hk, _, _, h3⟩ | ⟨q, rfl, hk, hf1, hf2, h1, h2⟩ | ⟨q, p, rfl, hp, hk, hf1, hf2, h1, h2, h3⟩
    · rcases gi_eq L j hw i hi with ⟨_, h⟩ | ⟨a, h0, _⟩ | ⟨a, b, h0, _⟩
      · rw [h]; exact List.Pairwise.nil
      · omega
      · omega
    · rcases gi_eq L j hw _ hi with ⟨h0, h⟩ | ⟨a, h0, ha, hlt, h⟩ | ⟨a, b, h0, _⟩
      · omega
      · obtain rfl : a = q := by omega
        rw [h, List.pairwise_append]
        refine ⟨by split <;> simp, ih a (by omega) (by omega), fun x hx y hy => ?_⟩
        split at hx
        · obtain rfl := List.mem_singleton.1 hx
          obtain ⟨h4, h5, h6⟩ := (gi_mem L j hw a (by omega) y).1 hy
          have := nested L j hw _ hi y (by omega) (by omega)
          unfold glt
          by_cases e : ((a + 1 : Nat) : Int) - sz L (a + 1) < (y : Int) - sz L y
          · exact .inl e
          · exact .inr ⟨by omega, by omega⟩
        · cases hx
      · omega
    · rcases gi_eq L j hw _ hi with ⟨h0, h⟩ | ⟨a, h0, ha, hlt, h⟩ | ⟨a, b, h0, ha, hb, _, _, h⟩
      · omega
      · omega
      · obtain rfl : a = p := by omega
        obtain rfl : b = q := by omega
        rw [h, List.pairwise_append]
        refine ⟨ih a (by omega) (by omega), ih b (by omega) (by omega), fun x hx y hy => ?_⟩
        obtain ⟨h4, h5, h6⟩ := (gi_mem L j hw a (by omega) x).1 hx
        obtain ⟨h7, h8, h9⟩ := (gi_mem L j hw b (by omega) y).1 hy
        have n1 := nested L j hw b (by omega) y h7 h8
        have n2 := wf_pos (hw x (by omega))
        have n3 := wf_pos (hw y (by omega))
        unfold glt
        exact .inl (by omega)
theorem glt_irrefl (L : List S43) (a : Nat) : ¬ glt L a a := by unfold glt; omega
theorem gi_nodup (L : List S43) (j : Nat) (hw : ∀ i, i < j → Wf L i) (i : Nat) (hi : i < j) : (gi L i).Nodup :=
  (gi_sorted L j hw i hi).imp (fun {a b} h e => by subst e; exact glt_irrefl L a h)
/-- the nodes that are groups, as they stand -/
def gall (L : List S43) : List Nat := (List.range L.length).filter fun i => (rd_T43 L i).f0 == 11
theorem gall_perm {L : List S43} (h : ord L = true) : (gall L).Perm (gi L (L.length - 1)) := by
  have hw := fun i (hi : i < L.length) => ord_wf h i hi
  simp only [ord, Bool.and_eq_true, decide_eq_true_eq, beq_iff_eq] at h
  refine (List.perm_ext_iff_of_nodup (List.nodup_range.filter _) (gi_nodup L _ hw _ (by omega))).2 fun m => ?_
  rw [gi_mem L _ hw _ (by omega)]
  rw [List.mem_filter, List.mem_range, beq_iff_eq]
  constructor
  · rintro ⟨h1, h2⟩
    exact ⟨by omega, by omega, h2⟩
  · rintro ⟨h1, h2, h3⟩
    exact ⟨by omega, h3⟩
/-- what is sorted so is just that -/
theorem sorted_uniq {L : List S43} (h : ord L = true) (l : List Nat) (hp : (gall L).Perm l) (hs : l.Pairwise fun a b => ¬ glt L b a) : l = gi L (L.length - 1) := by
  have hw := fun i (hi : i < L.length) => ord_wf h i hi
  have hg := gall_perm h
  have hlen : 0 < L.length := by
    simp only [ord, Bool.and_eq_true, decide_eq_true_eq, beq_iff_eq] at h
    omega
  refine List.Perm.eq_of_pairwise (le := fun a b => ¬ glt L b a) (fun a b ha hb h1 h2 => ?_) hs ((gi_sorted L _ hw _ (by omega)).imp fun {a b} hab hba => ?_) (hp.symm.trans hg)
  · unfold glt at h1 h2
    by_cases e1 : (a : Int) - sz L a = (b : Int) - sz L b
    · omega
    · omega
  · unfold glt at hab hba
    omega
end Go.Proofs.Ytjeoiebdchlilaa.DGrp
end
section
/-
  DERIVED: THE SHELF's CONTRACTS AT THIS DUMP, IN PLAIN WORDS (tools/lay-plain.mjs out of 'TryShelf.lean', which tools/lay-shelf.mjs wrote): THE SAME DECLARATIONS UNDER THE SAME NAMES: 'import', 'namespace', 'open', 'def', 'theorem' AND NOTHING ELSE: no command of the shelf's: FOR A HAND-IN. Each laying: the table of numbers ('.._ren') and one theorem, a field a fact of the dump's own or the kernel's comparison; each contract: ONE APPLICATION.
-/
namespace Go.Proofs
open Go.Shelf
def Try.lays128_ren : Go.Shelf.Ren := ⟨fun | 128 => 69 | n => n, fun | 51 => 93 | 3 => 3 | 4 => 4 | 46 => 80 | 5 => 5 | 9 => 9 | n => n, fun | n => n⟩
theorem Try.lays128 : Go.Proofs.Lays.n128 Try.prog Try.lays128_ren := {
  mixed := by kernel_rfl
  f128 := Try.func69.trans (congrArg some (by kernel_rfl))
  t3 := Try.underlying3
  a3 := Try.isAgg3
  z3 := Try.sizeOf3
  v3 := Try.zeroValue3
  t4 := Try.underlying4
  a4 := Try.isAgg4
  z4 := Try.sizeOf4
  v4 := Try.zeroValue4
  t5 := Try.underlying5
  a5 := Try.isAgg5
  z5 := Try.sizeOf5
  v5 := Try.zeroValue5
  t9 := Try.underlying9
  a9 := Try.isAgg9
  z9 := Try.sizeOf9
  v9 := Try.zeroValue9
  t46 := Try.underlying80
  a46 := Try.isAgg80
  z46 := Try.sizeOf80
  v46 := Try.zeroValue80
  t51 := Try.underlying93
  a51 := Try.isAgg93
  z51 := Try.sizeOf93
  v51 := Try.zeroValue93 }
/-- bits.Len32: "Len32 returns the minimum number of bits required to represent x; the result is 0 for x == 0.": IT RETURNS 'Lib.bitLen x'; the world is as it was. ('h0', 'h1': x is a uint32.) (LAID: no walk: one application.) -/
theorem Try.bits_Len32 (x : Int) (w : World) (h0 : 0 ≤ x) (h1 : x ≤ 4294967295) :
    Calls Try.prog 69 #[.int .u32 x] w fun e w' => e = .returned (.int .i64 (Lib.bitLen x.toNat)) ∧ w' = w := Any.bits_Len32 Try.lays128 x w h0 h1
def Try.lays125_ren : Go.Shelf.Ren := ⟨fun | 125 => 57 | 128 => 69 | 129 => 70 | n => n, fun | 46 => 80 | 3 => 3 | 51 => 93 | 53 => 38 | 4 => 4 | 5 => 5 | 9 => 9 | n => n, fun | n => n⟩
theorem Try.lays125 : Go.Proofs.Lays.n125 Try.prog Try.lays125_ren := {
  mixed := by kernel_rfl
  f125 := Try.func57.trans (congrArg some (by kernel_rfl))
  f128 := Try.func69.trans (congrArg some (by kernel_rfl))
  f129 := Try.func70.trans (congrArg some (by kernel_rfl))
  t3 := Try.underlying3
  a3 := Try.isAgg3
  z3 := Try.sizeOf3
  v3 := Try.zeroValue3
  t4 := Try.underlying4
  a4 := Try.isAgg4
  z4 := Try.sizeOf4
  v4 := Try.zeroValue4
  t5 := Try.underlying5
  a5 := Try.isAgg5
  z5 := Try.sizeOf5
  v5 := Try.zeroValue5
  t9 := Try.underlying9
  a9 := Try.isAgg9
  z9 := Try.sizeOf9
  v9 := Try.zeroValue9
  t46 := Try.underlying80
  a46 := Try.isAgg80
  z46 := Try.sizeOf80
  v46 := Try.zeroValue80
  t51 := Try.underlying93
  a51 := Try.isAgg93
  z51 := Try.sizeOf93
  v51 := Try.zeroValue93
  t53 := Try.underlying38
  a53 := Try.isAgg38
  z53 := Try.sizeOf38
  v53 := Try.zeroValue38 }
/-- bits.Len: "Len returns the minimum number of bits required to represent x; the result is 0 for x == 0.": IT RETURNS 'Lib.bitLen x'; the world is as it was. (A uint has 64 bits in the model.) ITS CALLEE bits.Len64 IS MET BY ITS OWN CONTRACT OFF THE SHELF (lay that first). (LAID: no walk: one application.) -/
theorem Try.bits_Len (x : Int) (w : World) (h0 : 0 ≤ x) (h1 : x ≤ 18446744073709551615) :
    Calls Try.prog 57 #[.int .u64 x] w fun e w' => e = .returned (.int .i64 (Lib.bitLen x.toNat)) ∧ w' = w := Any.bits_Len Try.lays125 x w h0 h1
def Try.lays129_ren : Go.Shelf.Ren := ⟨fun | 129 => 70 | n => n, fun | 53 => 38 | 3 => 3 | 4 => 4 | 46 => 80 | 5 => 5 | 9 => 9 | n => n, fun | n => n⟩
theorem Try.lays129 : Go.Proofs.Lays.n129 Try.prog Try.lays129_ren := {
  mixed := by kernel_rfl
  f129 := Try.func70.trans (congrArg some (by kernel_rfl))
  t3 := Try.underlying3
  a3 := Try.isAgg3
  z3 := Try.sizeOf3
  v3 := Try.zeroValue3
  t4 := Try.underlying4
  a4 := Try.isAgg4
  z4 := Try.sizeOf4
  v4 := Try.zeroValue4
  t5 := Try.underlying5
  a5 := Try.isAgg5
  z5 := Try.sizeOf5
  v5 := Try.zeroValue5
  t9 := Try.underlying9
  a9 := Try.isAgg9
  z9 := Try.sizeOf9
  v9 := Try.zeroValue9
  t46 := Try.underlying80
  a46 := Try.isAgg80
  z46 := Try.sizeOf80
  v46 := Try.zeroValue80
  t53 := Try.underlying38
  a53 := Try.isAgg38
  z53 := Try.sizeOf38
  v53 := Try.zeroValue38 }
/-- bits.Len64: "Len64 returns the minimum number of bits required to represent x; the result is 0 for x == 0.": IT RETURNS 'Lib.bitLen x'; the world is as it was. ('h0', 'h1': x is a uint64.) (LAID: no walk: one application.) -/
theorem Try.bits_Len64 (x : Int) (w : World) (h0 : 0 ≤ x) (h1 : x ≤ 18446744073709551615) :
    Calls Try.prog 70 #[.int .u64 x] w fun e w' => e = .returned (.int .i64 (Lib.bitLen x.toNat)) ∧ w' = w := Any.bits_Len64 Try.lays129 x w h0 h1
def Try.lays113_ren : Go.Shelf.Ren := ⟨fun | 113 => 44 | n => n, fun | 28 => 58 | 3 => 3 | 4 => 4 | 9 => 9 | 20 => 20 | 0 => 0 | n => n, fun | n => n⟩
theorem Try.lays113 : Go.Proofs.Lays.n113 Try.prog Try.lays113_ren := {
  mixed := by kernel_rfl
  f113 := Try.func44.trans (congrArg some (by kernel_rfl))
  t0 := Try.underlying0
  a0 := Try.isAgg0
  z0 := Try.sizeOf0
  v0 := Try.zeroValue0
  t3 := Try.underlying3
  a3 := Try.isAgg3
  z3 := Try.sizeOf3
  v3 := Try.zeroValue3
  t4 := Try.underlying4
  a4 := Try.isAgg4
  z4 := Try.sizeOf4
  v4 := Try.zeroValue4
  t9 := Try.underlying9
  a9 := Try.isAgg9
  z9 := Try.sizeOf9
  v9 := Try.zeroValue9
  t20 := Try.underlying20
  a20 := Try.isAgg20
  z20 := Try.sizeOf20
  v20 := Try.zeroValue20
  t28 := Try.underlying58
  a28 := Try.isAgg58
  z28 := Try.sizeOf58
  v28 := Try.zeroValue58 }
open Go.Lib in
/-- slices.Max at []int: "Max returns the maximal value in x. It panics if x is empty.": OF A SLICE THAT IS NOT EMPTY IT RETURNS 'Lib.maxOf (the elements)'; the world is as it was. (Of an empty one it panics: no contract here.) (LAID: no walk: one application.) -/
theorem Try.slices_Max_int (b off n c : Nat) (zs : List Int) (w : World) (hn : 0 < n) (hz : n ≤ zs.length) (hbig : n ≤ 9223372036854775807) (hc : ∀ j, j < zs.length → w.cell? ⟨b, off + j, none⟩ = some (.int .i64 (zs.getD j 0))) :
    Calls Try.prog 44 #[.slice (some ⟨b, off, none⟩) n c] w fun e w' => e = .returned (.int .i64 (Lib.maxOf (zs.take n))) ∧ w' = w := Any.slices_Max_int Try.lays113 b off n c zs w hn hz hbig hc
def Try.laysSlF20_f61_ren : Go.Shelf.Ren := ⟨fun | 20 => 61 | n => n, fun | 24 => 3 | 22 => 58 | 3 => 3 | 25 => 55 | 4 => 4 | 0 => 0 | n => n, fun | n => n⟩
theorem Try.laysSlF20_f61 : Go.Proofs.SlLaysF.n20 Try.prog Try.laysSlF20_f61_ren := {
  mixed := by kernel_rfl
  f20 := ⟨Try.f61.name, by decide, Try.func61.trans (congrArg some (by kernel_rfl))⟩
  t0 := Try.underlying0
  a0 := Try.isAgg0
  z0 := Try.sizeOf0
  v0 := Try.zeroValue0
  t3 := Try.underlying3
  a3 := Try.isAgg3
  z3 := Try.sizeOf3
  v3 := Try.zeroValue3
  t4 := Try.underlying4
  a4 := Try.isAgg4
  z4 := Try.sizeOf4
  v4 := Try.zeroValue4
  t22 := Try.underlying58
  a22 := Try.isAgg58
  z22 := Try.sizeOf58
  v22 := Try.zeroValue58
  a24 := Try.isAgg3
  z24 := Try.sizeOf3
  t25 := Try.underlying55
  a25 := Try.isAgg55
  z25 := Try.sizeOf55
  v25 := Try.zeroValue55 }
open Go.RowKit Go.Lib Go.Sort in
theorem Try.insertionSortCmpFunc_one {α : Type} [Inhabited α] (enc : α → Value) (hO : OneCell enc) (cf : α → α → Int) (g : Nat) (cb : Array Value) (blk off cap a b : Nat) (d : Array α) (w : World) (eg : ∀ args w, (callFunc g args).run Try.prog w = .ok (.enter g args) w) (hcmp : CmpReads Try.prog g cb enc cf blk off d.size w) (hH : Holds enc w blk off d) (hab : a ≤ b) (hb : b ≤ d.size) (hsz : d.size < 4611686018427387904) :
    Calls Try.prog 61 #[.slice (some ⟨blk, off, none⟩) d.size cap, .int .i64 a, .int .i64 b, .func (.func g) #[] cb] w fun e w' =>
      e = .returned (.tuple #[]) ∧ ∃ n, w' = (putRow enc w blk off (Sort.insertionSort (ltOf cf) d a b)).drewN n := Any.insertionSortCmpFunc_one Try.laysSlF20_f61 enc hO cf g cb blk off cap a b d w eg hcmp hH hab hb hsz
def Try.laysSlF46_f71_ren : Go.Shelf.Ren := ⟨fun | 46 => 71 | n => n, fun | 24 => 3 | 22 => 58 | 3 => 3 | 25 => 55 | 4 => 4 | 0 => 0 | n => n, fun | n => n⟩
theorem Try.laysSlF46_f71 : Go.Proofs.SlLaysF.n46 Try.prog Try.laysSlF46_f71_ren := {
  mixed := by kernel_rfl
  f46 := ⟨Try.f71.name, by decide, Try.func71.trans (congrArg some (by kernel_rfl))⟩
  t0 := Try.underlying0
  a0 := Try.isAgg0
  z0 := Try.sizeOf0
  v0 := Try.zeroValue0
  t3 := Try.underlying3
  a3 := Try.isAgg3
  z3 := Try.sizeOf3
  v3 := Try.zeroValue3
  t4 := Try.underlying4
  a4 := Try.isAgg4
  z4 := Try.sizeOf4
  v4 := Try.zeroValue4
  t22 := Try.underlying58
  a22 := Try.isAgg58
  z22 := Try.sizeOf58
  v22 := Try.zeroValue58
  a24 := Try.isAgg3
  z24 := Try.sizeOf3
  t25 := Try.underlying55
  a25 := Try.isAgg55
  z25 := Try.sizeOf55
  v25 := Try.zeroValue55 }
open Go.RowKit Go.Lib Go.Sort in
/-- slices.siftDownCmpFunc at elements of one cell: from a world of the sort's to a world of the sort's. (LAID AT THE INSTANCE 'slices.siftDownCmpFunc[int]': no walk: one application.) -/
theorem Try.siftDownCmpFunc {α : Type} [Inhabited α] (enc : α → Value) (cf : α → α → Int) (g : Nat) (cb : Array Value) (blk off cap lo hi first : Nat) (d0 d : Array α) (w0 w : World) (eg : ∀ args w, (callFunc g args).run Try.prog w = .ok (.enter g args) w) (hcmp : CmpLays1 Try.prog g cb enc cf blk off d0.size w0) (R : Row1 enc w0 blk off d0) (hs : d0.size = d.size) (S : SW enc w0 blk off d w) (hlo : lo ≤ hi) (hb : first + hi ≤ d.size) (hsz : d.size < 4611686018427387904) :
    Calls Try.prog 71 #[.slice (some ⟨blk, off, none⟩) d.size cap, .int .i64 lo, .int .i64 hi, .int .i64 first, .func (.func g) #[] cb] w fun e w' =>
      e = .returned (.tuple #[]) ∧ SW enc w0 blk off (siftDown (ltOf cf) hi first lo d) w' := Any.siftDownCmpFunc Try.laysSlF46_f71 enc cf g cb blk off cap lo hi first d0 d w0 w eg hcmp R hs S hlo hb hsz
def Try.laysSlF21_f62_ren : Go.Shelf.Ren := ⟨fun | 21 => 62 | 46 => 71 | n => n, fun | 24 => 3 | 22 => 58 | 3 => 3 | 25 => 55 | 4 => 4 | 0 => 0 | n => n, fun | n => n⟩
theorem Try.laysSlF21_f62 : Go.Proofs.SlLaysF.n21 Try.prog Try.laysSlF21_f62_ren := {
  mixed := by kernel_rfl
  f21 := ⟨Try.f62.name, by decide, Try.func62.trans (congrArg some (by kernel_rfl))⟩
  f46 := ⟨Try.f71.name, by decide, Try.func71.trans (congrArg some (by kernel_rfl))⟩
  t0 := Try.underlying0
  a0 := Try.isAgg0
  z0 := Try.sizeOf0
  v0 := Try.zeroValue0
  t3 := Try.underlying3
  a3 := Try.isAgg3
  z3 := Try.sizeOf3
  v3 := Try.zeroValue3
  t4 := Try.underlying4
  a4 := Try.isAgg4
  z4 := Try.sizeOf4
  v4 := Try.zeroValue4
  t22 := Try.underlying58
  a22 := Try.isAgg58
  z22 := Try.sizeOf58
  v22 := Try.zeroValue58
  a24 := Try.isAgg3
  z24 := Try.sizeOf3
  t25 := Try.underlying55
  a25 := Try.isAgg55
  z25 := Try.sizeOf55
  v25 := Try.zeroValue55 }
open Go.RowKit Go.Lib Go.Sort in
/-- slices.heapSortCmpFunc at elements of one cell. (LAID AT THE INSTANCE 'slices.heapSortCmpFunc[int]': no walk: one application.) -/
theorem Try.heapSortCmpFunc {α : Type} [Inhabited α] (enc : α → Value) (cf : α → α → Int) (g : Nat) (cb : Array Value) (blk off cap a b : Nat) (d0 d : Array α) (w0 w : World) (eg : ∀ args w, (callFunc g args).run Try.prog w = .ok (.enter g args) w) (hcmp : CmpLays1 Try.prog g cb enc cf blk off d0.size w0) (R : Row1 enc w0 blk off d0) (hs : d0.size = d.size) (S : SW enc w0 blk off d w) (hab : a ≤ b) (hb : b ≤ d.size) (hsz : d.size < 4611686018427387904) :
    Calls Try.prog 62 #[.slice (some ⟨blk, off, none⟩) d.size cap, .int .i64 a, .int .i64 b, .func (.func g) #[] cb] w fun e w' =>
      e = .returned (.tuple #[]) ∧ SW enc w0 blk off (heapSort (ltOf cf) d a b) w' := Any.heapSortCmpFunc Try.laysSlF21_f62 enc cf g cb blk off cap a b d0 d w0 w eg hcmp R hs S hab hb hsz
open Go.RowKit Go.Lib Go.Sort in
/-- slices.insertionSortCmpFunc at elements of one cell: from a world of the sort's to a world of the sort's. (LAID AT THE INSTANCE 'slices.insertionSortCmpFunc[int]': no walk: one application.) -/
theorem Try.insertionSortCmpFunc_s {α : Type} [Inhabited α] (enc : α → Value) (cf : α → α → Int) (g : Nat) (cb : Array Value) (blk off cap a b : Nat) (d0 d : Array α) (w0 w : World) (eg : ∀ args w, (callFunc g args).run Try.prog w = .ok (.enter g args) w) (hcmp : CmpLays1 Try.prog g cb enc cf blk off d0.size w0) (R : Row1 enc w0 blk off d0) (hs : d0.size = d.size) (S : SW enc w0 blk off d w) (hab : a ≤ b) (hb : b ≤ d.size) (hsz : d.size < 4611686018427387904) :
    Calls Try.prog 61 #[.slice (some ⟨blk, off, none⟩) d.size cap, .int .i64 a, .int .i64 b, .func (.func g) #[] cb] w fun e w' => e = .returned (.tuple #[]) ∧ SW enc w0 blk off (Sort.insertionSort (ltOf cf) d a b) w' := Any.insertionSortCmpFunc_s Try.laysSlF20_f61 enc cf g cb blk off cap a b d0 d w0 w eg hcmp R hs S hab hb hsz
def Try.laysSlF57_f76_ren : Go.Shelf.Ren := ⟨fun | 57 => 76 | n => n, fun | 24 => 3 | 22 => 58 | 3 => 3 | 70 => 99 | 25 => 55 | 0 => 0 | 4 => 4 | n => n, fun | n => n⟩
theorem Try.laysSlF57_f76 : Go.Proofs.SlLaysF.n57 Try.prog Try.laysSlF57_f76_ren := {
  mixed := by kernel_rfl
  f57 := ⟨Try.f76.name, by decide, Try.func76.trans (congrArg some (by kernel_rfl))⟩
  t0 := Try.underlying0
  a0 := Try.isAgg0
  z0 := Try.sizeOf0
  v0 := Try.zeroValue0
  t3 := Try.underlying3
  a3 := Try.isAgg3
  z3 := Try.sizeOf3
  v3 := Try.zeroValue3
  t4 := Try.underlying4
  a4 := Try.isAgg4
  z4 := Try.sizeOf4
  v4 := Try.zeroValue4
  t22 := Try.underlying58
  a22 := Try.isAgg58
  z22 := Try.sizeOf58
  v22 := Try.zeroValue58
  a24 := Try.isAgg3
  z24 := Try.sizeOf3
  t25 := Try.underlying55
  a25 := Try.isAgg55
  z25 := Try.sizeOf55
  v25 := Try.zeroValue55
  t70 := Try.underlying99
  a70 := Try.isAgg99
  z70 := Try.sizeOf99
  v70 := Try.zeroValue99 }
open Go.RowKit Go.Lib Go.Sort in
/-- slices.order2CmpFunc at elements of one cell. (LAID AT THE INSTANCE 'slices.order2CmpFunc[int]': no walk: one application.) -/
theorem Try.order2CmpFunc {α : Type} [Inhabited α] (enc : α → Value) (cf : α → α → Int) (g : Nat) (cb : Array Value) (blk off cap a b c s : Nat) (d0 d : Array α) (w0 W : World) (eg : ∀ args w, (callFunc g args).run Try.prog w = .ok (.enter g args) w) (hcmp : CmpLays1 Try.prog g cb enc cf blk off d0.size w0) (R : Row1 enc w0 blk off d0) (hs : d0.size = d.size) (C : Cnt1 enc w0 blk off d c s W) (ha : a < d.size) (hb : b < d.size) (hsz : d.size < 4611686018427387904) (hss : s < 4611686018427387904) :
    Calls Try.prog 76 #[.slice (some ⟨blk, off, none⟩) d.size cap, .int .i64 a, .int .i64 b, .pointer (some ⟨c, 0, none⟩), .func (.func g) #[] cb] W fun e w' =>
      e = .returned (.tuple #[.int .i64 (order2 (ltOf cf) d a b s).1, .int .i64 (order2 (ltOf cf) d a b s).2.1]) ∧ Cnt1 enc w0 blk off d c (order2 (ltOf cf) d a b s).2.2 w' := Any.order2CmpFunc Try.laysSlF57_f76 enc cf g cb blk off cap a b c s d0 d w0 W eg hcmp R hs C ha hb hsz hss
def Try.laysSlF50_f75_ren : Go.Shelf.Ren := ⟨fun | 50 => 75 | 57 => 76 | n => n, fun | 24 => 3 | 22 => 58 | 3 => 3 | 70 => 99 | 25 => 55 | 77 => 61 | 0 => 0 | 4 => 4 | n => n, fun | n => n⟩
theorem Try.laysSlF50_f75 : Go.Proofs.SlLaysF.n50 Try.prog Try.laysSlF50_f75_ren := {
  mixed := by kernel_rfl
  f50 := ⟨Try.f75.name, by decide, Try.func75.trans (congrArg some (by kernel_rfl))⟩
  f57 := ⟨Try.f76.name, by decide, Try.func76.trans (congrArg some (by kernel_rfl))⟩
  t0 := Try.underlying0
  a0 := Try.isAgg0
  z0 := Try.sizeOf0
  v0 := Try.zeroValue0
  t3 := Try.underlying3
  a3 := Try.isAgg3
  z3 := Try.sizeOf3
  v3 := Try.zeroValue3
  t4 := Try.underlying4
  a4 := Try.isAgg4
  z4 := Try.sizeOf4
  v4 := Try.zeroValue4
  t22 := Try.underlying58
  a22 := Try.isAgg58
  z22 := Try.sizeOf58
  v22 := Try.zeroValue58
  a24 := Try.isAgg3
  z24 := Try.sizeOf3
  t25 := Try.underlying55
  a25 := Try.isAgg55
  z25 := Try.sizeOf55
  v25 := Try.zeroValue55
  t70 := Try.underlying99
  a70 := Try.isAgg99
  z70 := Try.sizeOf99
  v70 := Try.zeroValue99
  t77 := Try.underlying61
  a77 := Try.isAgg61
  z77 := Try.sizeOf61
  v77 := Try.zeroValue61 }
open Go.RowKit Go.Lib Go.Sort in
/-- slices.medianCmpFunc at elements of one cell. (LAID AT THE INSTANCE 'slices.medianCmpFunc[int]': no walk: one application.) -/
theorem Try.medianCmpFunc {α : Type} [Inhabited α] (enc : α → Value) (cf : α → α → Int) (g : Nat) (cb : Array Value) (blk off cap a b c' c s : Nat) (d0 d : Array α) (w0 W : World) (eg : ∀ args w, (callFunc g args).run Try.prog w = .ok (.enter g args) w) (hcmp : CmpLays1 Try.prog g cb enc cf blk off d0.size w0) (R : Row1 enc w0 blk off d0) (hs : d0.size = d.size) (C : Cnt1 enc w0 blk off d c s W) (ha : a < d.size) (hb : b < d.size) (hc : c' < d.size) (hsz : d.size < 4611686018427387904) (hss : s + 3 < 4611686018427387904) :
    Calls Try.prog 75 #[.slice (some ⟨blk, off, none⟩) d.size cap, .int .i64 a, .int .i64 b, .int .i64 c', .pointer (some ⟨c, 0, none⟩), .func (.func g) #[] cb] W fun e w' =>
      e = .returned (.int .i64 (median (ltOf cf) d a b c' s).1) ∧ Cnt1 enc w0 blk off d c (median (ltOf cf) d a b c' s).2 w' := Any.medianCmpFunc Try.laysSlF50_f75 enc cf g cb blk off cap a b c' c s d0 d w0 W eg hcmp R hs C ha hb hc hsz hss
def Try.laysSlF49_f74_ren : Go.Shelf.Ren := ⟨fun | 49 => 74 | 50 => 75 | 57 => 76 | n => n, fun | 24 => 3 | 22 => 58 | 3 => 3 | 70 => 99 | 25 => 55 | 77 => 61 | 0 => 0 | 4 => 4 | n => n, fun | n => n⟩
theorem Try.laysSlF49_f74 : Go.Proofs.SlLaysF.n49 Try.prog Try.laysSlF49_f74_ren := {
  mixed := by kernel_rfl
  f49 := ⟨Try.f74.name, by decide, Try.func74.trans (congrArg some (by kernel_rfl))⟩
  f50 := ⟨Try.f75.name, by decide, Try.func75.trans (congrArg some (by kernel_rfl))⟩
  f57 := ⟨Try.f76.name, by decide, Try.func76.trans (congrArg some (by kernel_rfl))⟩
  t0 := Try.underlying0
  a0 := Try.isAgg0
  z0 := Try.sizeOf0
  v0 := Try.zeroValue0
  t3 := Try.underlying3
  a3 := Try.isAgg3
  z3 := Try.sizeOf3
  v3 := Try.zeroValue3
  t4 := Try.underlying4
  a4 := Try.isAgg4
  z4 := Try.sizeOf4
  v4 := Try.zeroValue4
  t22 := Try.underlying58
  a22 := Try.isAgg58
  z22 := Try.sizeOf58
  v22 := Try.zeroValue58
  a24 := Try.isAgg3
  z24 := Try.sizeOf3
  t25 := Try.underlying55
  a25 := Try.isAgg55
  z25 := Try.sizeOf55
  v25 := Try.zeroValue55
  t70 := Try.underlying99
  a70 := Try.isAgg99
  z70 := Try.sizeOf99
  v70 := Try.zeroValue99
  t77 := Try.underlying61
  a77 := Try.isAgg61
  z77 := Try.sizeOf61
  v77 := Try.zeroValue61 }
open Go.RowKit Go.Lib Go.Sort in
/-- slices.medianAdjacentCmpFunc at elements of one cell. (LAID AT THE INSTANCE 'slices.medianAdjacentCmpFunc[int]': no walk: one application.) -/
theorem Try.medianAdjacentCmpFunc {α : Type} [Inhabited α] (enc : α → Value) (cf : α → α → Int) (g : Nat) (cb : Array Value) (blk off cap a c s : Nat) (d0 d : Array α) (w0 W : World) (eg : ∀ args w, (callFunc g args).run Try.prog w = .ok (.enter g args) w) (hcmp : CmpLays1 Try.prog g cb enc cf blk off d0.size w0) (R : Row1 enc w0 blk off d0) (hs : d0.size = d.size) (C : Cnt1 enc w0 blk off d c s W) (ha1 : 1 ≤ a) (ha2 : a + 1 < d.size) (hsz : d.size < 4611686018427387904) (hss : s + 3 < 4611686018427387904) :
    Calls Try.prog 74 #[.slice (some ⟨blk, off, none⟩) d.size cap, .int .i64 a, .pointer (some ⟨c, 0, none⟩), .func (.func g) #[] cb] W fun e w' =>
      e = .returned (.int .i64 (medianAdjacent (ltOf cf) d a s).1) ∧ Cnt1 enc w0 blk off d c (medianAdjacent (ltOf cf) d a s).2 w' := Any.medianAdjacentCmpFunc Try.laysSlF49_f74 enc cf g cb blk off cap a c s d0 d w0 W eg hcmp R hs C ha1 ha2 hsz hss
def Try.laysSlF23_f64_ren : Go.Shelf.Ren := ⟨fun | 23 => 64 | 49 => 74 | 50 => 75 | 57 => 76 | n => n, fun | 24 => 3 | 22 => 58 | 3 => 3 | 25 => 55 | 45 => 85 | 0 => 0 | 4 => 4 | 70 => 99 | 77 => 61 | n => n, fun | n => n⟩
theorem Try.laysSlF23_f64 : Go.Proofs.SlLaysF.n23 Try.prog Try.laysSlF23_f64_ren := {
  mixed := by kernel_rfl
  f23 := ⟨Try.f64.name, by decide, Try.func64.trans (congrArg some (by kernel_rfl))⟩
  f49 := ⟨Try.f74.name, by decide, Try.func74.trans (congrArg some (by kernel_rfl))⟩
  f50 := ⟨Try.f75.name, by decide, Try.func75.trans (congrArg some (by kernel_rfl))⟩
  f57 := ⟨Try.f76.name, by decide, Try.func76.trans (congrArg some (by kernel_rfl))⟩
  t0 := Try.underlying0
  a0 := Try.isAgg0
  z0 := Try.sizeOf0
  v0 := Try.zeroValue0
  t3 := Try.underlying3
  a3 := Try.isAgg3
  z3 := Try.sizeOf3
  v3 := Try.zeroValue3
  t4 := Try.underlying4
  a4 := Try.isAgg4
  z4 := Try.sizeOf4
  v4 := Try.zeroValue4
  t22 := Try.underlying58
  a22 := Try.isAgg58
  z22 := Try.sizeOf58
  v22 := Try.zeroValue58
  a24 := Try.isAgg3
  z24 := Try.sizeOf3
  t25 := Try.underlying55
  a25 := Try.isAgg55
  z25 := Try.sizeOf55
  v25 := Try.zeroValue55
  t45 := Try.underlying85
  a45 := Try.isAgg85
  z45 := Try.sizeOf85
  v45 := Try.zeroValue85
  t70 := Try.underlying99
  a70 := Try.isAgg99
  z70 := Try.sizeOf99
  v70 := Try.zeroValue99
  t77 := Try.underlying61
  a77 := Try.isAgg61
  z77 := Try.sizeOf61
  v77 := Try.zeroValue61 }
open Go.RowKit Go.Lib Go.Sort in
/-- slices.choosePivotCmpFunc at elements of one cell: THE LIBRARY's OWN TEXT COMPUTES 'Sort.choosePivot (ltOf cf) d a b'; the row is not turned. (After Derived/Shelf/SlSortFuncK/PivotK.lean, row for row; the counter's world by 'CntK'.) (LAID AT THE INSTANCE 'slices.choosePivotCmpFunc[int]': no walk: one application.) -/
theorem Try.choosePivotCmpFunc {α : Type} [Inhabited α] (enc : α → Value) (cf : α → α → Int) (g : Nat) (cb : Array Value) (blk off cap a b : Nat) (d0 d : Array α) (w0 W : World) (eg : ∀ args w, (callFunc g args).run Try.prog w = .ok (.enter g args) w) (hcmp : CmpLays1 Try.prog g cb enc cf blk off d0.size w0) (R : Row1 enc w0 blk off d0) (hs : d0.size = d.size) (S : SW enc w0 blk off d W) (hab : a < b) (hb : b ≤ d.size) (hsz : d.size < 4611686018427387904) :
    Calls Try.prog 64 #[.slice (some ⟨blk, off, none⟩) d.size cap, .int .i64 a, .int .i64 b, .func (.func g) #[] cb] W fun e w' =>
      e = .returned (.tuple #[.int .i64 (choosePivot (ltOf cf) d a b).1, .int .i64 (hintCode (choosePivot (ltOf cf) d a b).2)]) ∧ SW enc w0 blk off d w' := Any.choosePivotCmpFunc Try.laysSlF23_f64 enc cf g cb blk off cap a b d0 d w0 W eg hcmp R hs S hab hb hsz
def Try.laysSlF24_f65_ren : Go.Shelf.Ren := ⟨fun | 24 => 65 | n => n, fun | 24 => 3 | 22 => 58 | 3 => 3 | 25 => 55 | 4 => 4 | 0 => 0 | n => n, fun | n => n⟩
theorem Try.laysSlF24_f65 : Go.Proofs.SlLaysF.n24 Try.prog Try.laysSlF24_f65_ren := {
  mixed := by kernel_rfl
  f24 := ⟨Try.f65.name, by decide, Try.func65.trans (congrArg some (by kernel_rfl))⟩
  t0 := Try.underlying0
  a0 := Try.isAgg0
  z0 := Try.sizeOf0
  v0 := Try.zeroValue0
  t3 := Try.underlying3
  a3 := Try.isAgg3
  z3 := Try.sizeOf3
  v3 := Try.zeroValue3
  t4 := Try.underlying4
  a4 := Try.isAgg4
  z4 := Try.sizeOf4
  v4 := Try.zeroValue4
  t22 := Try.underlying58
  a22 := Try.isAgg58
  z22 := Try.sizeOf58
  v22 := Try.zeroValue58
  a24 := Try.isAgg3
  z24 := Try.sizeOf3
  t25 := Try.underlying55
  a25 := Try.isAgg55
  z25 := Try.sizeOf55
  v25 := Try.zeroValue55 }
open Go.RowKit Go.Lib Go.Sort in
/-- slices.reverseRangeCmpFunc at elements of one cell: it exchanges and does not compare. (LAID AT THE INSTANCE 'slices.reverseRangeCmpFunc[int]': no walk: one application.) -/
theorem Try.reverseRangeCmpFunc {α : Type} [Inhabited α] (enc : α → Value) (g : Nat) (cb : Array Value) (blk off cap a b : Nat) (d0 d : Array α) (w0 w : World) (R : Row1 enc w0 blk off d0) (hs : d0.size = d.size) (S : SW enc w0 blk off d w) (hab : a ≤ b) (hb : b ≤ d.size) (hsz : d.size < 4611686018427387904) :
    Calls Try.prog 65 #[.slice (some ⟨blk, off, none⟩) d.size cap, .int .i64 a, .int .i64 b, .func (.func g) #[] cb] w fun e w' => e = .returned (.tuple #[]) ∧ SW enc w0 blk off (reverseRange d a b) w' := Any.reverseRangeCmpFunc Try.laysSlF24_f65 enc g cb blk off cap a b d0 d w0 w R hs S hab hb hsz
def Try.laysSlF25_f66_ren : Go.Shelf.Ren := ⟨fun | 25 => 66 | n => n, fun | 24 => 3 | 22 => 58 | 3 => 3 | 25 => 55 | 4 => 4 | 0 => 0 | n => n, fun | n => n⟩
theorem Try.laysSlF25_f66 : Go.Proofs.SlLaysF.n25 Try.prog Try.laysSlF25_f66_ren := {
  mixed := by kernel_rfl
  f25 := ⟨Try.f66.name, by decide, Try.func66.trans (congrArg some (by kernel_rfl))⟩
  t0 := Try.underlying0
  a0 := Try.isAgg0
  z0 := Try.sizeOf0
  v0 := Try.zeroValue0
  t3 := Try.underlying3
  a3 := Try.isAgg3
  z3 := Try.sizeOf3
  v3 := Try.zeroValue3
  t4 := Try.underlying4
  a4 := Try.isAgg4
  z4 := Try.sizeOf4
  v4 := Try.zeroValue4
  t22 := Try.underlying58
  a22 := Try.isAgg58
  z22 := Try.sizeOf58
  v22 := Try.zeroValue58
  a24 := Try.isAgg3
  z24 := Try.sizeOf3
  t25 := Try.underlying55
  a25 := Try.isAgg55
  z25 := Try.sizeOf55
  v25 := Try.zeroValue55 }
open Go.RowKit Go.Lib Go.Sort in
/-- slices.partialInsertionSortCmpFunc at elements of one cell. (LAID AT THE INSTANCE 'slices.partialInsertionSortCmpFunc[int]': no walk: one application.) -/
theorem Try.partialInsertionSortCmpFunc {α : Type} [Inhabited α] (enc : α → Value) (cf : α → α → Int) (g : Nat) (cb : Array Value) (blk off cap a b : Nat) (d0 d : Array α) (w0 w : World) (eg : ∀ args w, (callFunc g args).run Try.prog w = .ok (.enter g args) w) (hcmp : CmpLays1 Try.prog g cb enc cf blk off d0.size w0) (R : Row1 enc w0 blk off d0) (hs : d0.size = d.size) (S : SW enc w0 blk off d w) (hab : a < b) (hb : b ≤ d.size) (hsz : d.size < 4611686018427387904) :
    Calls Try.prog 66 #[.slice (some ⟨blk, off, none⟩) d.size cap, .int .i64 a, .int .i64 b, .func (.func g) #[] cb] w fun e w' =>
      e = .returned (.bool (Sort.partialInsertionSort (ltOf cf) d a b).2) ∧ SW enc w0 blk off (Sort.partialInsertionSort (ltOf cf) d a b).1 w' := Any.partialInsertionSortCmpFunc Try.laysSlF25_f66 enc cf g cb blk off cap a b d0 d w0 w eg hcmp R hs S hab hb hsz
def Try.laysSlF26_f67_ren : Go.Shelf.Ren := ⟨fun | 26 => 67 | n => n, fun | 24 => 3 | 22 => 58 | 3 => 3 | 25 => 55 | 0 => 0 | 4 => 4 | n => n, fun | n => n⟩
theorem Try.laysSlF26_f67 : Go.Proofs.SlLaysF.n26 Try.prog Try.laysSlF26_f67_ren := {
  mixed := by kernel_rfl
  f26 := ⟨Try.f67.name, by decide, Try.func67.trans (congrArg some (by kernel_rfl))⟩
  t0 := Try.underlying0
  a0 := Try.isAgg0
  z0 := Try.sizeOf0
  v0 := Try.zeroValue0
  t3 := Try.underlying3
  a3 := Try.isAgg3
  z3 := Try.sizeOf3
  v3 := Try.zeroValue3
  t4 := Try.underlying4
  a4 := Try.isAgg4
  z4 := Try.sizeOf4
  v4 := Try.zeroValue4
  t22 := Try.underlying58
  a22 := Try.isAgg58
  z22 := Try.sizeOf58
  v22 := Try.zeroValue58
  a24 := Try.isAgg3
  z24 := Try.sizeOf3
  t25 := Try.underlying55
  a25 := Try.isAgg55
  z25 := Try.sizeOf55
  v25 := Try.zeroValue55 }
open Go.RowKit Go.Lib Go.Sort in
/-- slices.partitionEqualCmpFunc at elements of one cell. (After Derived/Shelf/SlSortFuncK/PartitionK.lean, row for row.) (LAID AT THE INSTANCE 'slices.partitionEqualCmpFunc[int]': no walk: one application.) -/
theorem Try.partitionEqualCmpFunc {α : Type} [Inhabited α] (enc : α → Value) (cf : α → α → Int) (g : Nat) (cb : Array Value) (blk off cap a b pivot : Nat) (d0 d : Array α) (w0 w : World) (eg : ∀ args w, (callFunc g args).run Try.prog w = .ok (.enter g args) w) (hcmp : CmpLays1 Try.prog g cb enc cf blk off d0.size w0) (R : Row1 enc w0 blk off d0) (hs : d0.size = d.size) (S : SW enc w0 blk off d w) (hap : a ≤ pivot) (hpb : pivot < b) (hb : b ≤ d.size) (hsz : d.size < 4611686018427387904) :
    Calls Try.prog 67 #[.slice (some ⟨blk, off, none⟩) d.size cap, .int .i64 a, .int .i64 b, .int .i64 pivot, .func (.func g) #[] cb] w fun e w' =>
      e = .returned (.int .i64 (Sort.partitionEqual (ltOf cf) d a b pivot).1) ∧ SW enc w0 blk off (Sort.partitionEqual (ltOf cf) d a b pivot).2 w' := Any.partitionEqualCmpFunc Try.laysSlF26_f67 enc cf g cb blk off cap a b pivot d0 d w0 w eg hcmp R hs S hap hpb hb hsz
def Try.laysSlF27_f68_ren : Go.Shelf.Ren := ⟨fun | 27 => 68 | n => n, fun | 24 => 3 | 22 => 58 | 3 => 3 | 25 => 55 | 4 => 4 | 0 => 0 | n => n, fun | n => n⟩
theorem Try.laysSlF27_f68 : Go.Proofs.SlLaysF.n27 Try.prog Try.laysSlF27_f68_ren := {
  mixed := by kernel_rfl
  f27 := ⟨Try.f68.name, by decide, Try.func68.trans (congrArg some (by kernel_rfl))⟩
  t0 := Try.underlying0
  a0 := Try.isAgg0
  z0 := Try.sizeOf0
  v0 := Try.zeroValue0
  t3 := Try.underlying3
  a3 := Try.isAgg3
  z3 := Try.sizeOf3
  v3 := Try.zeroValue3
  t4 := Try.underlying4
  a4 := Try.isAgg4
  z4 := Try.sizeOf4
  v4 := Try.zeroValue4
  t22 := Try.underlying58
  a22 := Try.isAgg58
  z22 := Try.sizeOf58
  v22 := Try.zeroValue58
  a24 := Try.isAgg3
  z24 := Try.sizeOf3
  t25 := Try.underlying55
  a25 := Try.isAgg55
  z25 := Try.sizeOf55
  v25 := Try.zeroValue55 }
open Go.RowKit Go.Lib Go.Sort in
/-- slices.partitionCmpFunc at elements of one cell. (After Derived/Shelf/SlSortFuncK/PartitionK.lean, row for row.) (LAID AT THE INSTANCE 'slices.partitionCmpFunc[int]': no walk: one application.) -/
theorem Try.partitionCmpFunc {α : Type} [Inhabited α] (enc : α → Value) (cf : α → α → Int) (g : Nat) (cb : Array Value) (blk off cap a b pivot : Nat) (d0 d : Array α) (w0 w : World) (eg : ∀ args w, (callFunc g args).run Try.prog w = .ok (.enter g args) w) (hcmp : CmpLays1 Try.prog g cb enc cf blk off d0.size w0) (R : Row1 enc w0 blk off d0) (hs : d0.size = d.size) (S : SW enc w0 blk off d w) (hap : a ≤ pivot) (hpb : pivot < b) (hb : b ≤ d.size) (hsz : d.size < 4611686018427387904) :
    Calls Try.prog 68 #[.slice (some ⟨blk, off, none⟩) d.size cap, .int .i64 a, .int .i64 b, .int .i64 pivot, .func (.func g) #[] cb] w fun e w' =>
      e = .returned (.tuple #[.int .i64 (Sort.partition (ltOf cf) d a b pivot).1, .bool (Sort.partition (ltOf cf) d a b pivot).2.1]) ∧ SW enc w0 blk off (Sort.partition (ltOf cf) d a b pivot).2.2 w' := Any.partitionCmpFunc Try.laysSlF27_f68 enc cf g cb blk off cap a b pivot d0 d w0 w eg hcmp R hs S hap hpb hb hsz
def Try.laysSlF14_f56_ren : Go.Shelf.Ren := ⟨fun | 14 => 56 | 20 => 61 | 21 => 62 | 22 => 63 | 23 => 64 | 24 => 65 | 25 => 66 | 26 => 67 | 27 => 68 | 46 => 71 | 47 => 72 | 48 => 73 | 49 => 74 | 50 => 75 | 15 => 57 | 57 => 76 | 28 => 69 | 29 => 70 | n => n, fun | 24 => 3 | 22 => 58 | 3 => 3 | 25 => 55 | 4 => 4 | 0 => 0 | 46 => 86 | 45 => 85 | 50 => 90 | 66 => 95 | 39 => 80 | 55 => 38 | 70 => 99 | 76 => 101 | 77 => 61 | 53 => 93 | 5 => 5 | 9 => 9 | n => n, fun | n => n⟩
theorem Try.laysSlF14_f56 : Go.Proofs.SlLaysF.n14 Try.prog Try.laysSlF14_f56_ren := {
  mixed := by kernel_rfl
  f14 := ⟨Try.f56.name, by decide, Try.func56.trans (congrArg some (by kernel_rfl))⟩
  f15 := Try.func57.trans (congrArg some (by kernel_rfl))
  f20 := ⟨Try.f61.name, by decide, Try.func61.trans (congrArg some (by kernel_rfl))⟩
  f21 := ⟨Try.f62.name, by decide, Try.func62.trans (congrArg some (by kernel_rfl))⟩
  f22 := ⟨Try.f63.name, by decide, Try.func63.trans (congrArg some (by kernel_rfl))⟩
  f23 := ⟨Try.f64.name, by decide, Try.func64.trans (congrArg some (by kernel_rfl))⟩
  f24 := ⟨Try.f65.name, by decide, Try.func65.trans (congrArg some (by kernel_rfl))⟩
  f25 := ⟨Try.f66.name, by decide, Try.func66.trans (congrArg some (by kernel_rfl))⟩
  f26 := ⟨Try.f67.name, by decide, Try.func67.trans (congrArg some (by kernel_rfl))⟩
  f27 := ⟨Try.f68.name, by decide, Try.func68.trans (congrArg some (by kernel_rfl))⟩
  f28 := Try.func69.trans (congrArg some (by kernel_rfl))
  f29 := Try.func70.trans (congrArg some (by kernel_rfl))
  f46 := ⟨Try.f71.name, by decide, Try.func71.trans (congrArg some (by kernel_rfl))⟩
  f47 := Try.func72.trans (congrArg some (by kernel_rfl))
  f48 := Try.func73.trans (congrArg some (by kernel_rfl))
  f49 := ⟨Try.f74.name, by decide, Try.func74.trans (congrArg some (by kernel_rfl))⟩
  f50 := ⟨Try.f75.name, by decide, Try.func75.trans (congrArg some (by kernel_rfl))⟩
  f57 := ⟨Try.f76.name, by decide, Try.func76.trans (congrArg some (by kernel_rfl))⟩
  t0 := Try.underlying0
  a0 := Try.isAgg0
  z0 := Try.sizeOf0
  v0 := Try.zeroValue0
  t3 := Try.underlying3
  a3 := Try.isAgg3
  z3 := Try.sizeOf3
  v3 := Try.zeroValue3
  t4 := Try.underlying4
  a4 := Try.isAgg4
  z4 := Try.sizeOf4
  v4 := Try.zeroValue4
  t5 := Try.underlying5
  a5 := Try.isAgg5
  z5 := Try.sizeOf5
  v5 := Try.zeroValue5
  t9 := Try.underlying9
  a9 := Try.isAgg9
  z9 := Try.sizeOf9
  v9 := Try.zeroValue9
  t22 := Try.underlying58
  a22 := Try.isAgg58
  z22 := Try.sizeOf58
  v22 := Try.zeroValue58
  a24 := Try.isAgg3
  z24 := Try.sizeOf3
  t25 := Try.underlying55
  a25 := Try.isAgg55
  z25 := Try.sizeOf55
  v25 := Try.zeroValue55
  t39 := Try.underlying80
  a39 := Try.isAgg80
  z39 := Try.sizeOf80
  v39 := Try.zeroValue80
  t45 := Try.underlying85
  a45 := Try.isAgg85
  z45 := Try.sizeOf85
  v45 := Try.zeroValue85
  t46 := Try.underlying86
  a46 := Try.isAgg86
  z46 := Try.sizeOf86
  v46 := Try.zeroValue86
  t50 := Try.underlying90
  a50 := Try.isAgg90
  z50 := Try.sizeOf90
  v50 := Try.zeroValue90
  t53 := Try.underlying93
  a53 := Try.isAgg93
  z53 := Try.sizeOf93
  v53 := Try.zeroValue93
  t55 := Try.underlying38
  a55 := Try.isAgg38
  z55 := Try.sizeOf38
  v55 := Try.zeroValue38
  t66 := Try.underlying95
  a66 := Try.isAgg95
  z66 := Try.sizeOf95
  v66 := Try.zeroValue95
  t70 := Try.underlying99
  a70 := Try.isAgg99
  z70 := Try.sizeOf99
  v70 := Try.zeroValue99
  t76 := Try.underlying101
  a76 := Try.isAgg101
  z76 := Try.sizeOf101
  v76 := Try.zeroValue101
  t77 := Try.underlying61
  a77 := Try.isAgg61
  z77 := Try.sizeOf61
  v77 := Try.zeroValue61 }
open Go.RowKit Go.Lib Go.Sort in
/-- slices.pdqsortCmpFunc at elements of one cell, WHOLE. (After Derived/Shelf/SlSortFuncK/PdqK.lean, row for row: the slots and the regions' numbers are this body's.) (LAID AT THE INSTANCE 'slices.pdqsortCmpFunc[int]': no walk: one application.) -/
theorem Try.pdqsortCmpFunc_all {α : Type} [Inhabited α] (enc : α → Value) (cf : α → α → Int) (g : Nat) (cb : Array Value) (hO : SWO (ltOf cf)) (blk off cap : Nat) (d0 : Array α) (w0 : World) (eg : ∀ args w, (callFunc g args).run Try.prog w = .ok (.enter g args) w) (hcmp : CmpLays1 Try.prog g cb enc cf blk off d0.size w0) (R : Row1 enc w0 blk off d0) :
    ∀ (N a b limit : Nat) (d : Array α) (w : World), b - a < N → d0.size = d.size → SW enc w0 blk off d w → a ≤ b → b ≤ d.size → d.size < 4611686018427387904 → limit < 4611686018427387904 → Below (ltOf cf) a b d →
    Calls Try.prog 56 #[.slice (some ⟨blk, off, none⟩) d.size cap, .int .i64 a, .int .i64 b, .int .i64 limit, .func (.func g) #[] cb] w fun e w' => e = .returned (.tuple #[]) ∧ SW enc w0 blk off (pdq (ltOf cf) d a b limit true true) w' := Any.pdqsortCmpFunc_all Try.laysSlF14_f56 enc cf g cb hO blk off cap d0 w0 eg hcmp R
def Try.laysSlF6_f49_ren : Go.Shelf.Ren := ⟨fun | 6 => 49 | 15 => 57 | 14 => 56 | 28 => 69 | 29 => 70 | 20 => 61 | 21 => 62 | 22 => 63 | 23 => 64 | 24 => 65 | 25 => 66 | 26 => 67 | 27 => 68 | 46 => 71 | 47 => 72 | 48 => 73 | 49 => 74 | 50 => 75 | 57 => 76 | n => n, fun | 22 => 58 | 24 => 3 | 25 => 55 | 3 => 3 | 39 => 80 | 0 => 0 | 53 => 93 | 55 => 38 | 4 => 4 | 46 => 86 | 45 => 85 | 50 => 90 | 5 => 5 | 9 => 9 | 66 => 95 | 70 => 99 | 76 => 101 | 77 => 61 | n => n, fun | n => n⟩
theorem Try.laysSlF6_f49 : Go.Proofs.SlLaysF.n6 Try.prog Try.laysSlF6_f49_ren := {
  mixed := by kernel_rfl
  f6 := ⟨Try.f49.name, by decide, Try.func49.trans (congrArg some (by kernel_rfl))⟩
  f14 := ⟨Try.f56.name, by decide, Try.func56.trans (congrArg some (by kernel_rfl))⟩
  f15 := Try.func57.trans (congrArg some (by kernel_rfl))
  f20 := ⟨Try.f61.name, by decide, Try.func61.trans (congrArg some (by kernel_rfl))⟩
  f21 := ⟨Try.f62.name, by decide, Try.func62.trans (congrArg some (by kernel_rfl))⟩
  f22 := ⟨Try.f63.name, by decide, Try.func63.trans (congrArg some (by kernel_rfl))⟩
  f23 := ⟨Try.f64.name, by decide, Try.func64.trans (congrArg some (by kernel_rfl))⟩
  f24 := ⟨Try.f65.name, by decide, Try.func65.trans (congrArg some (by kernel_rfl))⟩
  f25 := ⟨Try.f66.name, by decide, Try.func66.trans (congrArg some (by kernel_rfl))⟩
  f26 := ⟨Try.f67.name, by decide, Try.func67.trans (congrArg some (by kernel_rfl))⟩
  f27 := ⟨Try.f68.name, by decide, Try.func68.trans (congrArg some (by kernel_rfl))⟩
  f28 := Try.func69.trans (congrArg some (by kernel_rfl))
  f29 := Try.func70.trans (congrArg some (by kernel_rfl))
  f46 := ⟨Try.f71.name, by decide, Try.func71.trans (congrArg some (by kernel_rfl))⟩
  f47 := Try.func72.trans (congrArg some (by kernel_rfl))
  f48 := Try.func73.trans (congrArg some (by kernel_rfl))
  f49 := ⟨Try.f74.name, by decide, Try.func74.trans (congrArg some (by kernel_rfl))⟩
  f50 := ⟨Try.f75.name, by decide, Try.func75.trans (congrArg some (by kernel_rfl))⟩
  f57 := ⟨Try.f76.name, by decide, Try.func76.trans (congrArg some (by kernel_rfl))⟩
  t0 := Try.underlying0
  a0 := Try.isAgg0
  z0 := Try.sizeOf0
  v0 := Try.zeroValue0
  t3 := Try.underlying3
  a3 := Try.isAgg3
  z3 := Try.sizeOf3
  v3 := Try.zeroValue3
  t4 := Try.underlying4
  a4 := Try.isAgg4
  z4 := Try.sizeOf4
  v4 := Try.zeroValue4
  t5 := Try.underlying5
  a5 := Try.isAgg5
  z5 := Try.sizeOf5
  v5 := Try.zeroValue5
  t9 := Try.underlying9
  a9 := Try.isAgg9
  z9 := Try.sizeOf9
  v9 := Try.zeroValue9
  t22 := Try.underlying58
  a22 := Try.isAgg58
  z22 := Try.sizeOf58
  v22 := Try.zeroValue58
  a24 := Try.isAgg3
  z24 := Try.sizeOf3
  t25 := Try.underlying55
  a25 := Try.isAgg55
  z25 := Try.sizeOf55
  v25 := Try.zeroValue55
  t39 := Try.underlying80
  a39 := Try.isAgg80
  z39 := Try.sizeOf80
  v39 := Try.zeroValue80
  t45 := Try.underlying85
  a45 := Try.isAgg85
  z45 := Try.sizeOf85
  v45 := Try.zeroValue85
  t46 := Try.underlying86
  a46 := Try.isAgg86
  z46 := Try.sizeOf86
  v46 := Try.zeroValue86
  t50 := Try.underlying90
  a50 := Try.isAgg90
  z50 := Try.sizeOf90
  v50 := Try.zeroValue90
  t53 := Try.underlying93
  a53 := Try.isAgg93
  z53 := Try.sizeOf93
  v53 := Try.zeroValue93
  t55 := Try.underlying38
  a55 := Try.isAgg38
  z55 := Try.sizeOf38
  v55 := Try.zeroValue38
  t66 := Try.underlying95
  a66 := Try.isAgg95
  z66 := Try.sizeOf95
  v66 := Try.zeroValue95
  t70 := Try.underlying99
  a70 := Try.isAgg99
  z70 := Try.sizeOf99
  v70 := Try.zeroValue99
  t76 := Try.underlying101
  a76 := Try.isAgg101
  z76 := Try.sizeOf101
  v76 := Try.zeroValue101
  t77 := Try.underlying61
  a77 := Try.isAgg61
  z77 := Try.sizeOf61
  v77 := Try.zeroValue61 }
open Go.RowKit Go.Lib Go.Sort in
/-- **slices.SortFunc: WHAT THE ROW HOLDS, TO THE ELEMENT.** (LAID AT THE INSTANCE 'slices.SortFunc[[]int,int]': no walk: one application.) -/
theorem Try.slices_SortFunc_eq {α : Type} [Inhabited α] (enc : α → Value) (h1 : OneCell enc) (cf : α → α → Int) (hO : SWO (ltOf cf)) (g : Nat) (cb : Array Value) (blk off cap : Nat) (d : Array α) (w : World) (eg : ∀ args w, (callFunc g args).run Try.prog w = .ok (.enter g args) w) (hcmp : CmpLays1 Try.prog g cb enc cf blk off d.size w) (hH : Holds enc w blk off d) (hblk : blk < w.heap.size) (hsz : d.size < 4611686018427387904) :
    Calls Try.prog 49 #[.slice (some ⟨blk, off, none⟩) d.size cap, .func (.func g) #[] cb] w fun e w' =>
      e = .returned (.tuple #[]) ∧ ∃ n os, w' = sortWorld enc w blk off n (pdq (ltOf cf) d 0 d.size (Lib.bitLen d.size) true true) os := Any.slices_SortFunc_eq Try.laysSlF6_f49 enc h1 cf hO g cb blk off cap d w eg hcmp hH hblk hsz
open Go.RowKit Go.Lib Go.Sort in
/-- **slices.SortFunc, IN THE DOCUMENTATION's OWN TERMS: A PERMUTATION OF WHAT THE ROW HELD, SORTED BY 'cmp(a, b) < 0'.** Which of two equals comes first is left open ("The sort is not guaranteed to be stable"). (LAID AT THE INSTANCE 'slices.SortFunc[[]int,int]': no walk: one application.) -/
theorem Try.slices_SortFunc {α : Type} [Inhabited α] (enc : α → Value) (h1 : OneCell enc) (cf : α → α → Int) (hO : SWO (ltOf cf)) (g : Nat) (cb : Array Value) (blk off cap : Nat) (d : Array α) (w : World) (eg : ∀ args w, (callFunc g args).run Try.prog w = .ok (.enter g args) w) (hcmp : CmpLays1 Try.prog g cb enc cf blk off d.size w) (hH : Holds enc w blk off d) (hblk : blk < w.heap.size) (hsz : d.size < 4611686018427387904) :
    Calls Try.prog 49 #[.slice (some ⟨blk, off, none⟩) d.size cap, .func (.func g) #[] cb] w fun e w' =>
      e = .returned (.tuple #[]) ∧ ∃ d' n os, PermIn 0 d.size d d' ∧ SortedIn (ltOf cf) 0 d.size d' ∧ w' = sortWorld enc w blk off n d' os := Any.slices_SortFunc Try.laysSlF6_f49 enc h1 cf hO g cb blk off cap d w eg hcmp hH hblk hsz
end Go.Proofs
end
section
/- ast.grouped's closures, and the order that they sort into. -/
namespace Go.Proofs.Ytjeoiebdchlilaa.DSort
open Go.RowKit Go.Lib Go.Sort CMem DRow DDeep DSpec DGrp Q Go.Proofs.YtjeoiebdchlilaaW.PrintWords Go.Proofs.YtjeoiebdchlilaaW.PrintLast Go.Proofs.YtjeoiebdchlilaaW.PrintMore
set_option linter.unusedVariables false
set_option linter.unusedSimpArgs false
set_option maxRecDepth 100000
theorem begin_calls (g3 p n c i : Nat) (s : Int) (W : World) (h1 : W.cell? ⟨g3, 0, none⟩ = some (.slice (some ⟨p, 0, none⟩) n c)) (h2 : W.cell? ⟨p, i, none⟩ = some (.int .i64 s)) (hi : i < n) (hs : 0 ≤ s ∧ s ≤ 1000) (hn : n ≤ 1000) :
    Calls Try.prog 48 #[.int .i64 (i : Nat), .pointer (some ⟨g3, 0, none⟩)] W fun e w' => e = .returned (.int .i64 ((i : Int) - s + 1)) ∧ w' = W := by
  have hi2 : (i : Int) < (n : Int) := by omega
  go_enter Try.func48, Try.ntmps48
  go_wp2
  go_ret
  exact ⟨rfl, rfl⟩
/-- how two are compared -/
def cmpi (S : Nat → Int) (x y : Nat) : Int := if ((x : Int) - S x + 1) - ((y : Int) - S y + 1) ≠ 0 then ((x : Int) - S x + 1) - ((y : Int) - S y + 1) else S y - S x
set_option maxHeartbeats 3200000 in
theorem cmp_calls (g3 g8 p n c x y : Nat) (S : Nat → Int) (W : World) (h1 : W.cell? ⟨g3, 0, none⟩ = some (.slice (some ⟨p, 0, none⟩) n c)) (h8 : W.cell? ⟨g8, 0, none⟩ = some (.func (.func 48) #[] #[.pointer (some ⟨g3, 0, none⟩)]))
    (hx : W.cell? ⟨p, x, none⟩ = some (.int .i64 (S x))) (hy : W.cell? ⟨p, y, none⟩ = some (.int .i64 (S y))) (hxn : x < n) (hyn : y < n) (hS : ∀ i, i < n → 0 ≤ S i ∧ S i ≤ 1000) (hn : n ≤ 1000) :
    Calls Try.prog 50 #[.int .i64 (x : Nat), .int .i64 (y : Nat), .pointer (some ⟨g8, 0, none⟩), .pointer (some ⟨g3, 0, none⟩)] W fun e w' => e = .returned (.int .i64 (cmpi S x y)) ∧ ∃ q, w' = W.drewN q := by
  have hE : cmpi S x y = if ((x : Int) - S x + 1) - ((y : Int) - S y + 1) ≠ 0 then ((x : Int) - S x + 1) - ((y : Int) - S y + 1) else S y - S x := rfl
  have hx2 : (x : Int) < (n : Int) := by omega
  have hy2 : (y : Int) < (n : Int) := by omega
  have hSx := hS x hxn
  have hSy := hS y hyn
  have KX : ∀ k, Calls Try.prog 48 #[.int .i64 (x : Nat), .pointer (some ⟨g3, 0, none⟩)] (W.drewN k) fun e w' => e = .returned (.int .i64 ((x : Int) - S x + 1)) ∧ ∃ m, w' = W.drewN m := fun k => Calls.quiet_of_same (begin_calls g3 p n c x (S x) (W.drewN k) h1 hx hxn hSx hn)
  have KY : ∀ k, Calls Try.prog 48 #[.int .i64 (y : Nat), .pointer (some ⟨g3, 0, none⟩)] (W.drewN k) fun e w' => e = .returned (.int .i64 ((y : Int) - S y + 1)) ∧ ∃ m, w' = W.drewN m := fun k => Calls.quiet_of_same (begin_calls g3 p n c y (S y) (W.drewN k) h1 hy hyn hSy hn)
  obtain ⟨bx, hbx⟩ : ∃ z, (x : Int) - S x + 1 = z := ⟨_, rfl⟩
  obtain ⟨by_, hby⟩ : ∃ z, (y : Int) - S y + 1 = z := ⟨_, rfl⟩
  rw [hbx, hby] at hE
  rw [hbx] at KX
  rw [hby] at KY
  have rx : -2000 ≤ bx ∧ bx ≤ 2000 := by omega
  have ry : -2000 ≤ by_ ∧ by_ ≤ 2000 := by omega
  generalize S x = sx at *
  generalize S y = sy at *
  generalize cmpi S x y = R at *
  clear hbx hby hS
  have eg : ∀ args w, (callFunc 48 args).run Try.prog w = .ok (.enter 48 args) w := enters_of Try.func48 (by kernel_rfl) rfl
  go_enter Try.func50, Try.ntmps50
  go_wp2
  go_quiet (first | exact KX _ | exact KY _)
  by_cases hd : bx - by_ = 0
  · have d1 : (bx - by_ != 0) = false := by simp [hd]
    rw [if_neg (by omega)] at hE
    clear KX KY hd
    go_wp2
    go_quiet (fail)
    go_wp2
    go_ret
    exact ⟨by rw [hE]; rfl, _, World.drewN_drewN _ _ _⟩
  · have d1 : (bx - by_ != 0) = true := by simp [hd]
    rw [if_pos hd] at hE
    clear KX KY hd
    go_wp2
    go_ret
    exact ⟨by rw [hE]; rfl, _, rfl⟩
theorem cmpi_swo (n : Nat) (S : Nat → Int) : SWO (ltOf fun x y : {i : Nat // i < n} => cmpi S x.1 y.1) where
  irrefl x := by simp [ltOf, cmpi]
  trans x y z h1 h2 := by
    simp only [ltOf, decide_eq_true_eq] at *
    unfold cmpi at *
    split at h1 <;> split at h2 <;> split <;> omega
  ntrans x y z h1 h2 := by
    simp only [ltOf, decide_eq_false_iff_not] at *
    unfold cmpi at *
    split at h1 <;> split at h2 <;> split <;> omega
def encN (n : Nat) (x : {i : Nat // i < n}) : Value := .int .i64 (x.1 : Int)
theorem heap_sortWorld {α : Type} [Inhabited α] (enc : α → Value) (w : World) (blk m : Nat) (d : Array α) (os : Array Obj) (k : Nat) (hk : k ≠ blk) (hl : k < w.heap.size) : (sortWorld enc w blk 0 m d os).heap[k]? = w.heap[k]? := by
  show ((w.heap.modify blk (onCells (putCells enc 0 d))) ++ os)[k]? = _
  rw [Array.getElem?_append_left (by simpa using hl), Array.getElem?_modify, if_neg (fun e => hk e.symm)]
theorem below_sortWorld {α : Type} [Inhabited α] (enc : α → Value) {w0 w : World} {base : Nat} (blk m : Nat) (d : Array α) (os : Array Obj) (hb : Below base w0 w) (hblk : base ≤ blk) (hsz : base ≤ w.heap.size) : Below base w0 (sortWorld enc w blk 0 m d os) :=
  ⟨hb.os, hb.tape, hb.output, Nat.le_trans hb.size (by show _ ≤ ((w.heap.modify blk _) ++ os).size; simp), fun k hk => (heap_sortWorld enc w blk m d os k (by omega) (by omega)).trans (hb.block k hk)⟩
/-- what the sort leaves: the places, in order; all else as it was -/
theorem sort_calls (g3 g8 p n c blk cap base : Nat) (S : Nat → Int) (l : List Nat) (hl : ∀ x, x ∈ l → x < n) (w0 W : World) (h3 : W.cell? ⟨g3, 0, none⟩ = some (.slice (some ⟨p, 0, none⟩) n c)) (h8 : W.cell? ⟨g8, 0, none⟩ = some (.func (.func 48) #[] #[.pointer (some ⟨g3, 0, none⟩)]))
    (hS : ∀ i, i < n → W.cell? ⟨p, i, none⟩ = some (.int .i64 (S i))) (hb : ∀ i, i < n → 0 ≤ S i ∧ S i ≤ 1000) (hn : n ≤ 1000) (n3 : g3 ≠ blk) (n8 : g8 ≠ blk) (np : p ≠ blk) (l3 : g3 < W.heap.size) (l8 : g8 < W.heap.size) (lp : p < W.heap.size) (lb : blk < W.heap.size) (hpos : 0 < l.length) (hlen : l.length ≤ 1000)
    (hrow : ∀ i (h : i < l.length), W.cell? ⟨blk, i, none⟩ = some (.int .i64 ((l[i]'h : Nat) : Int)) ∧ W.frozen? ⟨blk, i, none⟩ = false) (hB : Below base w0 W) (hbase : base ≤ blk) (hbs : base ≤ W.heap.size) :
    Calls Try.prog 49 #[.slice (some ⟨blk, 0, none⟩) l.length cap, .func (.func 50) #[] #[.pointer (some ⟨g8, 0, none⟩), .pointer (some ⟨g3, 0, none⟩)]] W fun e w' => e = .returned (.tuple #[]) ∧
      ∃ l' : List Nat, l.Perm l' ∧ (l'.Pairwise fun a b => ¬ cmpi S b a < 0) ∧ (∀ i (h : i < l'.length), w'.cell? ⟨blk, i, none⟩ = some (.int .i64 ((l'[i]'h : Nat) : Int))) ∧ (∀ k, k ≠ blk → k < W.heap.size → w'.heap[k]? = W.heap[k]?) ∧ Below base w0 w' ∧ W.heap.size ≤ w'.heap.size := by
  obtain ⟨z0, hz0⟩ : ∃ z, z ∈ l := List.exists_mem_of_length_pos hpos
  haveI : Inhabited {i : Nat // i < n} := ⟨⟨z0, hl _ hz0⟩⟩
  have eg : ∀ args w, (callFunc 50 args).run Try.prog w = .ok (.enter 50 args) w := enters_of Try.func50 (by kernel_rfl) rfl
  obtain ⟨d, hd⟩ : ∃ d : Array {i : Nat // i < n}, d = (l.attach.map fun x => (⟨x.1, hl x.1 x.2⟩ : {i : Nat // i < n})).toArray := ⟨_, rfl⟩
  have hds : d.size = l.length := by rw [hd]; simp
  have hdl : d.toList.map (fun x => x.1) = l := by rw [hd]; simp
  have hdi : ∀ i (h : i < l.length), (d[i]!).1 = l[i]'h := by
    intro i h
    rw [getElem!_pos d i (by omega)]
    subst hd
    simp
  have hH : Holds (encN n) W blk 0 d := by
    intro j hj
    have hj' : j < l.length := by omega
    rw [Nat.zero_add]
    refine ⟨?_, (hrow j hj').2⟩
    rw [(hrow j hj').1]
    unfold encN
    rw [hdi j hj']
  have hcmp : CmpLays1 Try.prog 50 #[.pointer (some ⟨g8, 0, none⟩), .pointer (some ⟨g3, 0, none⟩)] (encN n) (fun x y => cmpi S x.1 y.1) blk 0 d.size W := by
    intro m os dk hs x y
    have hc : ∀ g i v, g ≠ blk → g < W.heap.size → W.cell? ⟨g, i, none⟩ = some v → (sortWorld (encN n) W blk 0 m dk os).cell? ⟨g, i, none⟩ = some v := by
      intro g i v h1 h2 h3
      rw [← h3]
      unfold World.cell?
      rw [heap_sortWorld (encN n) W blk m dk os g h1 h2]
    refine (cmp_calls g3 g8 p n c x.1 y.1 S _ (hc _ _ _ n3 l3 h3) (hc _ _ _ n8 l8 h8) (hc _ _ _ np lp (hS _ x.2)) (hc _ _ _ np lp (hS _ y.2)) x.2 y.2 hb hn).mono ?_
    rintro e w' ⟨he, q, hw⟩
    exact ⟨he, q, #[], by rw [hw, grow_empty]⟩
  have h := Try.slices_SortFunc (encN n) (fun _ => rfl) (fun x y => cmpi S x.1 y.1) (cmpi_swo n S) 50 #[.pointer (some ⟨g8, 0, none⟩), .pointer (some ⟨g3, 0, none⟩)] blk 0 cap d W eg hcmp hH lb (by omega)
  rw [hds] at h
  refine h.mono ?_
  rintro e w' ⟨he, d', m, os, hperm, hsort, rfl⟩
  refine ⟨he, d'.toList.map (fun x => x.1), ?_, ?_, ?_, fun k h1 h2 => heap_sortWorld _ _ _ _ _ _ k h1 h2, below_sortWorld _ blk m d' os hB hbase hbs, ?_⟩
  · have hp := hperm.2.2
    have hs' : d'.size = d.size := hperm.1
    rw [show d'.extract 0 l.length = d' by rw [← hds, ← hs']; exact Array.extract_size, show d.extract 0 l.length = d by rw [← hds]; exact Array.extract_size] at hp
    have := hp.map (fun x => x.1)
    rw [hdl] at this
    exact this.symm
  · rw [List.pairwise_iff_getElem]
    intro i j hi hj hij
    have hi' : i < d'.size := by simpa using hi
    have hj' : j < d'.size := by simpa using hj
    have hs' : d'.size = d.size := hperm.1
    have hx := hsort i j (Nat.zero_le _) hij (by omega)
    rw [getElem!_pos d' i hi', getElem!_pos d' j hj'] at hx
    simp only [List.getElem_map, Array.getElem_toList]
    unfold ltOf at hx
    simpa using hx
  · intro i hi
    have hi' : i < d'.size := by simpa using hi
    have hs' : d'.size = d.size := hperm.1
    have hh := (holds_sortWorld (encN n) W blk 0 m d d' os lb hH hs' i hi').1
    rw [Nat.zero_add] at hh
    rw [hh, getElem!_pos d' i hi']
    simp [encN]
  · show _ ≤ ((W.heap.modify blk _) ++ os).size
    simp
end Go.Proofs.Ytjeoiebdchlilaa.DSort
end
section
/- ast.sizes, depths, lens: what they answer; slices.Max of depths. -/
namespace Go.Proofs.Ytjeoiebdchlilaa.DCon
open Go.RowKit CMem DRow DDeep DSizes DFits DLens DSpec DGrp DSort Q Go.Proofs.YtjeoiebdchlilaaW.PrintWords Go.Proofs.YtjeoiebdchlilaaW.PrintLast Go.Proofs.YtjeoiebdchlilaaW.PrintMore
set_option linter.unusedVariables false
set_option linter.unusedSimpArgs false
set_option maxRecDepth 100000
theorem sort_none (p : Option Addr) (cap : Nat) (fv : Value) (w : World) : Calls Try.prog 49 #[.slice p 0 cap, fv] w fun e w' => e = .returned (.tuple #[]) ∧ w' = w :=
  AnyF.slices_SortFunc_none { Try.laysSlF6_f49 with } p cap fv w
/-- the first node that does not stand in order -/
theorem first_bad (L : List S43) : ∀ n : Nat, ∃ j, j ≤ n ∧ (∀ i, i < j → sz L i ≠ 0) ∧ (j < n → sz L j = 0)
  | 0 => ⟨0, Nat.le_refl _, fun i h => absurd h (Nat.not_lt_zero _), fun h => absurd h (Nat.not_lt_zero _)⟩
  | n + 1 => by
    obtain ⟨j, h1, h2, h3⟩ := first_bad L n
    by_cases e : j < n
    · exact ⟨j, by omega, h2, fun _ => h3 e⟩
    · obtain rfl : j = n := by omega
      by_cases hz : sz L j = 0
      · exact ⟨j, by omega, h2, fun _ => hz⟩
      · refine ⟨j + 1, Nat.le_refl _, fun i hi => ?_, fun h => absurd h (Nat.lt_irrefl _)⟩
        by_cases hi2 : i = j
        · rw [hi2]; exact hz
        · exact h2 i (by omega)
theorem ord_pos {L : List S43} (h : ord L = true) : 0 < L.length := by
  simp only [ord, Bool.and_eq_true, decide_eq_true_eq, beq_iff_eq] at h
  exact h.1
theorem ord_sz {L : List S43} (h : ord L = true) : sz L (L.length - 1) = (L.length : Int) := by
  simp only [ord, Bool.and_eq_true, decide_eq_true_eq, beq_iff_eq] at h
  exact h.2
theorem sizes_calls (A : Option Addr) (c : Nat) (L : List S43) (n : Nat) (hn : L.length = n) (hn2 : n ≤ 1000) (w : World) (hr : Kd.C k43 w A n L) :
    Calls Try.prog 36 #[.agg #[.slice A n c]] w fun e w' => (∃ v, e = .returned (.tuple #[v, .bool (ord L)]) ∧ (ord L = true → ∃ p, w.heap.size ≤ p ∧ v = .slice (some ⟨p, 0, none⟩) n n ∧ w'.heap[p]? = some (.cells (ic (sz L) n) 3 (0, 0)))) ∧ Below w.heap.size w w' := by
  obtain ⟨j, hj, h1, h2⟩ := first_bad L n
  have hwf : ∀ i, i < j → Wf L i := fun i hi => sz_wf L i (h1 i hi)
  refine (sizes_walk fit fits_calls A c L n hn hn2 (sz L) j hj (fun i hi => ⟨sz L i, stp_of_wf (hwf i hi), (hwf i hi).1, rfl, wf_pos (hwf i hi), (sz_rng L i).2⟩) (fun h => not_good h1 (h2 h)) w hr).mono ?_
  rintro e w' ⟨h, hb⟩
  refine ⟨?_, hb⟩
  by_cases hjn : j < n
  · rw [if_pos hjn] at h
    have ho : ord L = false := by
      cases hc : ord L
      · rfl
      · exact absurd (h2 hjn) (by have := wf_pos (ord_wf hc j (by omega)); omega)
    rw [ho]
    exact ⟨_, h, fun h => by cases h⟩
  · rw [if_neg hjn] at h
    obtain ⟨p, hp, he, hh⟩ := h
    have ho : (decide (0 < n) && sz L (n - 1) == (n : Int)) = ord L := by unfold ord; rw [hn]
    rw [ho] at he
    exact ⟨_, he, fun _ => ⟨p, hp, rfl, hh⟩⟩
theorem depths_calls (A : Option Addr) (c : Nat) (L : List S43) (n : Nat) (hn : L.length = n) (hn2 : n ≤ 999) (ho : ord L = true) (w : World) (hr : Kd.C k43 w A n L) :
    Calls Try.prog 37 #[.agg #[.slice A n c]] w fun e w' => (∃ p, w.heap.size ≤ p ∧ e = .returned (.slice (some ⟨p, 0, none⟩) n n) ∧ w'.heap[p]? = some (.cells (ic (dp L) n) 3 (0, 0))) ∧ Below w.heap.size w w' := by
  have hw := fun i (hi : i < n) => ord_wf ho i (by omega)
  exact depths_walk A c L n hn (by omega) (dp L) (fun i hi => dp_ok L n hw i hi) (fun i hi => by have := dp_rng L n hw i hi; omega) w hr
theorem lens_calls (A : Option Addr) (c : Nat) (L : List S43) (n : Nat) (hn : L.length = n) (hn2 : n ≤ 1000) (ho : ord L = true) (w : World) (hr : Kd.C k43 w A n L) :
    Calls Try.prog 31 #[.agg #[.slice A n c]] w fun e w' => (∃ p q, p ≠ q ∧ e = .returned (.tuple #[.slice (some ⟨p, 0, none⟩) n n, .slice (some ⟨q, 0, none⟩) n n]) ∧ w.heap.size ≤ p ∧ w.heap.size ≤ q ∧ w'.heap[p]? = some (.cells (ic (fun m => (ln L m).1) n) 3 (0, 0)) ∧ w'.heap[q]? = some (.cells (ic (fun m => (ln L m).2) n) 3 (0, 0))) ∧ Below w.heap.size w w' := by
  have hw := fun i (hi : i < n) => ord_wf ho i (by omega)
  exact lens_walk A c L n hn hn2 (fun m => (ln L m).1) (fun m => (ln L m).2) (fun i hi => ln_ok L n hw i hi) (fun i hi => (ln_rng L n hw i hi).2) w hr
theorem maxOf_upto (D : Nat → Int) (n : Nat) : ∀ k, 0 < k → k ≤ n → (∀ i, i < k → D i ≤ D (k - 1)) → Lib.maxOf (((List.range n).map D).take k) = D (k - 1) → True := fun _ _ _ _ _ => trivial
theorem maxOf_all (D : Nat → Int) (n : Nat) : ∀ k, 0 < k → k ≤ n → (∀ i, i < k → D i ≤ Lib.maxOf (((List.range n).map D).take k)) ∧ ∃ i, i < k ∧ Lib.maxOf (((List.range n).map D).take k) = D i
  | 0, h, _ => absurd h (Nat.lt_irrefl _)
  | 1, _, h => by
    have h0 : Lib.maxOf (((List.range n).map D).take 1) = D 0 := by
      rw [Lib.maxOf_one]
      simp [List.getD_eq_getElem?_getD, show 0 < n by omega]
    rw [h0]
    refine ⟨fun i hi => ?_, 0, Nat.one_pos, rfl⟩
    obtain rfl : i = 0 := by omega
    exact Int.le_refl _
  | k + 2, _, h => by
    obtain ⟨h1, i, h2, h3⟩ := maxOf_all D n (k + 1) (by omega) (by omega)
    have hs : Lib.maxOf (((List.range n).map D).take (k + 2)) = max (Lib.maxOf (((List.range n).map D).take (k + 1))) (D (k + 1)) := by
      rw [Lib.maxOf_step _ (k + 1) (by omega) (by simp; omega)]
      simp [List.getD_eq_getElem?_getD, show k + 1 < n by omega]
    rw [hs]
    refine ⟨fun m hm => ?_, ?_⟩
    · by_cases e : m < k + 1
      · have := h1 m e; omega
      · obtain rfl : m = k + 1 := by omega
        omega
    · by_cases e : Lib.maxOf (((List.range n).map D).take (k + 1)) ≤ D (k + 1)
      · exact ⟨k + 1, by omega, by omega⟩
      · exact ⟨i, by omega, by omega⟩
theorem max_calls (p n : Nat) (D : Nat → Int) (hn : 0 < n) (hn2 : n ≤ 1000) (hD : ∀ i, i < n → D i ≤ D (n - 1)) (w : World) (h : w.heap[p]? = some (.cells (ic D n) 3 (0, 0))) :
    Calls Try.prog 44 #[.slice (some ⟨p, 0, none⟩) n n] w fun e w' => e = .returned (.int .i64 (D (n - 1))) ∧ w' = w := by
  have hm : Lib.maxOf (((List.range n).map D).take n) = D (n - 1) := by
    obtain ⟨h1, i, h2, h3⟩ := maxOf_all D n n hn (Nat.le_refl _)
    have := h1 (n - 1) (by omega)
    have := hD i h2
    omega
  rw [← hm]
  refine Try.slices_Max_int p 0 n n ((List.range n).map D) w hn (by simp) (by omega) (fun j hj => ?_)
  have hj2 : j < n := by simpa using hj
  rw [Nat.zero_add, blk_cell h j _ (ic_at D n j hj2)]
  simp [List.getD_eq_getElem?_getD, hj2]
/-- what is wrong with a tree, but its groups, and what is behind -/
def frm (L : List S43) : Int := if ord L = true then (if dp L (L.length - 1) > 40 then 4 else 0) else 3
def dep (L : List S43) : Int := if ord L = true then dp L (L.length - 1) else 0
theorem dp_max {L : List S43} (ho : ord L = true) (i : Nat) (hi : i < L.length) : dp L i ≤ dp L (L.length - 1) := by
  have hw := fun i (hi : i < L.length) => ord_wf ho i hi
  have := ord_sz ho
  have := ord_pos ho
  exact dp_most L L.length hw (L.length - 1) (by omega) i (by omega) (by omega)
set_option maxHeartbeats 6400000 in
theorem formed_calls (A : Option Addr) (c : Nat) (L : List S43) (n : Nat) (hn : L.length = n) (hn2 : n ≤ 500) (w : World) (hr : Kd.C k43 w A n L) :
    Calls Try.prog 30 #[.agg #[.slice A n c]] w fun e w' => e = .returned (.int .i64 (frm L)) ∧ Below w.heap.size w w' := by
  obtain ⟨R, hRdef⟩ : ∃ R, frm L = R := ⟨_, rfl⟩
  rw [hRdef]
  have BT := Lib.hid (heap_alloc_new w (.cells #[.slice A n c] 24))
  have HB := Lib.hid (below1 w (.cells #[.slice A n c] 24))
  have HR := Lib.hid (Kd.C_below hr HB.out)
  have t0 := blk_cell BT.out 0 (.slice A n c) rfl
  have hgt : decide ((n : Int) > 500) = false := by simp; omega
  clear hr
  go_enter Try.func30, Try.ntmps30
  go_wp2_with fail
  generalize hW : w.alloc (.cells #[.slice A n c] 24) = v0 at *
  clear hW
  refine (sizes_calls A c L n hn (by omega) v0 HR.out).mono ?_
  rintro e w1 ⟨⟨v, rfl, hv⟩, hb⟩
  have BT1 := Lib.hid (below_blk hb BT.out)
  have HR1 := Lib.hid (Kd.C_below HR.out hb)
  have HB1 := Lib.hid (below_step HB.out hb)
  have t1 := blk_cell BT1.out 0 (.slice A n c) rfl
  clear hb BT HB HR t0 hv
  cases ho : ord L
  · obtain rfl : R = 3 := by rw [← hRdef]; unfold frm; rw [ho]; rfl
    clear hRdef
    go_wp2
    go_ret
    exact ⟨rfl, HB1.out⟩
  · have hpos := ord_pos ho
    have K2 := Lib.hid (fun W h => depths_calls A c L n hn (by omega) ho W h)
    have KM := Lib.hid (fun p W h => max_calls p n (dp L) (by omega) (by omega) (fun i hi => by have := dp_max ho i (by omega); rw [hn] at this; exact this) W h)
    have hf : R = if dp L (n - 1) > 40 then 4 else 0 := by rw [← hRdef]; unfold frm; rw [if_pos ho, hn]
    clear hRdef
    generalize dp L (n - 1) = M at *
    go_wp2_with fail
    refine (K2.out _ HR1.out).mono ?_
    rintro e w2 ⟨⟨p, hp, rfl, hh⟩, hb⟩
    have HB2 := Lib.hid (below_step HB1.out hb)
    have KM2 := Lib.hid (KM.out p w2 hh)
    clear hb BT1 HR1 HB1 t1 hh
    go_wp2_with fail
    refine KM2.out.mono ?_
    rintro e w3 ⟨rfl, rfl⟩
    by_cases hM : M > 40
    · have d1 : decide (M > 40) = true := by simp [hM]
      rw [if_pos hM] at hf
      subst hf
      go_wp2
      go_ret
      exact ⟨rfl, HB2.out⟩
    · have d1 : decide (M > 40) = false := by simp [hM]
      rw [if_neg hM] at hf
      subst hf
      go_wp2
      go_ret
      exact ⟨rfl, HB2.out⟩
end Go.Proofs.Ytjeoiebdchlilaa.DCon
end
section
/- slices.ContainsFunc at nodes, with grouped's closure: their walks. -/
namespace Go.Proofs.Ytjeoiebdchlilaa.DOdd
open Go.RowKit CMem DRow DDeep DSizes Q Go.Proofs.YtjeoiebdchlilaaW.PrintWords Go.Proofs.YtjeoiebdchlilaaW.PrintLast Go.Proofs.YtjeoiebdchlilaaW.PrintMore
set_option linter.unusedVariables false
set_option linter.unusedSimpArgs false
set_option maxRecDepth 100000
def oddb (k : Nat) (x : S43) : Bool := x.f0 == 12 && (decide (x.f7 < 1) || decide (x.f7 > (k : Int)))
set_option maxHeartbeats 6400000 in
theorem odd_calls (g5 k cap : Nat) (A : Option Addr) (x : S43) (w : World) (h5 : w.cell? ⟨g5, 0, none⟩ = some (.slice A k cap)) :
    Calls Try.prog 51 #[.agg (nc x), .pointer (some ⟨g5, 0, none⟩)] w fun e w' => e = .returned (.bool (oddb k x)) ∧ Below w.heap.size w w' := by
  obtain ⟨xk, xa, xb, ⟨⟨s0, s1, s2, s3⟩⟩, x4, x5, x6, x7, x8⟩ := x
  have hlt := World.block_lt_of_cell? w _ h5
  unfold nc
  simp only []
  have HB := Lib.hid (below1 w (.cells #[.int .i64 xk, .int .i64 xa, .int .i64 xb, .int .u64 s0, .int .u64 s1, .int .u64 s2, .int .u64 s3, .int .i64 x4, .int .i64 x5, .int .i64 x6, .int .i64 x7, .bool x8] 43))
  have BN := heap_alloc_new w (.cells #[.int .i64 xk, .int .i64 xa, .int .i64 xb, .int .u64 s0, .int .u64 s1, .int .u64 s2, .int .u64 s3, .int .i64 x4, .int .i64 x5, .int .i64 x6, .int .i64 x7, .bool x8] 43)
  have n0 := blk_cell BN 0 (.int .i64 xk) rfl
  have n7 := blk_cell BN 10 (.int .i64 x7) rfl
  have g0 := below_of HB.out h5
  clear BN hlt h5
  by_cases h12 : xk = 12
  · subst h12
    by_cases h1 : x7 < 1
    · have d1 : decide (x7 < 1) = true := by simp [h1]
      have hr : oddb k ⟨12, xa, xb, ⟨⟨s0, s1, s2, s3⟩⟩, x4, x5, x6, x7, x8⟩ = true := by unfold oddb; simp [h1]
      rw [hr]
      clear hr
      go_enter Try.func51, Try.ntmps51
      go_wp2
      all_goals go_ret
      all_goals exact ⟨rfl, by first | exact HB.out | exact HB.out.drew | exact below_drewN HB.out _⟩
    · have d1 : decide (x7 < 1) = false := by simp [h1]
      have hr : oddb k ⟨12, xa, xb, ⟨⟨s0, s1, s2, s3⟩⟩, x4, x5, x6, x7, x8⟩ = decide (x7 > (k : Int)) := by unfold oddb; simp [h1]
      rw [hr]
      clear hr
      go_enter Try.func51, Try.ntmps51
      go_wp2
      all_goals go_ret
      all_goals exact ⟨by first | rfl | simp_all, by first | exact HB.out | exact HB.out.drew | exact below_drewN HB.out _⟩
  · have d1 : (xk == 12) = false := by simp [h12]
    have hr : oddb k ⟨xk, xa, xb, ⟨⟨s0, s1, s2, s3⟩⟩, x4, x5, x6, x7, x8⟩ = false := by unfold oddb; simp [h12]
    rw [hr]
    clear hr
    go_enter Try.func51, Try.ntmps51
    go_wp2
    all_goals go_ret
    all_goals exact ⟨rfl, by first | exact HB.out | exact HB.out.drew | exact below_drewN HB.out _⟩
set_option maxHeartbeats 6400000 in
theorem index_calls (g5 k cap : Nat) (A : Option Addr) (B : Option Addr) (c : Nat) (L : List S43) (n : Nat) (hn : L.length = n) (hn2 : n ≤ 1000) (w : World) (h5 : w.cell? ⟨g5, 0, none⟩ = some (.slice A k cap)) (hr : Kd.C k43 w B n L) :
    Calls Try.prog 58 #[.slice B n c, .func (.func 51) #[] #[.pointer (some ⟨g5, 0, none⟩)]] w fun e w' => (∃ r : Int, e = .returned (.int .i64 r) ∧ decide (r ≥ 0) = L.any (oddb k)) ∧ Below w.heap.size w w' := by
  have eg : ∀ args w, (callFunc 51 args).run Try.prog w = .ok (.enter 51 args) w := enters_of Try.func51 (by kernel_rfl) rfl
  have HR := Lib.hid hr
  have KO := Lib.hid (fun x W h => odd_calls g5 k cap A x W h)
  have H5 := Lib.hid h5
  have HB := Lib.hid (Below.refl w.heap.size w)
  clear hr h5
  go_enter Try.func58, Try.ntmps58
  go_wp2
  go_loopw [8] (fun t wr => ∃ i : Nat, i ≤ n ∧ t = .int .i64 (i : Nat) ∧ Hid (∀ j, j < i → oddb k (rd_T43 L j) = false) ∧ Hid (Below w.heap.size w wr)) (fun t _ => n - (intOf t).toNat)
  case atStart => exact ⟨0, Nat.zero_le _, rfl, Lib.hid (fun j h => absurd h (Nat.not_lt_zero _)), HB⟩
  case round =>
    clear HB
    obtain ⟨i, hi, rfl, HJ, HB⟩ := hrel
    by_cases h : i < n
    · obtain ⟨ad, hA, a0, a1, a2, a3, a4, a5, a6, a7, a8, a9, a10, a11⟩ := at_T43 HR.out (i : Int) (by omega) (by omega)
      subst hA
      rw [Int.toNat_natCast] at a0 a1 a2 a3 a4 a5 a6 a7 a8 a9 a10 a11
      have hi2 : (i : Int) < (n : Int) := by omega
      replace a0 := below_of HB.out a0
      replace a1 := below_of HB.out a1
      replace a2 := below_of HB.out a2
      replace a3 := below_of HB.out a3
      replace a4 := below_of HB.out a4
      replace a5 := below_of HB.out a5
      replace a6 := below_of HB.out a6
      replace a7 := below_of HB.out a7
      replace a8 := below_of HB.out a8
      replace a9 := below_of HB.out a9
      replace a10 := below_of HB.out a10
      replace a11 := below_of HB.out a11
      have K1 := Lib.hid (KO.out (rd_T43 L i) wr (below_of HB.out H5.out))
      have hsome : ∀ b, oddb k (rd_T43 L i) = b → b = true → L.any (oddb k) = true := by
        rintro b rfl hb
        refine List.any_eq_true.2 ⟨rd_T43 L i, ?_, hb⟩
        unfold rd_T43
        rw [Int.toNat_natCast, List.getD_eq_getElem?_getD, List.getElem?_eq_getElem (by omega)]
        exact List.getElem_mem _
      have HS := Lib.hid hsome
      have HJ2 : Hid (∀ b, oddb k (rd_T43 L i) = b → b = false → ∀ j, j < i + 1 → oddb k (rd_T43 L j) = false) := Lib.hid (by
        rintro b rfl hb j hj
        by_cases e : j = i
        · rw [e]; exact hb
        · exact HJ.out j (by omega))
      clear hsome HJ
      obtain ⟨b, hb0⟩ : ∃ b, oddb k (rd_T43 L i) = b := ⟨_, rfl⟩
      have HS := HS.out b hb0
      have HJ2 := Lib.hid (HJ2.out b hb0)
      rw [hb0] at K1
      clear hb0
      generalize rd_T43 L i = x at *
      obtain ⟨xk, xa, xb, ⟨⟨s0, s1, s2, s3⟩⟩, x4, x5, x6, x7, x8⟩ := x
      simp only [nc] at a0 a1 a2 a3 a4 a5 a6 a7 a8 a9 a10 a11 K1
      go_wp2_with fail
      refine K1.out.mono ?_
      rintro e w3 ⟨rfl, hb⟩
      have HB2 := Lib.hid (below_step HB.out hb)
      clear hb K1 a0 a1 a2 a3 a4 a5 a6 a7 a8 a9 a10 a11 HB
      cases b
      · have HJ3 := Lib.hid (HJ2.out rfl)
        clear HJ2 HS
        go_wp2
        go_roundw
        case rel => exact ⟨i + 1, by omega, by simp, HJ3, HB2⟩
        case measure => simp [intOf]; omega
      · have hs := HS rfl
        clear HJ2 HS
        go_wp2
        go_ret
        exact ⟨⟨(i : Int), rfl, by rw [hs]; simp⟩, HB2.out⟩
    · obtain rfl : i = n := by omega
      have hi2 : ¬ ((i : Int) < (i : Int)) := by omega
      go_wp2
      go_ret
      refine ⟨⟨-1, rfl, ?_⟩, HB.out⟩
      rw [List.any_eq_false.2 ?_]
      · rfl
      · intro x hx
        obtain ⟨j, hj, rfl⟩ := List.getElem_of_mem hx
        have := HJ.out j (by omega)
        unfold rd_T43 at this
        rw [Int.toNat_natCast, List.getD_eq_getElem?_getD, List.getElem?_eq_getElem hj] at this
        simpa using this
theorem contains_calls (g5 k cap : Nat) (A : Option Addr) (B : Option Addr) (c : Nat) (L : List S43) (n : Nat) (hn : L.length = n) (hn2 : n ≤ 1000) (w : World) (h5 : w.cell? ⟨g5, 0, none⟩ = some (.slice A k cap)) (hr : Kd.C k43 w B n L) :
    Calls Try.prog 52 #[.slice B n c, .func (.func 51) #[] #[.pointer (some ⟨g5, 0, none⟩)]] w fun e w' => e = .returned (.bool (L.any (oddb k))) ∧ Below w.heap.size w w' := by
  have KI := Lib.hid (index_calls g5 k cap A B c L n hn hn2 w h5 hr)
  generalize L.any (oddb k) = b at *
  go_enter Try.func52, Try.ntmps52
  go_wp2_with fail
  refine KI.out.mono ?_
  rintro e w3 ⟨⟨r, rfl, hb0⟩, hb⟩
  have HB2 := Lib.hid hb
  clear hb KI
  go_wp2
  go_ret
  exact ⟨rfl, HB2.out⟩
end Go.Proofs.Ytjeoiebdchlilaa.DOdd
end
section
/- Rows of nodes that a call makes: made, copied, stored. -/
namespace Go.Proofs.Ytjeoiebdchlilaa.DRowN
open Go.RowKit CMem DRow DDeep DSizes Q Go.Proofs.YtjeoiebdchlilaaW.PrintWords Go.Proofs.YtjeoiebdchlilaaW.PrintLast Go.Proofs.YtjeoiebdchlilaaW.PrintMore
set_option linter.unusedVariables false
set_option linter.unusedSimpArgs false
/-- a row of nodes -/
def ra : List S43 → List Value
  | [] => []
  | x :: xs => (nc x).toList ++ ra xs
theorem nc_len (x : S43) : (nc x).toList.length = 12 := rfl
theorem ra_length : ∀ xs : List S43, (ra xs).length = 12 * xs.length
  | [] => rfl
  | x :: xs => by rw [ra, List.length_append, nc_len, ra_length xs, List.length_cons]; omega
theorem ra_append : ∀ xs ys : List S43, ra (xs ++ ys) = ra xs ++ ra ys
  | [], ys => rfl
  | x :: xs, ys => by rw [List.cons_append, ra, ra_append xs ys, ra, List.append_assoc]
theorem ra_at : ∀ (xs : List S43) (i j : Nat) (x : S43), xs[i]? = some x → j < 12 → (ra xs)[i * 12 + j]? = (nc x).toList[j]?
  | [], i, j, x, h, _ => by simp at h
  | y :: xs, 0, j, x, h, hj => by
    rw [List.getElem?_cons_zero, Option.some.injEq] at h
    subst h
    rw [ra, Nat.zero_mul, Nat.zero_add, List.getElem?_append_left (by rw [nc_len]; exact hj)]
  | y :: xs, i + 1, j, x, h, hj => by
    rw [List.getElem?_cons_succ] at h
    rw [ra, List.getElem?_append_right (by rw [nc_len]; omega), nc_len, show (i + 1) * 12 + j - 12 = i * 12 + j by omega]
    exact ra_at xs i j x h hj
theorem ra_one : ∀ (xs : List S43), ∀ v ∈ ra xs, v.oneCell' = true
  | [], v, h => by simp [ra] at h
  | x :: xs, v, h => by
    rw [ra, List.mem_append] at h
    rcases h with h | h
    · simp only [nc, List.mem_cons, List.not_mem_nil, or_false] at h
      rcases h with h | h | h | h | h | h | h | h | h | h | h | h <;> subst h <;> rfl
    · exact ra_one xs v h
theorem ra_drop : ∀ (xs : List S43) (n : Nat), (ra xs).drop (12 * n) = ra (xs.drop n)
  | [], n => by simp [ra]
  | x :: xs, 0 => rfl
  | x :: xs, n + 1 => by
    rw [ra, List.drop_succ_cons, ← ra_drop xs n, List.drop_append, nc_len, List.drop_eq_nil_of_le (by rw [nc_len]; omega), List.nil_append, show 12 * (n + 1) - 12 = 12 * n by omega]
theorem ra_take : ∀ (xs : List S43) (n : Nat), (ra xs).take (12 * n) = ra (xs.take n)
  | [], n => by simp [ra]
  | x :: xs, 0 => rfl
  | x :: xs, n + 1 => by
    rw [ra, List.take_succ_cons, ra, ← ra_take xs n, List.take_append, nc_len, List.take_of_length_le (by rw [nc_len]; omega), show 12 * (n + 1) - 12 = 12 * n by omega]
/-- a row that lies is read -/
theorem ra_cell {w : World} {p : Nat} {xs : List S43} {t : TypeId} (h : w.heap[p]? = some (.cells (ra xs).toArray t (0, 0))) {i j : Nat} {x : S43} {v : Value} (hx : xs[i]? = some x) (hv : (nc x).toList[j]? = some v) : w.cell? ⟨p, i * 12 + j, none⟩ = some v := by
  have hj : j < 12 := by
    rcases Nat.lt_or_ge j 12 with h | h
    · exact h
    · rw [List.getElem?_eq_none (by rw [nc_len]; exact h)] at hv; cases hv
  refine blk_cell h _ _ ?_
  rw [List.getElem?_toArray, ra_at xs i j x hx hj, hv]
theorem ra_C {w : World} {p n : Nat} {xs : List S43} (hn : xs.length = n) (h : w.heap[p]? = some (.cells (ra xs).toArray 43 (0, 0))) (hm : n ≤ 1000) : Kd.C k43 w (some ⟨p, 0, none⟩) n xs := by
  refine ⟨hn, by omega, fun _ => ⟨_, rfl, fun j x hj => ⟨(nc x).toList, nc_len x, k43_mk w x, fun i u hu => ?_⟩⟩⟩
  have hc := ra_cell h hj hu
  have hadd : (⟨p, 0, none⟩ : Addr).add (j * 12 + i) = ⟨p, j * 12 + i, none⟩ := by unfold Addr.add; split <;> simp_all
  show w.cell? ((⟨p, 0, none⟩ : Addr).add (j * 12 + i)) = some u
  rw [hadd]
  exact hc
/-- a row of zero nodes is made -/
theorem made_ra (m : Nat) : madeCells (nc z43) (m * 12) = (ra (List.replicate m z43)).toArray := by
  apply Array.ext_getElem?
  intro k
  by_cases hk : k < m * 12
  · have hz : (List.replicate m z43)[k / 12]? = some z43 := by rw [List.getElem?_replicate, if_pos (by omega)]
    have h1 := ra_at _ (k / 12) (k % 12) z43 hz (Nat.mod_lt _ (by omega))
    rw [show k / 12 * 12 + k % 12 = k by omega] at h1
    have h2 : k % 12 < (nc z43).size := Nat.mod_lt _ (by decide)
    have e1 : (madeCells (nc z43) (m * 12))[k]? = some ((nc z43)[k % 12]!) := by
      unfold madeCells
      rw [Array.getElem?_map, Array.getElem?_range, if_pos hk]
      rfl
    have e2 : (ra (List.replicate m z43)).toArray[k]? = some ((nc z43)[k % 12]!) := by
      rw [List.getElem?_toArray, h1, getElem!_pos (nc z43) _ h2, Array.getElem?_toList, Array.getElem?_eq_getElem h2]
    rw [e1, e2]
  · have e1 : (madeCells (nc z43) (m * 12)).size ≤ k := by rw [size_madeCells]; omega
    have e2 : (ra (List.replicate m z43)).toArray.size ≤ k := by rw [List.size_toArray, ra_length, List.length_replicate]; omega
    rw [Array.getElem?_eq_none e1, Array.getElem?_eq_none e2]
theorem make_nodes (n m : Nat) (hn : n ≤ m) (hm : m ≤ 1001) (W : World) :
    (Instr.makeSlice 22 (.int .i64 (n : Int)) (.int .i64 (m : Int))).run Try.prog W = .ok (.slice (some ⟨W.heap.size, 0, none⟩) n m) (W.alloc (.cells (ra (List.replicate m z43)).toArray 43)) := by
  obtain ⟨i0, hi, hz0, hz1, hz2⟩ := info_parts info43
  have hr := run_make (P := Try.prog) W 22 43 i0 _ Try.underlying22 hi hz0 .i64 .i64 (n : Int) (m : Int) (by omega) (by omega) (by rw [hz2]; omega) (by omega)
  rw [hr, hz1, Int.toNat_natCast, Int.toNat_natCast, ← made_ra]
  rfl
theorem run_copy_k (P : Program) (w : World) (dT sT ty elem : TypeId) (k n g o dLen dCap : Nat) (a : Addr) (sLen sCap : Nat) (cur : Array Value) (t : TypeId) (cs : List Value)
    (hu : P.underlying dT = some (.slice elem)) (hs : (P.info? elem).map (·.size) = some k)
    (hg : w.heap[g]? = some (.cells cur t (0, 0))) (hk : cs.length = n * k) (hn : n = Nat.min sLen dLen)
    (hsrc : ∀ j v, cs[j]? = some v → w.cell? (a.add j) = some v) (hfit : o + cs.length ≤ cur.size) (h1 : ∀ v ∈ cs, v.oneCell' = true) :
    (Builtin.copy_ #[dT, sT] ty #[.slice (some ⟨g, o, none⟩) dLen dCap, .slice (some a) sLen sCap]).run P w =
      .ok (goInt n) (w.setRow g (cur.toList.take o ++ cs ++ cur.toList.drop (o + cs.length)).toArray) := by
  have hl := run_loadCells_list (P := P) w a cs hsrc
  have hst := run_storeCells_at P g o t cs 0 cur w hg (by simpa using hfit) h1
  rw [hk] at hl
  cases hq : P.info? elem with
  | none => simp [hq] at hs
  | some i =>
    have hi : i.size = k := by simpa [hq] using hs
    simp [Builtin.copy_, run_underlying hu, Builtin.lenOf, Builtin.firstCells, sizeOf, typeInfo, hq, hi, ← hn, hl, hst]
/-- nodes that came in are copied over a row's first ones -/
theorem copy_nodes (w : World) (g n dCap : Nat) (A : Option Addr) (c d : Nat) (ys L : List S43) (hL : Kd.C k43 w A n L) (hnd : n ≤ d) (hdy : d ≤ ys.length)
    (hg : w.heap[g]? = some (.cells (ra ys).toArray 43 (0, 0))) :
    (Builtin.copy_ #[22, 22] 3 #[.slice (some ⟨g, 0, none⟩) d dCap, .slice A n c]).run Try.prog w = .ok (.int .i64 (n : Int)) (w.setRow g (ra (L ++ ys.drop n)).toArray) := by
  have hlen : L.length = n := hL.1
  have hi : (Try.prog.info? 43).map (·.size) = some 12 := by kernel_rfl
  have hw : goInt n = .int .i64 (n : Int) := rfl
  have hfin : ∀ k : Nat, k = (ra L).length → ((ra ys).toArray.toList.take 0 ++ ra L ++ (ra ys).toArray.toList.drop (0 + k)) = ra (L ++ ys.drop n) := by
    intro k hk
    rw [List.take_zero, List.nil_append, Nat.zero_add, hk, ra_length, hlen, ra_append, ← ra_drop]
  rcases Nat.eq_zero_or_pos n with h0 | h0
  · subst h0
    have hl : L = [] := List.length_eq_zero_iff.1 hlen
    subst hl
    rw [List.nil_append, List.drop_zero, setRow_self w g _ _ _ hg]
    have hu : Try.prog.underlying 22 = some (.slice 43) := Try.underlying22
    have hl := run_loadCells_list (P := Try.prog) w
    cases hq : Try.prog.info? 43 with
    | none => simp [hq] at hi
    | some i =>
      cases A with
      | none => simp [Builtin.copy_, run_underlying hu, Builtin.lenOf, Builtin.firstCells, sizeOf, typeInfo, hq, storeCells]; rfl
      | some ad =>
        have h0 := hl ad [] (fun j v h => by simp at h)
        simp at h0
        simp [Builtin.copy_, run_underlying hu, Builtin.lenOf, Builtin.firstCells, sizeOf, typeInfo, hq, storeCells, h0]; rfl
  · obtain ⟨ad, rfl, hc⟩ := hL.2.2 h0
    have h := run_copy_k Try.prog w 22 22 3 43 12 n g 0 d dCap ad n c _ _ (ra L) Try.underlying22 hi hg (by rw [ra_length, hlen]; omega) (Nat.min_eq_left hnd).symm (fun j v hv => ?_) (by rw [List.size_toArray, ra_length, ra_length]; omega) (ra_one L)
    · rw [h, hfin _ rfl, hw]
    · have hj : j < 12 * n := by
        rcases Nat.lt_or_ge j (12 * n) with h | h
        · exact h
        · rw [List.getElem?_eq_none (by rw [ra_length, hlen]; exact h)] at hv; cases hv
      obtain ⟨x, hx⟩ : ∃ x, L[j / 12]? = some x := ⟨_, List.getElem?_eq_getElem (by omega)⟩
      obtain ⟨cs, _, hk, hcell⟩ := hc (j / 12) _ hx
      have hk2 : cs = (nc x).toList := k43_open hk
      subst hk2
      have h1 := ra_at L (j / 12) (j % 12) _ hx (Nat.mod_lt _ (by omega))
      rw [show j / 12 * 12 + j % 12 = j by omega, hv] at h1
      have h2 := hcell (j % 12) v h1.symm
      have e : j / 12 * k43.sz + j % 12 = j := by show j / 12 * 12 + j % 12 = j; omega
      rw [e] at h2
      exact h2
end Go.Proofs.Ytjeoiebdchlilaa.DRowN
end
section
/- ast.Wrap: its walk. -/
namespace Go.Proofs.Ytjeoiebdchlilaa.DWrap
open Go.RowKit CMem DRow DDeep DSizes DRowN Q Go.Proofs.YtjeoiebdchlilaaW.PrintWords Go.Proofs.YtjeoiebdchlilaaW.PrintLast Go.Proofs.YtjeoiebdchlilaaW.PrintMore
set_option linter.unusedVariables false
set_option linter.unusedSimpArgs false
set_option maxRecDepth 100000
theorem alloc_setRow (W : World) (a b : Array Value) (t : TypeId) : (W.alloc (.cells a t)).setRow W.heap.size b = W.alloc (.cells b t) := by
  unfold World.setRow World.alloc
  congr 1
  apply Array.ext_getElem?
  intro k
  simp only [Array.getElem?_modify, Array.getElem?_push]
  by_cases h : W.heap.size = k
  · subst h; simp
  · rw [if_neg h, if_neg (fun e => h e.symm), if_neg (fun e => h e.symm)]
theorem new3 (w : World) (a b o : Obj) : (((w.alloc a).alloc b).alloc o).heap[w.heap.size + 1 + 1]? = some o := by
  have h := heap_alloc_new ((w.alloc a).alloc b) o
  rwa [show ((w.alloc a).alloc b).heap.size = w.heap.size + 1 + 1 by simp] at h
theorem new4 (w : World) (a b c o : Obj) : ((((w.alloc a).alloc b).alloc c).alloc o).heap[w.heap.size + 1 + 1 + 1]? = some o := by
  have h := heap_alloc_new (((w.alloc a).alloc b).alloc c) o
  rwa [show (((w.alloc a).alloc b).alloc c).heap.size = w.heap.size + 1 + 1 + 1 by simp] at h
theorem hold {p : Prop} (h : Hid p) : p := h.out
/-- a row that the call made, as append's law asks it -/
theorem own_ra {w : World} {base p n cap : Nat} {xs zs : List S43} (hb : base ≤ p) (hn : xs.length = n) (hc : (xs ++ zs).length = cap) (hcap : cap ≤ 1001) (h : w.heap[p]? = some (.cells (ra (xs ++ zs)).toArray 43 (0, 0))) :
    w.ownsRow base 43 12 (.slice (some ⟨p, 0, none⟩) n cap) n (ra xs) := by
  rw [List.length_append] at hc
  refine ⟨by rw [ra_length, hn]; omega, .inr ⟨p, cap, (ra (xs ++ zs)).toArray, rfl, hb, h, by omega, by unfold maxLen; omega, by rw [List.size_toArray, ra_length, List.length_append]; omega, ?_⟩⟩
  rw [show (ra (xs ++ zs)).toArray.toList = ra (xs ++ zs) from rfl, ra_append, List.take_append_of_le_length (by rw [ra_length, hn]; omega), List.take_of_length_le (by rw [ra_length, hn]; omega)]
theorem own_C {w : World} {base n : Nat} {v : Value} {xs : List S43} (hn : xs.length = n) (hm : n ≤ 1001) (h : w.ownsRow base 43 12 v n (ra xs)) : ∃ A c, v = .slice A n c ∧ n ≤ c ∧ Kd.C k43 w A n xs := by
  rcases h.2 with ⟨rfl, h0⟩ | ⟨g, cap, cur, rfl, hg, hh, h1, h2, h3, h4⟩
  · obtain rfl : n = 0 := h0
    exact ⟨none, 0, rfl, Nat.le_refl _, hn, by omega, fun h => absurd h (Nat.lt_irrefl _)⟩
  · refine ⟨_, cap, rfl, h1, hn, by omega, fun _ => ⟨_, rfl, fun j x hj => ⟨(nc x).toList, nc_len x, k43_mk w x, fun i u hu => ?_⟩⟩⟩
    have hi : i < 12 := by
      rcases Nat.lt_or_ge i 12 with h | h
      · exact h
      · rw [List.getElem?_eq_none (by rw [nc_len]; exact h)] at hu; cases hu
    have hjl := (List.getElem?_eq_some_iff.1 hj).1
    have hadd : (⟨g, 0, none⟩ : Addr).add (j * 12 + i) = ⟨g, j * 12 + i, none⟩ := by unfold Addr.add; split <;> simp_all
    show w.cell? ((⟨g, 0, none⟩ : Addr).add (j * 12 + i)) = some u
    rw [hadd]
    refine blk_cell hh _ _ ?_
    have h5 := ra_at xs j i x hj hi
    rw [← h4, List.getElem?_take, if_pos (by omega), Array.getElem?_toList] at h5
    rw [h5, hu]
theorem wpList_copy_nodes {w : World} {ops : Array Oper} {rest : List Oper} {o : Oper} {a : Act} {Q : Exit → Act → World → Prop} (hgd : o.guard = none) (d s : Operand)
    (ho : o.op = .call { callee := .builtin .copy, args := #[d, s], argTypes := #[22, 22] }) (hty : o.type = 3) (g n dLen dCap c : Nat) (A : Option Addr) (hd : a.eval d = .slice (some ⟨g, 0, none⟩) dLen dCap) (hs : a.eval s = .slice A n c) (ys L : List S43)
    (hg : w.heap[g]? = some (.cells (ra ys).toArray 43 (0, 0))) (hL : Kd.C k43 w A n L) (hnd : n ≤ dLen) (hdy : dLen ≤ ys.length) (B : Nat) (w0 : World) (hB : Below B w0 w) (hBg : B ≤ g)
    (h : ∀ w', w'.heap[g]? = some (.cells (ra (L ++ ys.drop n)).toArray 43 (0, 0)) → (∀ k, k ≠ g → w'.heap[k]? = w.heap[k]?) → w'.heap.size = w.heap.size → Below B w0 w' → wpList Try.prog ops Q rest (a.put o.dst (.int .i64 (n : Int))) w') :
    wpList Try.prog ops Q (o :: rest) a w := by
  refine wpList_plain hgd fun K hK => ?_
  have hrun := copy_nodes w g n dCap A c dLen ys L hL hnd hdy hg
  unfold Oper.wp
  simp [execOp, ho, resolve, invoke, builtin, hd, hs, hty, hrun, Result.andThen]
  exact hK _ _ (h _ (setRow_heap w g _ _ _ _ hg) (fun k hk => setRow_other w g k _ hk) (by simp [World.setRow]) (below_setRow hB hBg _))
set_option maxHeartbeats 6400000 in
theorem wrap_calls (A : Option Addr) (c : Nat) (L : List S43) (n : Nat) (hn : L.length = n) (hn2 : n ≤ 999) (k xa xb s0 s1 s2 s3 mi ma mo nn : Int) (fo : Bool) (w : World) (hr : Kd.C k43 w A n L) :
    Calls Try.prog 21 #[.agg #[.slice A n c], .agg #[.int .i64 k, .int .i64 xa, .int .i64 xb, .int .u64 s0, .int .u64 s1, .int .u64 s2, .int .u64 s3, .int .i64 mi, .int .i64 ma, .int .i64 mo, .int .i64 nn, .bool fo]] w fun e w' =>
      (∃ v, e = .returned (.agg #[v]) ∧ w'.ownsRow w.heap.size 43 12 v (n + 1) (ra (L ++ [⟨k, (n : Int) - 1, 0, ⟨⟨s0, s1, s2, s3⟩⟩, mi, ma, mo, nn, fo⟩]))) ∧ Below w.heap.size w w' := by
  have BT := blk_alloc (blk_alloc (heap_alloc_new w (.cells #[.slice A n c] 24)) (.cells #[.int .i64 k, .int .i64 xa, .int .i64 xb, .int .u64 s0, .int .u64 s1, .int .u64 s2, .int .u64 s3, .int .i64 mi, .int .i64 ma, .int .i64 mo, .int .i64 nn, .bool fo] 43)) (.cells #[.slice none 0 0] 24)
  have BN := blk_alloc (blk2 w (.cells #[.slice A n c] 24) #[.int .i64 k, .int .i64 xa, .int .i64 xb, .int .u64 s0, .int .u64 s1, .int .u64 s2, .int .u64 s3, .int .i64 mi, .int .i64 ma, .int .i64 mo, .int .i64 nn, .bool fo] 43) (.cells #[.slice none 0 0] 24)
  have BR := new3 w (.cells #[.slice A n c] 24) (.cells #[.int .i64 k, .int .i64 xa, .int .i64 xb, .int .u64 s0, .int .u64 s1, .int .u64 s2, .int .u64 s3, .int .i64 mi, .int .i64 ma, .int .i64 mo, .int .i64 nn, .bool fo] 43) (.cells #[.slice none 0 0] 24)
  have HB := below3 w (.cells #[.slice A n c] 24) (.cells #[.int .i64 k, .int .i64 xa, .int .i64 xb, .int .u64 s0, .int .u64 s1, .int .u64 s2, .int .u64 s3, .int .i64 mi, .int .i64 ma, .int .i64 mo, .int .i64 nn, .bool fo] 43) (.cells #[.slice none 0 0] 24)
  have mk : ∀ W : World, (Instr.makeSlice 22 (.int .i64 (n : Int)) (.int .i64 ((n : Int) + 1))).run Try.prog W = .ok (.slice (some ⟨W.heap.size, 0, none⟩) n (n + 1)) (W.alloc (.cells (ra (List.replicate (n + 1) z43)).toArray 43)) := fun W => make_nodes n (n + 1) (by omega) (by omega) W
  obtain ⟨Z, hZ⟩ : ∃ Z, List.replicate (n + 1) z43 = Z := ⟨_, rfl⟩
  have hZd : Z.drop n = [z43] := by rw [← hZ]; simp
  have hZl : Z.length = n + 1 := by rw [← hZ]; simp
  rw [hZ] at mk
  have BT2 := Lib.hid (fun o => blk_alloc BT o)
  have BN2 := Lib.hid (fun o => blk_alloc BN o)
  have BR2 := Lib.hid (fun o => blk_alloc BR o)
  have HB2 := Lib.hid (fun o => HB.alloc HB.size o)
  have HC := Lib.hid (fun W h => Kd.C_below (w1 := W) hr h)
  have HZd := Lib.hid hZd
  have HZl := Lib.hid hZl
  clear BT BN BR HB hr hZ hZd hZl
  go_enter Try.func21, Try.ntmps21
  go_wp2_with ((with_reducible show wpList _ _ _ (⟨some 17, _, _, _, _, _⟩ :: _) _ _); refine hold ?_)
  refine Lib.hid ?_
  refine wpList_copy_nodes rfl (.tmp 14) (.tmp 16) rfl rfl (w.heap.size + 1 + 1 + 1) n n (n + 1) c A rfl rfl Z L (new4 _ _ _ _ _) (HC.out _ (HB2.out _)) (Nat.le_refl _) (HZl.out ▸ Nat.le_succ n) w.heap.size w (HB2.out _) (by omega) ?_
  intro w2 hY hK hsz hb
  have BN3 := Lib.hid ((hK (w.heap.size + 1) (by omega)).trans (BN2.out _))
  have BR3 := Lib.hid ((hK (w.heap.size + 1 + 1) (by omega)).trans (BR2.out _))
  have BY3 := Lib.hid hY
  have HB3 := Lib.hid hb
  have n0 := blk_cell BN3.out 0 (.int .i64 k) rfl
  have n1 := blk_cell BN3.out 1 (.int .i64 xa) rfl
  have n2 := blk_cell BN3.out 2 (.int .i64 xb) rfl
  have n3 := blk_cell BN3.out 3 (.int .u64 s0) rfl
  have n4 := blk_cell BN3.out 4 (.int .u64 s1) rfl
  have n5 := blk_cell BN3.out 5 (.int .u64 s2) rfl
  have n6 := blk_cell BN3.out 6 (.int .u64 s3) rfl
  have n7 := blk_cell BN3.out 7 (.int .i64 mi) rfl
  have n8 := blk_cell BN3.out 8 (.int .i64 ma) rfl
  have n9 := blk_cell BN3.out 9 (.int .i64 mo) rfl
  have n10 := blk_cell BN3.out 10 (.int .i64 nn) rfl
  have n11 := blk_cell BN3.out 11 (.bool fo) rfl
  have f1 := blk_free BN3.out 1
  have f2 := blk_free BN3.out 2
  clear hY hK hsz hb BT2 BN2 BR2 HB2 mk
  go_wp2_with ((with_reducible show wpList _ _ _ (⟨some 26, _, _, _, _, _⟩ :: _) _ _); refine hold ?_)
  refine Lib.hid ?_
  have BY4 := set_other (c := w.heap.size + 1) (i := 2) (v := .int .i64 0) (set_other (c := w.heap.size + 1) (i := 1) (v := .int .i64 ((n : Int) - 1)) BY3.out (by omega)) (by omega)
  have BR4 := set_other (c := w.heap.size + 1) (i := 2) (v := .int .i64 0) (set_other (c := w.heap.size + 1) (i := 1) (v := .int .i64 ((n : Int) - 1)) BR3.out (by omega)) (by omega)
  have HB4 := below_set (b := w.heap.size + 1) (i := 2) (below_set (b := w.heap.size + 1) (i := 1) HB3.out (by omega) (.int .i64 ((n : Int) - 1))) (by omega) (.int .i64 0)
  rw [HZd.out] at BY4
  have HO := own_ra (base := w.heap.size) (cap := n + 1) (show w.heap.size ≤ w.heap.size + 1 + 1 + 1 by omega) hn (by simp [hn]) (by omega) BY4
  have hbs : w.heap.size ≤ ((w2.setCell ⟨w.heap.size + 1, 1, none⟩ (.int .i64 ((n : Int) - 1))).setCell ⟨w.heap.size + 1, 2, none⟩ (.int .i64 0)).heap.size := HB4.size
  have hlt := lt_of_blk BR4
  have BR5 := Lib.hid BR4
  clear BY4 BR4 BN3 BR3 BY3 HB3 n0 n1 n2 n3 n4 n5 n6 n7 n8 n9 n10 n11 f1 f2 HC HZd HZl
  refine print_append_cells w.heap.size rfl (.tmp 23) (.tmp 25) 22 43 _ 12 96 rfl Try.underlying22 info43 rfl (by decide) (by decide) (.slice (some ⟨w.heap.size + 1 + 1 + 1, 0, none⟩) n (n + 1)) n (ra L) (nc ⟨k, (n : Int) - 1, 0, ⟨⟨s0, s1, s2, s3⟩⟩, mi, ma, mo, nn, fo⟩).toList rfl ?_ rfl (fun u hu => ?_) HO HB4 hbs (by omega) ?_
  · simp [Act.eval]
  · exact ra_one [⟨k, (n : Int) - 1, 0, ⟨⟨s0, s1, s2, s3⟩⟩, mi, ma, mo, nn, fo⟩] u (by simpa [ra] using hu)
  intro v3 w3 hown hb hg hat
  have BR6 := Lib.hid ((hg.block (w.heap.size + 1 + 1) hlt (by simp [Value.ownBlock])).trans BR5.out)
  have HB6 := Lib.hid hb
  rw [show ra L ++ (nc ⟨k, (n : Int) - 1, 0, ⟨⟨s0, s1, s2, s3⟩⟩, mi, ma, mo, nn, fo⟩).toList = ra (L ++ [⟨k, (n : Int) - 1, 0, ⟨⟨s0, s1, s2, s3⟩⟩, mi, ma, mo, nn, fo⟩]) by rw [ra_append]; simp [ra]] at hown
  obtain ⟨A3, c3, rfl, _, _⟩ := own_C (by simp [hn]) (by omega) hown
  have hne : ∀ j, (Value.slice A3 (n + 1) c3).ownBlock = some j → j ≠ w.heap.size + 1 + 1 := by
    rintro j hj rfl
    rcases hat with h | ⟨b, h, hle⟩
    · rw [h] at hj; simp [Value.ownBlock] at hj
    · rw [h] at hj
      have : b = w.heap.size + 1 + 1 := Option.some.inj hj
      omega
  have HO6 := Lib.hid (own_move (w1 := w3.setCell ⟨w.heap.size + 1 + 1, 0, none⟩ (.slice A3 (n + 1) c3)) hown (fun j hj => Below.heap_setCell w3 ⟨w.heap.size + 1 + 1, 0, none⟩ _ j (hne j hj)))
  have BR7 := Lib.hid (set_blk (i := 0) BR6.out (.slice A3 (n + 1) c3))
  have HB7 := Lib.hid (below_set (b := w.heap.size + 1 + 1) (i := 0) HB6.out (by omega) (.slice A3 (n + 1) c3))
  have r0 := blk_cell BR6.out 0 (.slice none 0 0) rfl
  have f0 := blk_free BR6.out 0
  clear hown hb hg hat HO HB4 hbs hlt BR5 hne BR6 HB6
  go_wp2
  refine bodyPost_ret (results_cell_row rfl _ _ (w.heap.size + 1 + 1) 24 #[.slice A3 (n + 1) c3] (0, 0) _ rfl BR7.out Try.underlying24 rfl (by kernel_rfl)) rfl ?_
  exact ⟨⟨_, rfl, HO6.out⟩, HB7.out⟩
end Go.Proofs.Ytjeoiebdchlilaa.DWrap
end
section
/- ast.grouped: its walk. -/
namespace Go.Proofs.Ytjeoiebdchlilaa.DGrouped
open Go.RowKit CMem DRow DDeep DSizes DFits DLens DSpec DGrp DSort DCon DOdd DWrap Q Go.Proofs.YtjeoiebdchlilaaW.PrintWords Go.Proofs.YtjeoiebdchlilaaW.PrintLast Go.Proofs.YtjeoiebdchlilaaW.PrintMore
set_option linter.unusedVariables false
set_option linter.unusedSimpArgs false
set_option maxRecDepth 100000
/-- groups are numbered as they begin, and what is asked for is one -/
def grp (L : List S43) : Bool :=
  (List.range (gi L (L.length - 1)).length).all (fun k => (rd_T43 L ((gi L (L.length - 1)).getD k 0 : Nat)).f7 == (k : Int) + 1) && (decide ((gi L (L.length - 1)).length ≤ 9) && !L.any (oddb (gi L (L.length - 1)).length))
/-- the first groups, as cells -/
def gc (L : List S43) (i : Nat) : List Value := ((List.range i).filter fun j : Nat => (rd_T43 L (j : Nat)).f0 == 11).map fun j : Nat => .int .i64 (j : Int)
theorem gc_succ (L : List S43) (i : Nat) (h : (rd_T43 L i).f0 = 11) : gc L (i + 1) = gc L i ++ [.int .i64 (i : Int)] := by
  unfold gc
  rw [List.range_succ, List.filter_append, List.map_append]
  simp [h]
theorem gc_skip (L : List S43) (i : Nat) (h : (rd_T43 L i).f0 ≠ 11) : gc L (i + 1) = gc L i := by
  unfold gc
  rw [List.range_succ, List.filter_append, List.map_append]
  simp [h]
theorem gc_len (L : List S43) (i : Nat) : (gc L i).length ≤ i := by
  unfold gc
  rw [List.length_map]
  exact Nat.le_trans (List.length_filter_le _ _) (by simp)
theorem gc_all (L : List S43) : gc L L.length = (gall L).map fun j : Nat => .int .i64 (j : Int) := rfl
theorem gc_gi {L : List S43} (ho : ord L = true) : (gc L L.length).length = (gi L (L.length - 1)).length := by
  rw [gc_all, List.length_map]
  exact (gall_perm ho).length_eq
theorem sorted_calls (L : List S43) (ho : ord L = true) (n : Nat) (hn : L.length = n) (hn2 : n ≤ 500) (w0 W : World) (base PS p g8 cv : Nat) (Av : Option Addr) (HB : Below base w0 W) (hbs : base ≤ W.heap.size)
    (h3 : W.heap[PS]? = some (.cells #[.slice (some ⟨p, 0, none⟩) n n] 58 (0, 0))) (h8 : W.heap[g8]? = some (.cells #[.func (.func 48) #[] #[.pointer (some ⟨PS, 0, none⟩)]] 70 (0, 0))) (hp : W.heap[p]? = some (.cells (ic (sz L) n) 3 (0, 0)))
    (OW : W.ownsRow base 3 1 (.slice Av (gc L n).length cv) (gc L n).length (gc L n)) (hne : ∀ k, (Value.slice Av (gc L n).length cv).ownBlock = some k → k ≠ PS ∧ k ≠ g8 ∧ k ≠ p) :
    Calls Try.prog 49 #[.slice Av (gc L n).length cv, .func (.func 50) #[] #[.pointer (some ⟨g8, 0, none⟩), .pointer (some ⟨PS, 0, none⟩)]] W fun e w' => e = .returned (.tuple #[]) ∧
      (∀ (j x : Nat), (gi L (n - 1))[j]? = some x → ∃ gb, Av = some ⟨gb, 0, none⟩ ∧ w'.cell? ⟨gb, j, none⟩ = some (.int .i64 (x : Int))) ∧ (∀ k, (∀ b, (Value.slice Av (gc L n).length cv).ownBlock = some b → k ≠ b) → k < W.heap.size → w'.heap[k]? = W.heap[k]?) ∧ W.heap.size ≤ w'.heap.size ∧ Below base w0 w' := by
  subst hn
  have hw := fun i (hi : i < L.length) => ord_wf ho i hi
  rcases Nat.eq_zero_or_pos (gc L L.length).length with h0 | h0
  · rw [h0]
    refine (sort_none Av cv _ W).mono ?_
    rintro e w' ⟨rfl, rfl⟩
    refine ⟨rfl, fun j x hx => ?_, fun k _ _ => rfl, Nat.le_refl _, HB⟩
    rw [gc_gi ho] at h0
    rw [List.length_eq_zero_iff.1 h0] at hx
    simp at hx
  · rcases OW.2 with ⟨h1, h2⟩ | ⟨gb, cap, cur, hv, hg, hh, hc1, hc2, hc3, hc4⟩
    · omega
    · obtain ⟨rfl, rfl⟩ : Av = some ⟨gb, 0, none⟩ ∧ cv = cap := by
        injection hv with e1 e2 e3
        exact ⟨e1, e3⟩
      obtain ⟨n1, n2, n3⟩ := hne gb (by simp [Value.ownBlock])
      have hl : (gc L L.length).length = (gall L).length := by rw [gc_all, List.length_map]
      have hmem : ∀ x, x ∈ gall L → x < L.length := by
        intro x hx
        unfold gall at hx
        exact List.mem_range.1 (List.mem_filter.1 hx).1
      have hrow : ∀ i (h : i < (gall L).length), W.cell? ⟨gb, i, none⟩ = some (.int .i64 (((gall L)[i]'h : Nat) : Int)) ∧ W.frozen? ⟨gb, i, none⟩ = false := by
        intro i h
        refine ⟨blk_cell hh i _ ?_, blk_free hh i⟩
        have e := congrArg (fun l => l[i]?) hc4
        simp only [Nat.mul_one, List.getElem?_take] at e
        rw [if_pos (by omega), Array.getElem?_toList, gc_all, List.getElem?_map, List.getElem?_eq_getElem h] at e
        rw [e]; rfl
      have hk := sort_calls PS g8 p L.length L.length gb cv base (sz L) (gall L) hmem w0 W (blk_cell h3 0 _ rfl) (blk_cell h8 0 _ rfl) (fun i hi => blk_cell hp i _ (ic_at _ _ _ hi)) (fun i hi => by have := sz_rng L i; omega) (by omega) (fun e => n1 e.symm) (fun e => n2 e.symm) (fun e => n3 e.symm) (lt_of_blk h3) (lt_of_blk h8) (lt_of_blk hp) (lt_of_blk hh) (by omega) (by have := gc_len L L.length; omega) hrow HB hg hbs
      rw [hl]
      refine hk.mono ?_
      rintro e w' ⟨he, l', hperm, hsort, hcell, hkeep, hB, hsz⟩
      have hl' : l' = gi L (L.length - 1) := by
        refine sorted_uniq ho l' hperm (hsort.imp fun {a b} hab hlt => hab ?_)
        unfold glt at hlt
        unfold cmpi
        split <;> omega
      subst hl'
      refine ⟨he, fun j x hx => ⟨gb, rfl, ?_⟩, fun k hk1 hk2 => hkeep k (fun e => hk1 gb (by simp [Value.ownBlock]) e) hk2, hsz, hB⟩
      obtain ⟨hj, hxe⟩ := List.getElem?_eq_some_iff.1 hx
      rw [hcell j hj, hxe]
theorem store_new1 (W : World) (v o : Value) (h1 : v.oneCell' = true) (t : TypeId) : (store ⟨W.heap.size, 0, none⟩ v).run Try.prog (W.alloc (.cells #[o] t)) = .ok () (W.alloc (.cells #[v] t)) := by
  have h := run_storeCells_at Try.prog W.heap.size 0 t [v] 0 #[o] (W.alloc (.cells #[o] t)) (heap_alloc_new _ _) (by simp) (fun u hu => by rw [List.mem_singleton.1 hu]; exact h1)
  have hadd : (⟨W.heap.size, 0, none⟩ : Addr).add 0 = ⟨W.heap.size, 0, none⟩ := by unfold Addr.add; split <;> simp_all
  rw [alloc_setRow] at h
  simp only [storeCells, hadd, Sem.run_bind] at h
  cases hs : (store ⟨W.heap.size, 0, none⟩ v).run Try.prog (W.alloc (.cells #[o] t)) with
  | ok a w' => rw [hs] at h; simpa using h
  | halt a w' => rw [hs] at h; simp at h
set_option maxHeartbeats 12800000 in
theorem grouped_calls (A : Option Addr) (c : Nat) (L : List S43) (n : Nat) (hn : L.length = n) (hn2 : n ≤ 500) (ho : ord L = true) (w : World) (hr : Kd.C k43 w A n L) :
    Calls Try.prog 34 #[.agg #[.slice A n c]] w fun e w' => e = .returned (.bool (grp L)) ∧ Below w.heap.size w w' := by
  obtain ⟨R, hRdef⟩ : ∃ R, grp L = R := ⟨_, rfl⟩
  rw [hRdef]
  have HRD := Lib.hid hRdef
  have BT := Lib.hid (heap_alloc_new w (.cells #[.slice A n c] 24))
  have HB := Lib.hid (below1 w (.cells #[.slice A n c] 24))
  have HC := Lib.hid (fun W h => Kd.C_below (w1 := W) hr h)
  have t0 := blk_cell BT.out 0 (.slice A n c) rfl
  clear hr hRdef
  go_enter Try.func34, Try.ntmps34
  go_wp2_with fail
  generalize hW : w.alloc (.cells #[.slice A n c] 24) = v0 at *
  clear hW
  refine (sizes_calls A c L n hn (by omega) v0 (HC.out _ HB.out)).mono ?_
  rw [ho]
  rintro e w1 ⟨⟨v, rfl, hv⟩, hb⟩
  obtain ⟨p, hp, rfl, hh⟩ := hv rfl
  have hB1 := below_step HB.out hb
  have hp0 : w.heap.size ≤ p := Nat.le_trans HB.out.size hp
  have hlt := lt_of_blk hh
  have P1 := Lib.hid (blk_alloc (blk_alloc hh (.cells #[.slice (some ⟨p, 0, none⟩) n n] 58)) (.cells #[.slice none 0 0] 58))
  have T1 := Lib.hid (blk_alloc (blk_alloc (below_blk hb BT.out) (.cells #[.slice (some ⟨p, 0, none⟩) n n] 58)) (.cells #[.slice none 0 0] 58))
  have S1 := Lib.hid (blk_alloc (heap_alloc_new w1 (.cells #[.slice (some ⟨p, 0, none⟩) n n] 58)) (.cells #[.slice none 0 0] 58))
  have O1 := Lib.hid (blk2 w1 (.cells #[.slice (some ⟨p, 0, none⟩) n n] 58) #[.slice none 0 0] 58)
  have HB1 := Lib.hid ((hB1.alloc hB1.size (.cells #[.slice (some ⟨p, 0, none⟩) n n] 58)).alloc (Nat.le_trans hB1.size (by simp)) (.cells #[.slice none 0 0] 58))
  have hsz := hB1.size
  have tt := blk_cell T1.out 0 (.slice A n c) rfl
  clear hv hb BT HB t0 hh hB1
  go_wp2
  have lp : p < w1.heap.size := hlt
  generalize hW : (w1.alloc (.cells #[.slice (some ⟨p, 0, none⟩) n n] 58)).alloc (.cells #[.slice none 0 0] 58) = v2 at *
  clear hW
  generalize w1.heap.size = PS at *
  have HR2 := Lib.hid (HC.out _ HB1.out)
  go_loopw [20] (fun t wr => ∃ (i : Nat) (Av : Option Addr) (cv : Nat), i ≤ n ∧ t = .int .i64 (i : Nat) ∧ Hid (wr.heap[PS + 1]? = some (.cells #[.slice Av (gc L i).length cv] 58 (0, 0))) ∧ Hid (wr.ownsRow w.heap.size 3 1 (.slice Av (gc L i).length cv) (gc L i).length (gc L i)) ∧ Hid (∀ k, (Value.slice Av (gc L i).length cv).ownBlock = some k → PS + 1 < k) ∧ Hid (wr.heap[PS]? = some (.cells #[.slice (some ⟨p, 0, none⟩) n n] 58 (0, 0))) ∧ Hid (wr.heap[p]? = some (.cells (ic (sz L) n) 3 (0, 0))) ∧ Hid (wr.heap[w.heap.size]? = some (.cells #[.slice A n c] 24 (0, 0))) ∧ Hid (Below w.heap.size w wr)) (fun t _ => n - (intOf t).toNat)
  case atStart => exact ⟨0, none, 0, Nat.zero_le _, rfl, O1, Lib.hid ⟨rfl, .inl ⟨rfl, rfl⟩⟩, Lib.hid (fun k h => by simp [Value.ownBlock] at h), S1, P1, T1, HB1⟩
  case round =>
    clear P1 T1 S1 O1 HB1 HR2 tt
    obtain ⟨i, Av, cv, hi, rfl, OO, OW, ON, SO, PO, TO, HB⟩ := hrel
    by_cases h : i < n
    · obtain ⟨ad, hA, a0, a1, a2, a3, a4, a5, a6, a7, a8, a9, a10, a11⟩ := at_T43 (HC.out _ HB.out) (i : Int) (by omega) (by omega)
      subst hA
      rw [Int.toNat_natCast] at a0 a1 a2 a3 a4 a5 a6 a7 a8 a9 a10 a11
      have hi2 : (i : Int) < (n : Int) := by omega
      have G1 := Lib.hid (gc_succ L i)
      have G2 := Lib.hid (gc_skip L i)
      have hgl := gc_len L i
      generalize gc L i = XS at *
      obtain ⟨YS, hYS⟩ : ∃ Y, gc L (i + 1) = Y := ⟨_, rfl⟩
      rw [hYS] at G1 G2
      have HYS := Lib.hid hYS
      clear hYS
      generalize rd_T43 L i = x at *
      obtain ⟨xk, xa, xb, ⟨⟨s0, s1, s2, s3⟩⟩, x4, x5, x6, x7, x8⟩ := x
      simp only [] at a0 a1 a2 a3 a4 a5 a6 a7 a8 a9 a10 a11
      have BO := Lib.hid (blk_alloc OO.out (.cells #[.int .i64 xk, .int .i64 xa, .int .i64 xb, .int .u64 s0, .int .u64 s1, .int .u64 s2, .int .u64 s3, .int .i64 x4, .int .i64 x5, .int .i64 x6, .int .i64 x7, .bool x8] 43))
      have BS := Lib.hid (blk_alloc SO.out (.cells #[.int .i64 xk, .int .i64 xa, .int .i64 xb, .int .u64 s0, .int .u64 s1, .int .u64 s2, .int .u64 s3, .int .i64 x4, .int .i64 x5, .int .i64 x6, .int .i64 x7, .bool x8] 43))
      have BP := Lib.hid (blk_alloc PO.out (.cells #[.int .i64 xk, .int .i64 xa, .int .i64 xb, .int .u64 s0, .int .u64 s1, .int .u64 s2, .int .u64 s3, .int .i64 x4, .int .i64 x5, .int .i64 x6, .int .i64 x7, .bool x8] 43))
      have BT := Lib.hid (blk_alloc TO.out (.cells #[.int .i64 xk, .int .i64 xa, .int .i64 xb, .int .u64 s0, .int .u64 s1, .int .u64 s2, .int .u64 s3, .int .i64 x4, .int .i64 x5, .int .i64 x6, .int .i64 x7, .bool x8] 43))
      have BN := Lib.hid (heap_alloc_new wr (.cells #[.int .i64 xk, .int .i64 xa, .int .i64 xb, .int .u64 s0, .int .u64 s1, .int .u64 s2, .int .u64 s3, .int .i64 x4, .int .i64 x5, .int .i64 x6, .int .i64 x7, .bool x8] 43))
      have HB1 := Lib.hid (HB.out.alloc HB.out.size (.cells #[.int .i64 xk, .int .i64 xa, .int .i64 xb, .int .u64 s0, .int .u64 s1, .int .u64 s2, .int .u64 s3, .int .i64 x4, .int .i64 x5, .int .i64 x6, .int .i64 x7, .bool x8] 43))
      have BW := Lib.hid (OW.out.alloc (.cells #[.int .i64 xk, .int .i64 xa, .int .i64 xb, .int .u64 s0, .int .u64 s1, .int .u64 s2, .int .u64 s3, .int .i64 x4, .int .i64 x5, .int .i64 x6, .int .i64 x7, .bool x8] 43))
      have LQ := Lib.hid (lt_of_blk OO.out)
      have b0 := blk_cell BO.out 0 _ rfl
      have f0 := blk_free BO.out 0
      simp only [List.getElem_toArray, List.getElem_cons_zero] at b0
      clear HB OO SO PO TO OW
      by_cases h11 : xk = 11
      · subst h11
        have hY := G1.out rfl
        clear G1 G2
        go_wp2_with ((with_reducible show wpList _ _ _ (⟨some 31, _, _, _, _, _⟩ :: _) _ _); refine hold ?_)
        refine Lib.hid ?_
        generalize hWn : wr.alloc (.cells #[.int .i64 11, .int .i64 xa, .int .i64 xb, .int .u64 s0, .int .u64 s1, .int .u64 s2, .int .u64 s3, .int .i64 x4, .int .i64 x5, .int .i64 x6, .int .i64 x7, .bool x8] 43) = v3 at *
        have hsz3 : v3.heap.size = wr.heap.size + 1 := by rw [← hWn]; simp
        have lq := LQ.out
        clear hWn a0 a1 a2 a3 a4 a5 a6 a7 a8 a9 a10 a11 BN LQ
        refine print_append_cells w.heap.size rfl (.tmp 28) (.tmp 30) 58 3 (.int .i64 0) 1 8 rfl Try.underlying58 info3 rfl (by decide) (by decide) (.slice Av XS.length cv) XS.length XS [.int .i64 (i : Int)] rfl ?_ rfl (fun u hu => ?_) BW.out HB1.out HB1.out.size (by omega) ?_
        · rw [hsz3]; rfl
        · rw [List.mem_singleton.1 hu]; rfl
        intro v4 w4 hown hb hg hat
        rw [← hY] at hown
        have hYl : YS.length = XS.length + 1 := by rw [hY]; simp
        rw [← hYl] at hown
        obtain ⟨A4, c4, rfl⟩ : ∃ A4 c4, v4 = .slice A4 YS.length c4 := by
          rcases hown.2 with ⟨rfl, h0⟩ | ⟨g, cap, cur, rfl, _⟩
          · omega
          · exact ⟨_, _, rfl⟩
        have hon : ∀ k, (Value.slice A4 YS.length c4).ownBlock = some k → PS + 1 < k := by
          intro k hk
          rcases hat with h1 | ⟨b, h1, hle⟩
          · rw [h1] at hk; exact ON.out k hk
          · rw [h1] at hk
            obtain rfl := Option.some.inj hk
            omega
        have hne : ∀ k, k ≤ PS + 1 → some k ≠ (Value.slice Av XS.length cv).ownBlock := fun k hk e => by have := ON.out k e.symm; omega
        have O5 := (hg.block (PS + 1) (by omega) (hne _ (Nat.le_refl _))).trans BO.out
        have S5 := (hg.block PS (by omega) (hne _ (by omega))).trans BS.out
        have P5 := (hg.block p (by omega) (hne _ (by omega))).trans BP.out
        have T5 := (hg.block w.heap.size (by omega) (hne _ (by omega))).trans BT.out
        have OO := Lib.hid (set_blk (i := 0) O5 (.slice A4 YS.length c4))
        have SO := Lib.hid (set_other (c := PS + 1) (i := 0) (v := .slice A4 YS.length c4) S5 (by omega))
        have PO := Lib.hid (set_other (c := PS + 1) (i := 0) (v := .slice A4 YS.length c4) P5 (by omega))
        have TO := Lib.hid (set_other (c := PS + 1) (i := 0) (v := .slice A4 YS.length c4) T5 (by omega))
        have HB2 := Lib.hid (below_set (b := PS + 1) (i := 0) hb (by omega) (.slice A4 YS.length c4))
        have OW2 := Lib.hid (own_move (w1 := w4.setCell ⟨PS + 1, 0, none⟩ (.slice A4 YS.length c4)) hown (fun j hj => Below.heap_setCell w4 ⟨PS + 1, 0, none⟩ _ j (by have := hon j hj; show j ≠ PS + 1; omega)))
        have ON2 := Lib.hid hon
        have q0 := blk_cell O5 0 (.slice Av XS.length cv) rfl
        have q1 := blk_free O5 0
        clear hown hb hg hat hon hne O5 S5 P5 T5 BO BS BP BT BW HB1 ON b0 f0 hY hYl hsz3 lq
        go_wp2
        go_roundw
        case rel => refine ⟨i + 1, A4, c4, by omega, by simp, ?_⟩; rw [HYS.out]; exact ⟨OO, OW2, ON2, SO, PO, TO, HB2⟩
        case measure => simp [intOf]; omega
      · have hY := G2.out h11
        have d1 : (xk == 11) = false := by simp [h11]
        subst hY
        clear G1 G2 h11
        go_wp2
        go_roundw
        case rel => refine ⟨i + 1, Av, cv, by omega, by simp, ?_⟩; rw [HYS.out]; exact ⟨BO, BW, ON, BS, BP, BT, HB1⟩
        case measure => simp [intOf]; omega
    · obtain rfl : i = n := by omega
      have hi2 : ¬ ((i : Int) < (i : Int)) := by omega
      have BO := Lib.hid (blk_alloc OO.out (.cells #[.func (.func 48) #[] #[.pointer (some ⟨PS, 0, none⟩)]] 70))
      have BS := Lib.hid (blk_alloc SO.out (.cells #[.func (.func 48) #[] #[.pointer (some ⟨PS, 0, none⟩)]] 70))
      have BP := Lib.hid (blk_alloc PO.out (.cells #[.func (.func 48) #[] #[.pointer (some ⟨PS, 0, none⟩)]] 70))
      have BT := Lib.hid (blk_alloc TO.out (.cells #[.func (.func 48) #[] #[.pointer (some ⟨PS, 0, none⟩)]] 70))
      have BF := Lib.hid (heap_alloc_new wr (.cells #[.func (.func 48) #[] #[.pointer (some ⟨PS, 0, none⟩)]] 70))
      have BW := Lib.hid (OW.out.alloc (.cells #[.func (.func 48) #[] #[.pointer (some ⟨PS, 0, none⟩)]] 70))
      have HB5 := Lib.hid (HB.out.alloc HB.out.size (.cells #[.func (.func 48) #[] #[.pointer (some ⟨PS, 0, none⟩)]] 70))
      have hst := fun W => store_new1 W (.func (.func 48) #[] #[.pointer (some ⟨PS, 0, none⟩)]) .nilFunc rfl 70
      have b0 := blk_cell BO.out 0 _ rfl
      simp only [List.getElem_toArray, List.getElem_cons_zero] at b0
      have LW := Lib.hid (fun b (hb : (Value.slice Av (gc L i).length cv).ownBlock = some b) => own_lt OW.out b hb)
      have LQ := Lib.hid (lt_of_blk OO.out)
      clear OO SO PO TO OW HB
      go_wp2_with fail
      generalize hWf : wr.alloc (.cells #[.func (.func 48) #[] #[.pointer (some ⟨PS, 0, none⟩)]] 70) = v5 at *
      have lq := LQ.out
      refine (sorted_calls L ho i hn hn2 w v5 w.heap.size PS p wr.heap.size cv Av HB5.out HB5.out.size BS.out BF.out BP.out BW.out (fun k hk => by have h1 := ON.out k hk; have h2 := LW.out k hk; omega)).mono ?_
      rintro e w6 ⟨rfl, hG, hkeep, hsz6, hb⟩
      have hk2 : ∀ k, k ≤ PS + 1 → w6.heap[k]? = v5.heap[k]? := fun k hk => hkeep k (fun b hb => by have := ON.out b hb; omega) (by rw [← hWf]; simp; omega)
      have OO := Lib.hid ((hk2 (PS + 1) (Nat.le_refl _)).trans BO.out)
      have TO := Lib.hid ((hk2 w.heap.size (by omega)).trans BT.out)
      have HB := Lib.hid hb
      have HG := Lib.hid hG
      have hgl := gc_len L i
      have hgg := gc_gi ho
      rw [hn] at hgg
      have HGG := Lib.hid hgg
      clear hG hkeep hb hk2 hWf BO BS BP BT BF BW HB5 hst b0 LW LQ ON lq hsz6 hgg
      have b0 := blk_cell OO.out 0 _ rfl
      simp only [List.getElem_toArray, List.getElem_cons_zero] at b0
      have t0 := blk_cell TO.out 0 (.slice A i c) rfl
      go_wp2
      have HMEM : Hid (∀ x, x ∈ gi L (i - 1) → x < i) := Lib.hid (by
        intro x hx
        have hw := fun j (hj : j < L.length) => ord_wf ho j hj
        have hp := ord_pos ho
        have := ((gi_mem L L.length hw (i - 1) (by omega) x).1 hx).1
        omega)
      have HRD2 : Hid (((List.range (gi L (i - 1)).length).all (fun k => (rd_T43 L ((gi L (i - 1)).getD k 0 : Nat)).f7 == (k : Int) + 1) && (decide ((gi L (i - 1)).length ≤ 9) && !L.any (oddb (gi L (i - 1)).length))) = R) := Lib.hid (by
        have h := HRD.out
        unfold grp at h
        rw [hn] at h
        exact h)
      clear HRD
      generalize (gc L i).length = K at *
      generalize gi L (i - 1) = G at *
      go_loopw [39] (fun t wr => ∃ j : Nat, j ≤ K ∧ t = .int .i64 (j : Nat) ∧ Hid (∀ k : Nat, k < j → (rd_T43 L (G.getD k 0 : Nat)).f7 = (k : Int) + 1) ∧ wr = w6) (fun t _ => K - (intOf t).toNat)
      case atStart => exact ⟨0, Nat.zero_le _, rfl, Lib.hid (fun k h => absurd h (Nat.not_lt_zero _)), rfl⟩
      case round =>
        obtain ⟨j, hj, rfl, HJ, rfl⟩ := hrel
        by_cases hjk : j < K
        · have hkl := HGG.out
          have hgx : G[j]? = some (G.getD j 0) := by rw [List.getD_eq_getElem?_getD, List.getElem?_eq_getElem (by omega)]; rfl
          have hxm : G.getD j 0 < i := HMEM.out _ (List.mem_of_getElem? hgx)
          obtain ⟨gb, rfl, hcell⟩ := HG.out j _ hgx
          have HJ2 : Hid (∀ b : Int, (rd_T43 L (G.getD j 0 : Nat)).f7 = b → b = (j : Int) + 1 → ∀ k : Nat, k < j + 1 → (rd_T43 L (G.getD k 0 : Nat)).f7 = (k : Int) + 1) := Lib.hid (by
            rintro b rfl hb k hk
            by_cases e : k = j
            · rw [e]; exact hb
            · exact HJ.out k (by omega))
          have HF : Hid (∀ b : Int, (rd_T43 L (G.getD j 0 : Nat)).f7 = b → b ≠ (j : Int) + 1 → R = false) := Lib.hid (by
            rintro b rfl hb
            rw [← HRD2.out]
            have : (List.range G.length).all (fun k => (rd_T43 L (G.getD k 0 : Nat)).f7 == (k : Int) + 1) = false := by
              rw [List.all_eq_false]
              exact ⟨j, List.mem_range.2 (by omega), by simpa using hb⟩
            rw [this]; rfl)
          obtain ⟨b, hb⟩ : ∃ b, (rd_T43 L (G.getD j 0 : Nat)).f7 = b := ⟨_, rfl⟩
          have HJ4 := Lib.hid (HJ2.out b hb)
          have HF4 := Lib.hid (HF.out b hb)
          clear HJ2 HF
          generalize G.getD j 0 = x at *
          obtain ⟨ad, hA, _, _, _, _, _, _, _, _, _, _, a10, _⟩ := at_T43 (HC.out _ HB.out) (x : Int) (by omega) (by omega)
          subst hA
          rw [Int.toNat_natCast, hb] at a10
          have hi3 : (j : Int) < (K : Int) := by omega
          have hi4 : (x : Int) < (i : Int) := by omega
          clear HJ hgx hb
          by_cases hbj : b = (j : Int) + 1
          · have HJ3 := Lib.hid (HJ4.out hbj)
            have d1 : (b != (j : Int) + 1) = false := by simp [hbj]
            clear HJ4 HF4 hbj
            go_wp2
            go_roundw
            case rel => exact ⟨j + 1, by omega, by simp, HJ3, by first | trivial | rfl⟩
            case measure => simp [intOf]; omega
          · have d1 : (b != (j : Int) + 1) = true := by simp [hbj]
            obtain rfl := HF4.out hbj
            clear HJ4 HF4 hbj
            go_wp2
            go_ret
            exact ⟨rfl, HB.out⟩
        · obtain rfl : j = K := by omega
          have hi3 : ¬ ((j : Int) < (j : Int)) := by omega
          have hkl := HGG.out
          have hall : (List.range G.length).all (fun k => (rd_T43 L (G.getD k 0 : Nat)).f7 == (k : Int) + 1) = true := by
            rw [List.all_eq_true]
            intro k hk
            have := HJ.out k (by have := List.mem_range.1 hk; omega)
            simpa using this
          have hR := HRD2.out
          rw [hall, Bool.true_and, ← hkl] at hR
          have KC := Lib.hid (contains_calls (PS + 1) j cv Av A c L i hn (by omega) _ b0 (HC.out _ HB.out))
          generalize L.any (oddb j) = z at *
          by_cases h9 : j ≤ 9
          · have d1 : decide ((j : Int) ≤ 9) = true := by simp; omega
            obtain rfl : R = !z := by rw [← hR]; simp [h9]
            clear hR hall HJ HRD2 HG HMEM
            go_wp2_with fail
            refine KC.out.mono ?_
            rintro e w7 ⟨rfl, hb⟩
            have HB7 := Lib.hid (below_step HB.out hb)
            clear hb KC
            go_wp2
            go_ret
            exact ⟨rfl, HB7.out⟩
          · have d1 : decide ((j : Int) ≤ 9) = false := by simp; omega
            obtain rfl : R = false := by rw [← hR]; simp [h9]
            clear hR hall HJ HRD2 HG HMEM KC
            go_wp2
            go_ret
            exact ⟨rfl, HB.out⟩
end Go.Proofs.Ytjeoiebdchlilaa.DGrouped
end
section
/- ast.Right, Deep, Len: their walks. -/
namespace Go.Proofs.Ytjeoiebdchlilaa.DRight
open Go.RowKit CMem DRow DDeep DSizes DFits DLens DSpec DGrp DSort DCon DOdd DWrap DGrouped Q Go.Proofs.YtjeoiebdchlilaaW.PrintWords Go.Proofs.YtjeoiebdchlilaaW.PrintLast Go.Proofs.YtjeoiebdchlilaaW.PrintMore
set_option linter.unusedVariables false
set_option linter.unusedSimpArgs false
set_option maxRecDepth 100000
/-- what is looked for behind has one length, that is not too great -/
def bhd1 (L : List S43) (i : Nat) : Bool := !((rd_T43 L i).f0 == 15 || (rd_T43 L i).f0 == 16) || ((ln L (rd_T43 L i).f1.toNat).1 == (ln L (rd_T43 L i).f1.toNat).2 && decide ((ln L (rd_T43 L i).f1.toNat).1 ≤ 255))
def bhd (L : List S43) : Bool := (List.range L.length).all (bhd1 L)
/-- what is wrong with a tree -/
def rgt (L : List S43) : Int := if frm L = 0 then (if grp L = true then (if bhd L = true then 0 else 7) else 6) else frm L
theorem frm_ord {L : List S43} (h : frm L = 0) : ord L = true := by
  unfold frm at h
  cases ho : ord L
  · rw [ho] at h; simp at h
  · rfl
set_option maxHeartbeats 12800000 in
theorem right_calls (A : Option Addr) (c : Nat) (L : List S43) (n : Nat) (hn : L.length = n) (hn2 : n ≤ 500) (w : World) (hr : Kd.C k43 w A n L) :
    Calls Try.prog 14 #[.agg #[.slice A n c]] w fun e w' => e = .returned (.int .i64 (rgt L)) ∧ Below w.heap.size w w' := by
  obtain ⟨R, hRdef⟩ : ∃ R, rgt L = R := ⟨_, rfl⟩
  rw [hRdef]
  unfold rgt at hRdef
  have HRD := Lib.hid hRdef
  have BT := Lib.hid (heap_alloc_new w (.cells #[.slice A n c] 24))
  have HB := Lib.hid (below1 w (.cells #[.slice A n c] 24))
  have HC := Lib.hid (fun W h => Kd.C_below (w1 := W) hr h)
  have t0 := blk_cell BT.out 0 (.slice A n c) rfl
  clear hr hRdef
  go_enter Try.func14, Try.ntmps14
  go_wp2_with fail
  generalize hW : w.alloc (.cells #[.slice A n c] 24) = v0 at *
  clear hW
  refine (formed_calls A c L n hn hn2 v0 (HC.out _ HB.out)).mono ?_
  rintro e w1 ⟨rfl, hb⟩
  have BT1 := Lib.hid (below_blk hb BT.out)
  have HB1 := Lib.hid (below_step HB.out hb)
  have t1 := blk_cell BT1.out 0 (.slice A n c) rfl
  clear hb BT HB t0
  by_cases hf : frm L = 0
  · have ho := frm_ord hf
    have d1 : (frm L != 0) = false := by simp [hf]
    have hR := HRD.out
    rw [if_pos hf] at hR
    have HR2 := Lib.hid hR
    clear hR HRD
    generalize frm L = fr at *
    go_wp2_with fail
    refine (grouped_calls A c L n hn hn2 ho w1 (HC.out _ HB1.out)).mono ?_
    rintro e w2 ⟨rfl, hb⟩
    have BT2 := Lib.hid (below_blk hb BT1.out)
    have HB2 := Lib.hid (below_step HB1.out hb)
    have t2 := blk_cell BT2.out 0 (.slice A n c) rfl
    clear hb BT1 HB1 t1
    cases hg : grp L
    · have hR := HR2.out
      rw [hg] at hR
      obtain rfl : R = 6 := hR.symm
      clear hR HR2
      go_wp2
      go_ret
      exact ⟨rfl, HB2.out⟩
    · have hR := HR2.out
      rw [if_pos hg] at hR
      have HR3 := Lib.hid hR
      clear hR HR2 hg
      go_wp2_with fail
      refine (lens_calls A c L n hn (by omega) ho w2 (HC.out _ HB2.out)).mono ?_
      rintro e w3 ⟨⟨p, q, hpq, rfl, hp, hq, hP, hQ⟩, hb⟩
      have BT3 := Lib.hid (below_blk hb BT2.out)
      have HB3 := Lib.hid (below_step HB2.out hb)
      have t3 := blk_cell BT3.out 0 (.slice A n c) rfl
      have P3 := Lib.hid hP
      have Q3 := Lib.hid hQ
      have hbase : w.heap.size ≤ p ∧ w.heap.size ≤ q := ⟨Nat.le_trans HB2.out.size hp, Nat.le_trans HB2.out.size hq⟩
      clear hb BT2 HB2 t2 hP hQ hp hq
      go_wp2
      go_loopw [24] (fun t wr => ∃ i : Nat, i ≤ n ∧ t = .int .i64 (i : Nat) ∧ Hid (∀ k : Nat, k < i → bhd1 L k = true) ∧ Hid (wr.heap[p]? = some (.cells (ic (fun m => (ln L m).1) n) 3 (0, 0))) ∧ Hid (wr.heap[q]? = some (.cells (ic (fun m => (ln L m).2) n) 3 (0, 0))) ∧ Hid (Below w.heap.size w wr)) (fun t _ => n - (intOf t).toNat)
      case atStart => exact ⟨0, Nat.zero_le _, rfl, Lib.hid (fun k h => absurd h (Nat.not_lt_zero _)), P3, Q3, HB3⟩
      case round =>
        clear P3 Q3 HB3 BT3 t3
        obtain ⟨i, hi, rfl, HJ, PO, QO, HB⟩ := hrel
        by_cases h : i < n
        · obtain ⟨ad, hA, a0, a1, a2, a3, a4, a5, a6, a7, a8, a9, a10, a11⟩ := at_T43 (HC.out _ HB.out) (i : Int) (by omega) (by omega)
          subst hA
          rw [Int.toNat_natCast] at a0 a1 a2 a3 a4 a5 a6 a7 a8 a9 a10 a11
          have hi2 : (i : Int) < (n : Int) := by omega
          have hw := ord_wf ho i (by omega)
          have HJ2 : Hid (∀ b, bhd1 L i = b → b = true → ∀ k : Nat, k < i + 1 → bhd1 L k = true) := Lib.hid (by
            rintro b rfl hb k hk
            by_cases e : k = i
            · rw [e]; exact hb
            · exact HJ.out k (by omega))
          have HF : Hid (∀ b, bhd1 L i = b → b = false → R = 7) := Lib.hid (by
            rintro b rfl hb
            rw [← HR3.out]
            have : bhd L = false := by
              unfold bhd
              rw [List.all_eq_false]
              exact ⟨i, List.mem_range.2 (by omega), by rw [hb]; decide⟩
            rw [this]; rfl)
          have hk1 : (rd_T43 L i).f0 = 15 ∨ (rd_T43 L i).f0 = 16 → ∃ a : Nat, (rd_T43 L i).f1 = (a : Int) ∧ a < i := fun hk => kid1 hw (by rcases hk with hk | hk <;> rw [hk] <;> rfl)
          obtain ⟨b, hb⟩ : ∃ b, bhd1 L i = b := ⟨_, rfl⟩
          have HJ4 := Lib.hid (HJ2.out b hb)
          have HF4 := Lib.hid (HF.out b hb)
          unfold bhd1 at hb
          clear HJ2 HF HJ hw
          generalize rd_T43 L i = x at *
          obtain ⟨xk, xa, xb, ⟨⟨s0, s1, s2, s3⟩⟩, x4, x5, x6, x7, x8⟩ := x
          simp only [] at a0 a1 a2 a3 a4 a5 a6 a7 a8 a9 a10 a11 hb hk1
          have BP := Lib.hid (blk_alloc PO.out (.cells #[.int .i64 xk, .int .i64 xa, .int .i64 xb, .int .u64 s0, .int .u64 s1, .int .u64 s2, .int .u64 s3, .int .i64 x4, .int .i64 x5, .int .i64 x6, .int .i64 x7, .bool x8] 43))
          have BQ := Lib.hid (blk_alloc QO.out (.cells #[.int .i64 xk, .int .i64 xa, .int .i64 xb, .int .u64 s0, .int .u64 s1, .int .u64 s2, .int .u64 s3, .int .i64 x4, .int .i64 x5, .int .i64 x6, .int .i64 x7, .bool x8] 43))
          have BN := Lib.hid (heap_alloc_new wr (.cells #[.int .i64 xk, .int .i64 xa, .int .i64 xb, .int .u64 s0, .int .u64 s1, .int .u64 s2, .int .u64 s3, .int .i64 x4, .int .i64 x5, .int .i64 x6, .int .i64 x7, .bool x8] 43))
          have HB1 := Lib.hid (HB.out.alloc HB.out.size (.cells #[.int .i64 xk, .int .i64 xa, .int .i64 xb, .int .u64 s0, .int .u64 s1, .int .u64 s2, .int .u64 s3, .int .i64 x4, .int .i64 x5, .int .i64 x6, .int .i64 x7, .bool x8] 43))
          clear HB PO QO
          by_cases hk : xk = 15 ∨ xk = 16
          · obtain ⟨a, rfl, hai⟩ := hk1 hk
            have hkb : (xk == 15 || xk == 16) = true := by rcases hk with hk | hk <;> rw [hk] <;> rfl
            rw [hkb, Int.toNat_natCast] at hb
            have n0 := blk_cell BN.out 0 (.int .i64 xk) rfl
            have n1 := blk_cell BN.out 1 (.int .i64 (a : Nat)) rfl
            have pa := blk_cell BP.out a _ (ic_at _ n a (by omega))
            have qa := blk_cell BQ.out a _ (ic_at _ n a (by omega))
            have han : (a : Int) < (n : Int) := by omega
            generalize (ln L a).1 = lo at *
            generalize (ln L a).2 = hi' at *
            by_cases e1 : lo = hi'
            · subst e1
              by_cases e2 : lo > 255
              · have d1 : decide (lo > 255) = true := by simp [e2]
                have d2 : (lo != lo) = false := by simp
                obtain rfl := HF4.out (by rw [← hb]; simp; omega)
                clear HF4 HJ4 hb hkb
                rcases hk with rfl | rfl
                · go_wp2
                  go_quiet (fail)
                  go_wp2
                  go_ret
                  exact ⟨rfl, by first | exact HB1.out | exact below_drewN HB1.out _⟩
                · go_wp2
                  go_quiet (fail)
                  go_wp2
                  go_ret
                  exact ⟨rfl, by first | exact HB1.out | exact below_drewN HB1.out _⟩
              · have d1 : decide (lo > 255) = false := by simp [e2]
                have d2 : (lo != lo) = false := by simp
                have HJ3 := Lib.hid (HJ4.out (by rw [← hb]; simp; omega))
                clear HF4 HJ4 hb hkb
                rcases hk with rfl | rfl
                · go_wp2
                  go_quiet (fail)
                  go_wp2
                  go_roundw
                  case rel => exact ⟨i + 1, by omega, by simp, HJ3, BP, BQ, Lib.hid (below_drewN HB1.out _)⟩
                  case measure => simp [intOf]; omega
                · go_wp2
                  go_quiet (fail)
                  go_wp2
                  go_roundw
                  case rel => exact ⟨i + 1, by omega, by simp, HJ3, BP, BQ, Lib.hid (below_drewN HB1.out _)⟩
                  case measure => simp [intOf]; omega
            · have d2 : (lo != hi') = true := by simp [e1]
              obtain rfl := HF4.out (by rw [← hb]; simp [e1])
              clear HF4 HJ4 hb hkb e1
              rcases hk with rfl | rfl
              · go_wp2
                go_quiet (fail)
                go_wp2
                go_ret
                exact ⟨rfl, by first | exact HB1.out | exact below_drewN HB1.out _⟩
              · go_wp2
                go_quiet (fail)
                go_wp2
                go_ret
                exact ⟨rfl, by first | exact HB1.out | exact below_drewN HB1.out _⟩
          · have hkb : (xk == 15 || xk == 16) = false := by simp; omega
            have n0 := blk_cell BN.out 0 (.int .i64 xk) rfl
            have d1 : (xk != 15) = true := by simp; omega
            have d2 : (xk != 16) = true := by simp; omega
            have HJ3 := Lib.hid (HJ4.out (by rw [← hb, hkb]; rfl))
            clear HF4 HJ4 hb hkb hk hk1
            go_wp2
            go_roundw
            case rel => exact ⟨i + 1, by omega, by simp, HJ3, BP, BQ, HB1⟩
            case measure => simp [intOf]; omega
        · obtain rfl : i = n := by omega
          have hi2 : ¬ ((i : Int) < (i : Int)) := by omega
          have hall : bhd L = true := by
            unfold bhd
            rw [List.all_eq_true]
            intro k hk
            exact HJ.out k (by have := List.mem_range.1 hk; omega)
          obtain rfl : R = 0 := by rw [← HR3.out, hall]; rfl
          clear HR3 hall HJ
          go_wp2
          go_ret
          exact ⟨rfl, HB.out⟩
  · have d1 : (frm L != 0) = true := by simp [hf]
    have hR := HRD.out
    rw [if_neg hf] at hR
    clear HRD
    generalize frm L = fr at *
    subst hR
    go_wp2
    go_ret
    exact ⟨rfl, HB1.out⟩
set_option maxHeartbeats 6400000 in
theorem deep_calls (A : Option Addr) (c : Nat) (L : List S43) (n : Nat) (hn : L.length = n) (hn2 : n ≤ 500) (w : World) (hr : Kd.C k43 w A n L) :
    Calls Try.prog 16 #[.agg #[.slice A n c]] w fun e w' => e = .returned (.int .i64 (dep L)) ∧ Below w.heap.size w w' := by
  obtain ⟨R, hRdef⟩ : ∃ R, dep L = R := ⟨_, rfl⟩
  rw [hRdef]
  unfold dep at hRdef
  have BT := Lib.hid (heap_alloc_new w (.cells #[.slice A n c] 24))
  have HB := Lib.hid (below1 w (.cells #[.slice A n c] 24))
  have HR := Lib.hid (Kd.C_below hr HB.out)
  have t0 := blk_cell BT.out 0 (.slice A n c) rfl
  have hgt : decide ((n : Int) > 500) = false := by simp; omega
  clear hr
  go_enter Try.func16, Try.ntmps16
  go_wp2_with fail
  generalize hW : w.alloc (.cells #[.slice A n c] 24) = v0 at *
  clear hW
  refine (sizes_calls A c L n hn (by omega) v0 HR.out).mono ?_
  rintro e w1 ⟨⟨v, rfl, hv⟩, hb⟩
  have BT1 := Lib.hid (below_blk hb BT.out)
  have HR1 := Lib.hid (Kd.C_below HR.out hb)
  have HB1 := Lib.hid (below_step HB.out hb)
  have t1 := blk_cell BT1.out 0 (.slice A n c) rfl
  clear hb BT HB HR t0 hv
  cases ho : ord L
  · obtain rfl : R = 0 := by rw [← hRdef, ho]; rfl
    clear hRdef
    go_wp2
    go_ret
    exact ⟨rfl, HB1.out⟩
  · have hpos := ord_pos ho
    rw [if_pos ho, hn] at hRdef
    have K2 := Lib.hid (fun W h => depths_calls A c L n hn (by omega) ho W h)
    obtain ⟨m, hm⟩ : ∃ m, n = m + 1 := ⟨n - 1, by omega⟩
    have hm1 : (n : Int) - 1 = (m : Int) := by omega
    have hm2 : (m : Int) < (n : Int) := by omega
    have hd : dp L m = R := by rw [← hRdef, hm]; rfl
    have HBm := HB1.out.drew
    have HRm := Lib.hid (Kd.C_below HR1.out (Below.refl _ _).drew)
    have hwm : wrap64 (m : Int) = (m : Int) := by unfold wrap64; omega
    have hm0 : decide (0 ≤ (m : Int)) = true := by simp
    clear hRdef hm
    go_wp2
    refine start_ (n := 9) (S := fun w' => w'.cell? ⟨w.heap.size, 0, none⟩ = some (.slice A n c) ∧ Kd.C k43 w' A n L ∧ Below w.heap.size w w') (ds := []) #[false, false, false, false, false, false, false, false, false] (by kernel_rfl) rfl rfl ⟨t1, HRm.out, HBm⟩ (fun hHeld => ?_)
    refine pure_ (i := 2) (N := some 18) (v := ?_) (a' := ?_) #[false, false, true, false, false, false, false, false, false] rfl rfl (by kernel_rfl) (fun _ _ _ h => h) (Or.inl ⟨by rfl, ?_⟩) ?_ ?_
    rotate_left
    · intro w'
      go_simp
      with_reducible rfl
    rotate_left
    · simp only [Act.put, List.setIfInBounds_toArray, List.set_cons_zero, List.set_cons_succ, i64_w, i32_w]
      rfl
    refine take_ (i := 0) (N := some 16) (v := ?_) (a' := ?_) #[true, false, true, false, false, false, false, false, false] rfl rfl (by kernel_rfl) (fun _ _ _ h => h) (Or.inl ⟨by rfl, ?_⟩) hHeld ?_ ?_
    rotate_left
    · rintro w' ⟨s0, s1, s2⟩
      go_simp
      with_reducible rfl
    rotate_left
    · simp only [Act.put, List.setIfInBounds_toArray, List.set_cons_zero, List.set_cons_succ, i64_w, i32_w]
      rfl
    refine take_ (i := 3) (N := some 19) (v := ?_) (a' := ?_) #[true, false, true, true, false, false, false, false, false] rfl rfl (by kernel_rfl) (fun _ _ _ h => h) (Or.inl ⟨by rfl, ?_⟩) hHeld ?_ ?_
    rotate_left
    · rintro w' ⟨s0, s1, s2⟩
      go_simp
      with_reducible rfl
    rotate_left
    · simp only [Act.put, List.setIfInBounds_toArray, List.set_cons_zero, List.set_cons_succ, i64_w, i32_w]
      rfl
    refine pure_ (i := 4) (N := some 20) (v := ?_) (a' := ?_) #[true, false, true, true, true, false, false, false, false] rfl rfl (by kernel_rfl) (fun _ _ _ h => h) (Or.inl ⟨by rfl, ?_⟩) ?_ ?_
    rotate_left
    · intro w'
      go_simp
      with_reducible rfl
    rotate_left
    · simp only [Act.put, List.setIfInBounds_toArray, List.set_cons_zero, List.set_cons_succ, i64_w, i32_w]
      rfl
    refine pure_ (i := 5) (N := some 21) (v := ?_) (a' := ?_) #[true, false, true, true, true, true, false, false, false] rfl rfl (by kernel_rfl) (fun _ _ _ h => h) (Or.inl ⟨by rfl, ?_⟩) ?_ ?_
    rotate_left
    · intro w'
      go_simp
      with_reducible rfl
    rotate_left
    · simp only [Act.put, List.setIfInBounds_toArray, List.set_cons_zero, List.set_cons_succ, i64_w, i32_w]
      rfl
    refine one_ (i := 1) (N := some 17) #[true, true, true, true, true, true, false, false, false] rfl rfl (by kernel_rfl) (by decide) (fun K hK => ?_)
    refine goes_ Try.func37 (by kernel_rfl) rfl #[.agg #[.slice A n c]] (by rfl) rfl rfl (by simp only [List.map_toArray, List.map_cons, List.map_nil]; rfl) ?_
    with_reducible refine (K2.out _ hHeld.2.1).mono ?_
    rintro e X1 ⟨⟨p, hp, rfl, hh⟩, hb⟩
    refine ⟨_, rfl, ?_⟩
    have q1 := blk_cell hh m _ (ic_at (dp L) n m (by omega))
    rw [hd] at q1
    refine hK.out _ _ ⟨(below_of hb hHeld.1), (Kd.C_below hHeld.2.1 hb), (below_step hHeld.2.2 hb)⟩ (fun hHeld => ?_)
    clear hK K
    refine norm_ (a' := ?_) ?_ ?_
    rotate_left
    · show Act.put _ (some 17) _ = _
      simp only [Act.put, List.setIfInBounds_toArray, List.set_cons_zero, List.set_cons_succ, i64_w, i32_w]
      rfl
    refine pure_ (i := 6) (N := some 22) (v := ?_) (a' := ?_) #[true, true, true, true, true, true, true, false, false] rfl rfl (by kernel_rfl) (fun _ _ _ h => h) (Or.inl ⟨by rfl, ?_⟩) ?_ ?_
    rotate_left
    · intro w'
      go_simp
      with_reducible rfl
    rotate_left
    · simp only [Act.put, List.setIfInBounds_toArray, List.set_cons_zero, List.set_cons_succ, i64_w, i32_w]
      rfl
    refine one_ (i := 7) (N := some 23) #[true, true, true, true, true, true, true, true, false] rfl rfl (by kernel_rfl) (by decide) (fun K hK => ?_)
    refine value_ (w1 := ?_) (v := ?_) (by rfl) rfl ?_ ?_
    rotate_left 2
    · go_simp
      constructor
      · rfl
      · rfl
    refine hK.out _ _ ⟨hHeld.1, hHeld.2.1, hHeld.2.2⟩ (fun hHeld => ?_)
    clear hK K
    refine norm_ (a' := ?_) ?_ ?_
    rotate_left
    · show Act.put _ (some 23) _ = _
      simp only [Act.put, List.setIfInBounds_toArray, List.set_cons_zero, List.set_cons_succ, i64_w, i32_w]
      rfl
    refine pure_ (i := 8) (N := some 2) (v := ?_) (a' := ?_) #[true, true, true, true, true, true, true, true, true] rfl rfl (by kernel_rfl) (fun _ _ _ h => h) (Or.inl ⟨by rfl, ?_⟩) ?_ ?_
    rotate_left
    · intro w'
      go_simp
      with_reducible rfl
    rotate_left
    · simp only [Act.put, List.setIfInBounds_toArray, List.set_cons_zero, List.set_cons_succ, i64_w, i32_w]
      rfl
    refine done_ (by kernel_rfl) ?_
    have HB2 := Lib.hid (below_step HBm hb)
    clear hb hh q1
    go_wp2
    go_ret
    exact ⟨rfl, HB2.out⟩
/-- how many bytes: least, most, what is wrong -/
def lenr (L : List S43) (i : Int) : Int × Int × Int := if frm L = 0 then (if i < 0 ∨ (L.length : Int) ≤ i then (0, 0, 5) else ((ln L i.toNat).1, (ln L i.toNat).2, 0)) else (0, 0, frm L)
set_option maxHeartbeats 6400000 in
theorem len_calls (A : Option Addr) (c : Nat) (L : List S43) (n : Nat) (hn : L.length = n) (hn2 : n ≤ 500) (i : Int) (w : World) (hr : Kd.C k43 w A n L) :
    Calls Try.prog 12 #[.agg #[.slice A n c], .int .i64 i] w fun e w' => e = .returned (.tuple #[.int .i64 (lenr L i).1, .int .i64 (lenr L i).2.1, .int .i64 (lenr L i).2.2]) ∧ Below w.heap.size w w' := by
  obtain ⟨R1, hR1⟩ : ∃ R, (lenr L i).1 = R := ⟨_, rfl⟩
  obtain ⟨R2, hR2⟩ : ∃ R, (lenr L i).2.1 = R := ⟨_, rfl⟩
  obtain ⟨R3, hR3⟩ : ∃ R, (lenr L i).2.2 = R := ⟨_, rfl⟩
  rw [hR1, hR2, hR3]
  unfold lenr at hR1 hR2 hR3
  rw [hn] at hR1 hR2 hR3
  have BT := Lib.hid (heap_alloc_new w (.cells #[.slice A n c] 24))
  have HB := Lib.hid (below1 w (.cells #[.slice A n c] 24))
  have HC := Lib.hid (fun W h => Kd.C_below (w1 := W) hr h)
  have t0 := blk_cell BT.out 0 (.slice A n c) rfl
  clear hr
  go_enter Try.func12, Try.ntmps12
  go_wp2_with fail
  generalize hW : w.alloc (.cells #[.slice A n c] 24) = v0 at *
  clear hW
  refine (formed_calls A c L n hn hn2 v0 (HC.out _ HB.out)).mono ?_
  rintro e w1 ⟨rfl, hb⟩
  have BT1 := Lib.hid (below_blk hb BT.out)
  have HB1 := Lib.hid (below_step HB.out hb)
  have t1 := blk_cell BT1.out 0 (.slice A n c) rfl
  clear hb BT HB t0
  by_cases hf : frm L = 0
  · have ho := frm_ord hf
    have d1 : (frm L != 0) = false := by simp [hf]
    rw [if_pos hf] at hR1 hR2 hR3
    generalize frm L = fr at *
    by_cases hi0 : i < 0
    · have d2 : decide (i < 0) = true := by simp [hi0]
      rw [if_pos (Or.inl hi0)] at hR1 hR2 hR3
      subst hR1 hR2 hR3
      go_wp2
      go_ret3
      exact ⟨rfl, HB1.out⟩
    · have d2 : decide (i < 0) = false := by simp [hi0]
      by_cases hin : (n : Int) ≤ i
      · have d3 : decide (i ≥ (n : Int)) = true := by simp; omega
        rw [if_pos (Or.inr hin)] at hR1 hR2 hR3
        subst hR1 hR2 hR3
        clear hi0 hin
        go_wp2
        go_ret3
        exact ⟨rfl, HB1.out⟩
      · have d3 : decide (i ≥ (n : Int)) = false := by simp; omega
        rw [if_neg (show ¬ (i < 0 ∨ (n : Int) ≤ i) by omega)] at hR1 hR2 hR3
        obtain ⟨m, rfl⟩ := Int.eq_ofNat_of_zero_le (show 0 ≤ i by omega)
        rw [Int.toNat_natCast] at hR1 hR2 hR3
        have hmn : (m : Int) < (n : Int) := by omega
        have hmn2 : m < n := by omega
        simp only [] at hR1 hR2 hR3
        subst hR3
        go_wp2_with fail
        refine (lens_calls A c L n hn (by omega) ho w1 (HC.out _ HB1.out)).mono ?_
        rintro e w3 ⟨⟨p, q, hpq, rfl, hp, hq, hP, hQ⟩, hb⟩
        have HB3 := Lib.hid (below_step HB1.out hb)
        have q1 := blk_cell hP m _ (ic_at _ n m hmn2)
        have q2 := blk_cell hQ m _ (ic_at _ n m hmn2)
        rw [hR1] at q1
        rw [hR2] at q2
        clear hb hP hQ hp hq hR1 hR2 BT1 HB1 t1
        go_wp2
        go_quiet (fail)
        go_wp2
        go_ret3
        exact ⟨rfl, below_drewN HB3.out _⟩
  · have d1 : (frm L != 0) = true := by simp [hf]
    rw [if_neg hf] at hR1 hR2 hR3
    generalize frm L = fr at *
    subst hR1 hR2 hR3
    go_wp2
    go_ret3
    exact ⟨rfl, HB1.out⟩
end Go.Proofs.Ytjeoiebdchlilaa.DRight
end
section
/- ast.Join: its walk. -/
namespace Go.Proofs.Ytjeoiebdchlilaa.DJoin
open Go.RowKit CMem DRow DDeep DSizes DRowN DWrap Q Go.Proofs.YtjeoiebdchlilaaW.PrintWords Go.Proofs.YtjeoiebdchlilaaW.PrintLast Go.Proofs.YtjeoiebdchlilaaW.PrintMore
set_option linter.unusedVariables false
set_option linter.unusedSimpArgs false
set_option maxRecDepth 100000
/-- a node, its children so many nodes further on -/
def shift (n : Int) (x : S43) : S43 := { x with f1 := if kd x.f0 > 0 then wrap64 (x.f1 + n) else x.f1, f2 := if kd x.f0 > 1 then wrap64 (x.f2 + n) else x.f2 }
theorem ra_set (xs : List S43) (i : Nat) (x : S43) (h : i < xs.length) : (ra xs).take (12 * i) ++ (nc x).toList ++ (ra xs).drop (12 * i + 12) = ra (xs.set i x) := by
  rw [ra_take, show 12 * i + 12 = 12 * (i + 1) by omega, ra_drop, List.set_eq_take_append_cons_drop, if_pos h, ra_append, ra, List.append_assoc]
theorem wpList_store_node {w : World} {ops : Array Oper} {rest : List Oper} {o : Oper} {a : Act} {Q : Exit → Act → World → Prop} (hgd : o.guard = none) (p s : Operand)
    (ho : o.op = .store 43 p s) (g i : Nat) (x : S43) (hp : a.eval p = .pointer (some ⟨g, i * 12, none⟩)) (hs : a.eval s = .agg (nc x)) (xs : List S43) (hi : i < xs.length)
    (hg : w.heap[g]? = some (.cells (ra xs).toArray 43 (0, 0))) (B : Nat) (w0 : World) (hB : Below B w0 w) (hBg : B ≤ g)
    (h : ∀ w', w'.heap[g]? = some (.cells (ra (xs.set i x)).toArray 43 (0, 0)) → (∀ k, k ≠ g → w'.heap[k]? = w.heap[k]?) → w'.heap.size = w.heap.size → Below B w0 w' → wpList Try.prog ops Q rest (a.put o.dst undef) w') :
    wpList Try.prog ops Q (o :: rest) a w := by
  have hrun : (storeVar 43 ⟨g, i * 12, none⟩ (.agg (nc x))).run Try.prog w = .ok () (w.setRow g (ra (xs.set i x)).toArray) := by
    have h1 := run_storeCells_at Try.prog g (i * 12) 43 (nc x).toList 0 (ra xs).toArray w hg (by rw [nc_len, List.size_toArray, ra_length]; omega) (fun v hv => ra_one [x] v (by simpa [ra] using hv))
    have e : (ra xs).toArray.toList.take (i * 12 + 0) ++ (nc x).toList ++ (ra xs).toArray.toList.drop (i * 12 + 0 + (nc x).toList.length) = ra (xs.set i x) := by
      rw [nc_len, ← ra_set xs i x hi, Nat.add_zero, Nat.mul_comm i 12]
    rw [e] at h1
    have hi : (Try.prog.info? 43).map (·.size) = some 12 := by kernel_rfl
    have hsz : (nc x).size = 12 := rfl
    cases hq : Try.prog.info? 43 with
    | none => simp [hq] at hi
    | some j =>
      have hj : j.size = 12 := by simpa [hq] using hi
      simp [storeVar, sizeOf, typeInfo, hq, Value.cells, hj, hsz, h1]
  refine wpList_plain hgd fun K hK => ?_
  have hfin := hK _ _ (h _ (setRow_heap w g _ _ _ _ hg) (fun k hk => setRow_other w g k _ hk) (by simp [World.setRow]) (below_setRow hB hBg _))
  unfold Oper.wp execOp
  simp only [ho, hp, hs, Instr.storeAt, Instr.sureAddr, Sem.run_bind, Sem.run_pure, Result.andThen_ok, hrun]
  exact hfin
set_option maxHeartbeats 6400000 in
theorem join_calls (A : Option Addr) (c : Nat) (L : List S43) (n : Nat) (hn : L.length = n) (A2 : Option Addr) (c2 : Nat) (M : List S43) (m : Nat) (hm : M.length = m) (hnm : n + m ≤ 999) (kind : Int) (w : World) (hr : Kd.C k43 w A n L) (hr2 : Kd.C k43 w A2 m M) :
    Calls Try.prog 22 #[.agg #[.slice A n c], .agg #[.slice A2 m c2], .int .i64 kind] w fun e w' =>
      (∃ v, e = .returned (.agg #[v]) ∧ w'.ownsRow w.heap.size 43 12 v (n + m + 1) (ra (L ++ M.map (shift n) ++ [⟨kind, (n : Int) - 1, (n : Int) + m - 1, z41, 0, 0, 0, 0, false⟩]))) ∧ Below w.heap.size w w' := by
  have BA2 := Lib.hid (fun o => blk_alloc (blk_alloc (blk_alloc (heap_alloc_new w (.cells #[.slice A n c] 24)) (.cells #[.slice A2 m c2] 24)) (.cells #[.slice none 0 0] 24)) o)
  have BB2 := Lib.hid (fun o => blk_alloc (blk_alloc (blk2 w (.cells #[.slice A n c] 24) #[.slice A2 m c2] 24) (.cells #[.slice none 0 0] 24)) o)
  have BR2 := Lib.hid (fun o => blk_alloc (new3 w (.cells #[.slice A n c] 24) (.cells #[.slice A2 m c2] 24) (.cells #[.slice none 0 0] 24)) o)
  have HB2 := Lib.hid (fun o => (below3 w (.cells #[.slice A n c] 24) (.cells #[.slice A2 m c2] 24) (.cells #[.slice none 0 0] 24)).alloc (below3 w (.cells #[.slice A n c] 24) (.cells #[.slice A2 m c2] 24) (.cells #[.slice none 0 0] 24)).size o)
  have mk : ∀ W : World, (Instr.makeSlice 22 (.int .i64 ((n : Int) + (m : Int))) (.int .i64 ((n : Int) + (m : Int) + 1))).run Try.prog W = .ok (.slice (some ⟨W.heap.size, 0, none⟩) (n + m) (n + m + 1)) (W.alloc (.cells (ra (List.replicate (n + m + 1) z43)).toArray 43)) := fun W => by
    have h := make_nodes (n + m) (n + m + 1) (by omega) (by omega) W
    rwa [show ((n + m : Nat) : Int) = (n : Int) + (m : Int) by omega, show ((n + m + 1 : Nat) : Int) = (n : Int) + (m : Int) + 1 by omega] at h
  obtain ⟨Z, hZ⟩ : ∃ Z, List.replicate (n + m + 1) z43 = Z := ⟨_, rfl⟩
  have hZd : Z.drop n = List.replicate (m + 1) z43 := by rw [← hZ, List.drop_replicate]; congr 1; omega
  have hZl : Z.length = n + m + 1 := by rw [← hZ]; simp
  rw [hZ] at mk
  have HC := Lib.hid (fun W h => Kd.C_below (w1 := W) hr h)
  have HC2 := Lib.hid (fun W h => Kd.C_below (w1 := W) hr2 h)
  have HZd := Lib.hid hZd
  have HZl := Lib.hid hZl
  clear hr hr2 hZ hZd hZl
  go_enter Try.func22, Try.ntmps22
  go_wp2_with ((with_reducible show wpList _ _ _ (⟨some 29, _, _, _, _, _⟩ :: _) _ _); refine hold ?_)
  refine Lib.hid ?_
  refine wpList_copy_nodes rfl (.tmp 26) (.tmp 28) rfl rfl (w.heap.size + 1 + 1 + 1) n (n + m) (n + m + 1) c A rfl rfl Z L (new4 _ _ _ _ _) (HC.out _ (HB2.out _)) (by omega) (HZl.out ▸ Nat.le_succ (n + m)) w.heap.size w (HB2.out _) (by omega) ?_
  intro w2 hY hK hsz hb
  have BB3 := Lib.hid ((hK (w.heap.size + 1) (by omega)).trans (BB2.out _))
  have BR3 := Lib.hid ((hK (w.heap.size + 1 + 1) (by omega)).trans (BR2.out _))
  rw [HZd.out] at hY
  have BY3 := Lib.hid hY
  have HB3 := Lib.hid hb
  have tb := blk_cell BB3.out 0 (.slice A2 m c2) rfl
  clear hY hK hsz hb BA2 BB2 BR2 HB2 mk HC HZd HZl
  go_wp2
  go_loopw [33] (fun t wr => ∃ i : Nat, i ≤ m ∧ t = .int .i64 (i : Nat) ∧ Hid (wr.heap[w.heap.size + 1 + 1 + 1]? = some (.cells (ra (L ++ (M.map (shift n)).take i ++ List.replicate (m + 1 - i) z43)).toArray 43 (0, 0))) ∧ Hid (wr.heap[w.heap.size + 1 + 1]? = some (.cells #[.slice none 0 0] 24 (0, 0))) ∧ Hid (Below w.heap.size w wr)) (fun t _ => m - (intOf t).toNat)
  case atStart => exact ⟨0, Nat.zero_le _, rfl, Lib.hid (by rw [List.take_zero, List.append_nil]; exact BY3.out), BR3, HB3⟩
  case round =>
    clear BY3 BB3 BR3 HB3 tb
    obtain ⟨i, hi, rfl, PO, RO, HB⟩ := hrel
    by_cases h : i < m
    · obtain ⟨ad, hA, a0, a1, a2, a3, a4, a5, a6, a7, a8, a9, a10, a11⟩ := at_T43 (HC2.out _ HB.out) (i : Int) (by omega) (by omega)
      subst hA
      rw [Int.toNat_natCast] at a0 a1 a2 a3 a4 a5 a6 a7 a8 a9 a10 a11
      have hi2 : (i : Int) < (m : Int) := by omega
      have hx : M[i]? = some (rd_T43 M i) := by
        unfold rd_T43
        rw [Int.toNat_natCast, List.getD_eq_getElem?_getD, List.getElem?_eq_getElem (by omega)]
        rfl
      have hgrow : ∀ y, shift n (rd_T43 M i) = y → ((L ++ (M.map (shift n)).take i ++ List.replicate (m + 1 - i) z43).set (n + i) y) = L ++ (M.map (shift n)).take (i + 1) ++ List.replicate (m + 1 - (i + 1)) z43 := by
        intro y hy
        have h1 : (M.map (shift n)).take (i + 1) = (M.map (shift n)).take i ++ [y] := by
          rw [List.take_add_one, List.getElem?_map, hx, ← hy]; rfl
        rw [h1, show m + 1 - i = (m + 1 - (i + 1)) + 1 by omega, List.replicate_succ, List.set_append_right _ _ (by simp [hn]; omega)]
        rw [show n + i - (L ++ (M.map (shift n)).take i).length = 0 by simp [hn, hm]; omega]
        simp
      have HG := Lib.hid hgrow
      clear hgrow hx
      have hrl : (L ++ (M.map (shift n)).take i ++ List.replicate (m + 1 - i) z43).length = n + m + 1 := by simp [hn, hm]; omega
      generalize L ++ (M.map (shift n)).take i ++ List.replicate (m + 1 - i) z43 = XS at *
      generalize rd_T43 M i = x at *
      obtain ⟨xk, xa, xb, ⟨⟨s0, s1, s2, s3⟩⟩, x4, x5, x6, x7, x8⟩ := x
      simp only [] at a0 a1 a2 a3 a4 a5 a6 a7 a8 a9 a10 a11
      have KK := Lib.hid (kids_calls xk)
      have BN := Lib.hid (heap_alloc_new wr (.cells #[.int .i64 xk, .int .i64 xa, .int .i64 xb, .int .u64 s0, .int .u64 s1, .int .u64 s2, .int .u64 s3, .int .i64 x4, .int .i64 x5, .int .i64 x6, .int .i64 x7, .bool x8] 43))
      have BO := Lib.hid (blk_alloc PO.out (.cells #[.int .i64 xk, .int .i64 xa, .int .i64 xb, .int .u64 s0, .int .u64 s1, .int .u64 s2, .int .u64 s3, .int .i64 x4, .int .i64 x5, .int .i64 x6, .int .i64 x7, .bool x8] 43))
      have BT := Lib.hid (blk_alloc RO.out (.cells #[.int .i64 xk, .int .i64 xa, .int .i64 xb, .int .u64 s0, .int .u64 s1, .int .u64 s2, .int .u64 s3, .int .i64 x4, .int .i64 x5, .int .i64 x6, .int .i64 x7, .bool x8] 43))
      have HB1 := Lib.hid (HB.out.alloc HB.out.size (.cells #[.int .i64 xk, .int .i64 xa, .int .i64 xb, .int .u64 s0, .int .u64 s1, .int .u64 s2, .int .u64 s3, .int .i64 x4, .int .i64 x5, .int .i64 x6, .int .i64 x7, .bool x8] 43))
      have LQ := Lib.hid (lt_of_blk PO.out)
      clear HB PO RO
      go_wp2_with fail
      refine (KK.out _).mono ?_
      rintro e w3 ⟨rfl, hb⟩
      have BN2 := Lib.hid (below_blk hb BN.out)
      have BO2 := Lib.hid (below_blk hb BO.out)
      have BT2 := Lib.hid (below_blk hb BT.out)
      have HB2 := Lib.hid (below_step HB1.out hb)
      clear hb BN BO BT HB1 a0 a1 a2 a3 a4 a5 a6 a7 a8 a9 a10 a11
      generalize wr.heap.size = QN at *
      have lq := LQ.out
      have hq1 : QN ≠ w.heap.size + 1 + 1 + 1 := by omega
      have hq2 : QN ≠ w.heap.size + 1 + 1 := by omega
      have hq3 : w.heap.size ≤ QN := by omega
      clear LQ lq
      rcases kd_cases xk with hk | hk | hk
      · have hs : shift n ⟨xk, xa, xb, ⟨⟨s0, s1, s2, s3⟩⟩, x4, x5, x6, x7, x8⟩ = ⟨xk, xa, xb, ⟨⟨s0, s1, s2, s3⟩⟩, x4, x5, x6, x7, x8⟩ := by unfold shift; simp only [hk]; rfl
        have HSET := Lib.hid (HG.out _ hs)
        clear hs HG
        have n0 := blk_cell BN2.out 0 (.int .i64 xk) rfl
        rw [hk]
        go_wp2_with fail
        refine (KK.out _).mono ?_
        rintro e w4 ⟨rfl, hb⟩
        rw [hk]
        have BN3 := Lib.hid (below_blk hb BN2.out)
        have BO3 := Lib.hid (below_blk hb BO2.out)
        have BT3 := Lib.hid (below_blk hb BT2.out)
        have HB3 := Lib.hid (below_step HB2.out hb)
        clear hb n0 BN2 BO2 BT2 HB2
        have n0 := blk_cell BN3.out 0 (.int .i64 xk) rfl
        have n1 := blk_cell BN3.out 1 (.int .i64 xa) rfl
        have n2 := blk_cell BN3.out 2 (.int .i64 xb) rfl
        have n3 := blk_cell BN3.out 3 (.int .u64 s0) rfl
        have n4 := blk_cell BN3.out 4 (.int .u64 s1) rfl
        have n5 := blk_cell BN3.out 5 (.int .u64 s2) rfl
        have n6 := blk_cell BN3.out 6 (.int .u64 s3) rfl
        have n7 := blk_cell BN3.out 7 (.int .i64 x4) rfl
        have n8 := blk_cell BN3.out 8 (.int .i64 x5) rfl
        have n9 := blk_cell BN3.out 9 (.int .i64 x6) rfl
        have n10 := blk_cell BN3.out 10 (.int .i64 x7) rfl
        have n11 := blk_cell BN3.out 11 (.bool x8) rfl
        go_wp2_with ((with_reducible show wpList _ _ _ (⟨none, .store _ (.tmp 61) _, _, _, _, _⟩ :: _) _ _); refine hold ?_)
        refine Lib.hid ?_
        refine wpList_store_node rfl (.tmp 61) (.tmp 60) rfl (w.heap.size + 1 + 1 + 1) (n + i) ⟨xk, xa, xb, ⟨⟨s0, s1, s2, s3⟩⟩, x4, x5, x6, x7, x8⟩ ?_ rfl XS (by omega) BO3.out w.heap.size w HB3.out (by omega) ?_
        · first | rfl | (simp [Act.eval]; done) | (simp [Act.eval]; omega)
        intro w5 hO hK hsz hb
        rw [HSET.out] at hO
        have PO := Lib.hid hO
        have RO := Lib.hid ((hK _ (by omega)).trans BT3.out)
        have HB := Lib.hid hb
        clear hO hK hsz hb HSET BN3 BO3 BT3 HB3 n0 n1 n2 n3 n4 n5 n6 n7 n8 n9 n10 n11
        go_wp2
        go_roundw
        case rel => exact ⟨i + 1, by omega, by simp, PO, RO, HB⟩
        case measure => simp [intOf]; omega
      · have hs : shift n ⟨xk, xa, xb, ⟨⟨s0, s1, s2, s3⟩⟩, x4, x5, x6, x7, x8⟩ = ⟨xk, (wrap64 (xa + (n : Int))), xb, ⟨⟨s0, s1, s2, s3⟩⟩, x4, x5, x6, x7, x8⟩ := by unfold shift; simp only [hk]; rfl
        have HSET := Lib.hid (HG.out _ hs)
        clear hs HG
        have n0 := blk_cell BN2.out 0 (.int .i64 xk) rfl
        have n1 := blk_cell BN2.out 1 (.int .i64 xa) rfl
        have g1 := blk_free BN2.out 1
        rw [hk]
        go_wp2_with fail
        refine (KK.out _).mono ?_
        rintro e w4 ⟨rfl, hb⟩
        rw [hk]
        have BN3 : Hid (w4.heap[QN]? = some (.cells #[.int .i64 xk, .int .i64 (wrap64 (xa + (n : Int))), .int .i64 xb, .int .u64 s0, .int .u64 s1, .int .u64 s2, .int .u64 s3, .int .i64 x4, .int .i64 x5, .int .i64 x6, .int .i64 x7, .bool x8] 43 (0, 0))) := Lib.hid (below_blk hb (set_blk (i := 1) BN2.out (.int .i64 (wrap64 (xa + (n : Int))))))
        have BO3 := Lib.hid (below_blk hb (set_other (c := QN) (i := 1) (v := .int .i64 (wrap64 (xa + (n : Int)))) BO2.out (fun e => hq1 e.symm)))
        have BT3 := Lib.hid (below_blk hb (set_other (c := QN) (i := 1) (v := .int .i64 (wrap64 (xa + (n : Int)))) BT2.out (fun e => hq2 e.symm)))
        have HB3 := Lib.hid (below_step (below_set (b := QN) (i := 1) HB2.out hq3 (.int .i64 (wrap64 (xa + (n : Int))))) hb)
        clear hb n0 n1 g1 BN2 BO2 BT2 HB2
        have n0 := blk_cell BN3.out 0 (.int .i64 xk) rfl
        have n1 := blk_cell BN3.out 1 (.int .i64 (wrap64 (xa + (n : Int)))) rfl
        have n2 := blk_cell BN3.out 2 (.int .i64 xb) rfl
        have n3 := blk_cell BN3.out 3 (.int .u64 s0) rfl
        have n4 := blk_cell BN3.out 4 (.int .u64 s1) rfl
        have n5 := blk_cell BN3.out 5 (.int .u64 s2) rfl
        have n6 := blk_cell BN3.out 6 (.int .u64 s3) rfl
        have n7 := blk_cell BN3.out 7 (.int .i64 x4) rfl
        have n8 := blk_cell BN3.out 8 (.int .i64 x5) rfl
        have n9 := blk_cell BN3.out 9 (.int .i64 x6) rfl
        have n10 := blk_cell BN3.out 10 (.int .i64 x7) rfl
        have n11 := blk_cell BN3.out 11 (.bool x8) rfl
        go_wp2_with ((with_reducible show wpList _ _ _ (⟨none, .store _ (.tmp 61) _, _, _, _, _⟩ :: _) _ _); refine hold ?_)
        refine Lib.hid ?_
        refine wpList_store_node rfl (.tmp 61) (.tmp 60) rfl (w.heap.size + 1 + 1 + 1) (n + i) ⟨xk, (wrap64 (xa + (n : Int))), xb, ⟨⟨s0, s1, s2, s3⟩⟩, x4, x5, x6, x7, x8⟩ ?_ rfl XS (by omega) BO3.out w.heap.size w HB3.out (by omega) ?_
        · first | rfl | (simp [Act.eval]; done) | (simp [Act.eval]; omega)
        intro w5 hO hK hsz hb
        rw [HSET.out] at hO
        have PO := Lib.hid hO
        have RO := Lib.hid ((hK _ (by omega)).trans BT3.out)
        have HB := Lib.hid hb
        clear hO hK hsz hb HSET BN3 BO3 BT3 HB3 n0 n1 n2 n3 n4 n5 n6 n7 n8 n9 n10 n11
        go_wp2
        go_roundw
        case rel => exact ⟨i + 1, by omega, by simp, PO, RO, HB⟩
        case measure => simp [intOf]; omega
      · have hs : shift n ⟨xk, xa, xb, ⟨⟨s0, s1, s2, s3⟩⟩, x4, x5, x6, x7, x8⟩ = ⟨xk, (wrap64 (xa + (n : Int))), (wrap64 (xb + (n : Int))), ⟨⟨s0, s1, s2, s3⟩⟩, x4, x5, x6, x7, x8⟩ := by unfold shift; simp only [hk]; rfl
        have HSET := Lib.hid (HG.out _ hs)
        clear hs HG
        have n0 := blk_cell BN2.out 0 (.int .i64 xk) rfl
        have n1 := blk_cell BN2.out 1 (.int .i64 xa) rfl
        have g1 := blk_free BN2.out 1
        rw [hk]
        go_wp2_with fail
        refine (KK.out _).mono ?_
        rintro e w4 ⟨rfl, hb⟩
        rw [hk]
        have BN3 : Hid (w4.heap[QN]? = some (.cells #[.int .i64 xk, .int .i64 (wrap64 (xa + (n : Int))), .int .i64 xb, .int .u64 s0, .int .u64 s1, .int .u64 s2, .int .u64 s3, .int .i64 x4, .int .i64 x5, .int .i64 x6, .int .i64 x7, .bool x8] 43 (0, 0))) := Lib.hid (below_blk hb (set_blk (i := 1) BN2.out (.int .i64 (wrap64 (xa + (n : Int))))))
        have BO3 := Lib.hid (below_blk hb (set_other (c := QN) (i := 1) (v := .int .i64 (wrap64 (xa + (n : Int)))) BO2.out (fun e => hq1 e.symm)))
        have BT3 := Lib.hid (below_blk hb (set_other (c := QN) (i := 1) (v := .int .i64 (wrap64 (xa + (n : Int)))) BT2.out (fun e => hq2 e.symm)))
        have HB3 := Lib.hid (below_step (below_set (b := QN) (i := 1) HB2.out hq3 (.int .i64 (wrap64 (xa + (n : Int))))) hb)
        clear hb n0 n1 g1 BN2 BO2 BT2 HB2
        have n0 := blk_cell BN3.out 0 (.int .i64 xk) rfl
        have n1 := blk_cell BN3.out 1 (.int .i64 (wrap64 (xa + (n : Int)))) rfl
        have n2 := blk_cell BN3.out 2 (.int .i64 xb) rfl
        have n3 := blk_cell BN3.out 3 (.int .u64 s0) rfl
        have n4 := blk_cell BN3.out 4 (.int .u64 s1) rfl
        have n5 := blk_cell BN3.out 5 (.int .u64 s2) rfl
        have n6 := blk_cell BN3.out 6 (.int .u64 s3) rfl
        have n7 := blk_cell BN3.out 7 (.int .i64 x4) rfl
        have n8 := blk_cell BN3.out 8 (.int .i64 x5) rfl
        have n9 := blk_cell BN3.out 9 (.int .i64 x6) rfl
        have n10 := blk_cell BN3.out 10 (.int .i64 x7) rfl
        have n11 := blk_cell BN3.out 11 (.bool x8) rfl
        have g2 := blk_free BN3.out 2
        go_wp2_with ((with_reducible show wpList _ _ _ (⟨none, .store _ (.tmp 61) _, _, _, _, _⟩ :: _) _ _); refine hold ?_)
        refine Lib.hid ?_
        refine wpList_store_node rfl (.tmp 61) (.tmp 60) rfl (w.heap.size + 1 + 1 + 1) (n + i) ⟨xk, (wrap64 (xa + (n : Int))), (wrap64 (xb + (n : Int))), ⟨⟨s0, s1, s2, s3⟩⟩, x4, x5, x6, x7, x8⟩ ?_ rfl XS (by omega) (set_other (c := QN) (i := 2) (v := .int .i64 (wrap64 (xb + (n : Int)))) BO3.out (fun e => hq1 e.symm)) w.heap.size w (below_set (b := QN) (i := 2) HB3.out hq3 (.int .i64 (wrap64 (xb + (n : Int))))) (by omega) ?_
        · first | rfl | (simp [Act.eval]; done) | (simp [Act.eval]; omega)
        intro w5 hO hK hsz hb
        rw [HSET.out] at hO
        have PO := Lib.hid hO
        have RO := Lib.hid ((hK _ (by omega)).trans (set_other (c := QN) (i := 2) (v := .int .i64 (wrap64 (xb + (n : Int)))) BT3.out (fun e => hq2 e.symm)))
        have HB := Lib.hid hb
        clear hO hK hsz hb HSET BN3 BO3 BT3 HB3 n0 n1 n2 n3 n4 n5 n6 n7 n8 n9 n10 n11 g2
        go_wp2
        go_roundw
        case rel => exact ⟨i + 1, by omega, by simp, PO, RO, HB⟩
        case measure => simp [intOf]; omega
    · obtain rfl : i = m := by omega
      have hi2 : ¬ ((i : Int) < (i : Int)) := by omega
      rw [List.take_of_length_le (by simp [hm]), show i + 1 - i = 1 by omega] at PO
      go_wp2_with ((with_reducible show wpList _ _ _ (⟨some 72, _, _, _, _, _⟩ :: _) _ _); refine hold ?_)
      refine Lib.hid ?_
      have BY4 := PO.out
      rw [show List.replicate 1 z43 = [z43] from rfl] at BY4
      have BR5 := RO
      have HB4 := HB.out
      have HO := own_ra (base := w.heap.size) (n := n + i) (cap := n + i + 1) (show w.heap.size ≤ w.heap.size + 1 + 1 + 1 by omega) (by simp [hn, hm]) (by simp [hn, hm]; omega) (by omega) BY4
      have hbs : w.heap.size ≤ wr.heap.size := HB4.size
      have hlt := lt_of_blk RO.out
      clear BY4 PO RO HB HC2
      refine print_append_cells w.heap.size rfl (.tmp 63) (.tmp 71) 22 43 _ 12 96 rfl Try.underlying22 info43 rfl (by decide) (by decide) (.slice (some ⟨w.heap.size + 1 + 1 + 1, 0, none⟩) (n + i) (n + i + 1)) (n + i) (ra (L ++ M.map (shift n))) (nc ⟨kind, (n : Int) - 1, (n : Int) + (i : Int) - 1, z41, 0, 0, 0, 0, false⟩).toList rfl ?_ rfl (fun u hu => ?_) HO HB4 hbs (by omega) ?_
      · first | rfl | (simp [Act.eval]; done)
      · exact ra_one [⟨kind, (n : Int) - 1, (n : Int) + (i : Int) - 1, z41, 0, 0, 0, 0, false⟩] u (by simpa [ra] using hu)
      intro v3 w3 hown hb hg hat
      have BR6 := Lib.hid ((hg.block (w.heap.size + 1 + 1) hlt (by simp [Value.ownBlock])).trans BR5.out)
      have HB6 := Lib.hid hb
      rw [show ra (L ++ M.map (shift n)) ++ (nc ⟨kind, (n : Int) - 1, (n : Int) + (i : Int) - 1, z41, 0, 0, 0, 0, false⟩).toList = ra (L ++ M.map (shift n) ++ [⟨kind, (n : Int) - 1, (n : Int) + (i : Int) - 1, z41, 0, 0, 0, 0, false⟩]) by rw [ra_append (L ++ M.map (shift n))]; simp [ra]] at hown
      obtain ⟨A3, c3, rfl, _, _⟩ := own_C (by simp [hn, hm]; omega) (by omega) hown
      have hne : ∀ j, (Value.slice A3 (n + i + 1) c3).ownBlock = some j → j ≠ w.heap.size + 1 + 1 := by
        rintro j hj rfl
        rcases hat with h | ⟨b, h, hle⟩
        · rw [h] at hj; simp [Value.ownBlock] at hj
        · rw [h] at hj
          have : b = w.heap.size + 1 + 1 := Option.some.inj hj
          omega
      have HO6 := Lib.hid (own_move (w1 := w3.setCell ⟨w.heap.size + 1 + 1, 0, none⟩ (.slice A3 (n + i + 1) c3)) hown (fun j hj => Below.heap_setCell w3 ⟨w.heap.size + 1 + 1, 0, none⟩ _ j (hne j hj)))
      have BR7 := Lib.hid (set_blk (i := 0) BR6.out (.slice A3 (n + i + 1) c3))
      have HB7 := Lib.hid (below_set (b := w.heap.size + 1 + 1) (i := 0) HB6.out (by omega) (.slice A3 (n + i + 1) c3))
      have r0 := blk_cell BR6.out 0 (.slice none 0 0) rfl
      have f0 := blk_free BR6.out 0
      clear hown hb hg hat HO HB4 hbs hlt BR5 hne BR6 HB6
      go_wp2
      refine bodyPost_ret (results_cell_row rfl _ _ (w.heap.size + 1 + 1) 24 #[.slice A3 (n + i + 1) c3] (0, 0) _ rfl BR7.out Try.underlying24 rfl (by kernel_rfl)) rfl ?_
      exact ⟨⟨_, rfl, HO6.out⟩, HB7.out⟩
end Go.Proofs.Ytjeoiebdchlilaa.DJoin
end
section
/- clewref05.Join: its walk. -/
namespace Go.Proofs.Ytjeoiebdchlilaa.DRJoin
open Go.RowKit CMem DRow DDeep DSizes DRowN DWrap DJoin Q Go.Proofs.YtjeoiebdchlilaaW.PrintWords Go.Proofs.YtjeoiebdchlilaaW.PrintLast Go.Proofs.YtjeoiebdchlilaaW.PrintMore
set_option linter.unusedVariables false
set_option linter.unusedSimpArgs false
set_option maxRecDepth 100000
theorem rkids_f (k : Int) : clewref05_Kids.f 2 k = some (kd k) := by
  unfold kd
  simp only [clewref05_Kids.f, clewref05_Kids.j0]
  by_cases h8 : k = 8
  · simp [h8]
  by_cases h9 : k = 9
  · simp [h9]
  rw [if_neg h8, if_neg (show ¬ (k = 8 ∨ k = 9) by omega)]
  have e9 : (k == 9) = false := by simp [h9]
  rw [e9]
  by_cases h : k = 10 ∨ k = 11 ∨ k = 13 ∨ k = 14 ∨ k = 15 ∨ k = 16 ∨ k = 17
  · rw [if_pos h]
    rcases h with h | h | h | h | h | h | h <;> subst h <;> rfl
  · rw [if_neg h]
    have h10 : k ≠ 10 := by omega
    have h11 : k ≠ 11 := by omega
    simp [h10, h11]
    omega
theorem rkids_calls (k : Int) (w : World) : Calls Try.prog 42 #[.int .i64 k] w fun e w' => e = .returned (.int .i64 (kd k)) ∧ Below w.heap.size w w' :=
  (clewref05_Kids.calls 2 k (kd k) w (rkids_f k)).mono fun e w' h => ⟨h.1, h.2.below⟩
/-- a node, its children so many nodes further on -/
def rshift (n : Int) (x : S50) : S50 := { x with f1 := if kd x.f0 > 0 then wrap64 (x.f1 + n) else x.f1, f2 := if kd x.f0 > 1 then wrap64 (x.f2 + n) else x.f2 }
set_option maxHeartbeats 12800000 in
theorem rjoin_calls (A : Option Addr) (c : Nat) (L : List S50) (n : Nat) (hn : L.length = n) (A2 : Option Addr) (c2 : Nat) (M : List S50) (m : Nat) (hm : M.length = m) (hnm : n + m ≤ 999) (kind : Int) (w : World) (hr : Kd.C k50 w A n L) (hr2 : Kd.C k50 w A2 m M) :
    Calls Try.prog 27 #[.slice A n c, .slice A2 m c2, .int .i64 kind] w fun e w' =>
      (∃ v, e = .returned v ∧ Kd.R k50 50 w' w.heap.size (fun _ => True) v (L ++ M.map (rshift n) ++ [⟨kind, (n : Int) - 1, (n : Int) + m - 1, z39, 0, 0, 0, 0, false⟩])) ∧ Below w.heap.size w w' := by
  have HB := Lib.hid (Below.refl w.heap.size w)
  have HR := Lib.hid hr
  have HC2 := Lib.hid (fun W h => Kd.C_below (w1 := W) hr2 h)
  clear hr hr2
  go_enter Try.func27, Try.ntmps27
  go_wp2_with ((with_reducible show wpList _ _ _ (⟨some 10, _, _, _, _, _⟩ :: _) _ _); refine hold ?_)
  refine Lib.hid ?_
  refine Kd.R_lit k50 w.heap.size 50 rfl (N := 10) rfl (xs := ([] : List S50)) (inner := []) (ok := fun _ => True) (okp := fun _ => True) (by first | (go_simp; done) | (go_simp; rfl)) (Reps.none _ _) (fun _ hk => hk) trivial HB.out (Nat.le_refl _) (by simp) ?_
  intro v1 w1 ho hb hg_ hnew_
  have HO1 := Lib.hid ho
  have HB1 := Lib.hid hb
  have HR1 := Lib.hid (Kd.C_below HR.out hb)
  clear hg_ hnew_ ho hb HB HR
  go_wp2_with ((with_reducible show wpList _ _ _ (⟨some 12, _, _, _, _, _⟩ :: _) _ _); refine hold ?_)
  refine Lib.hid ?_
  refine Kd.R_append_rows k50 (w0 := w) w.heap.size rfl (.tmp 10) (.tmp 11) 26 50 _ 96 rfl Try.underlying26 info50 rfl (by decide) (by decide) v1 [] L A n c (fun _ => True) (fun _ => False) rfl rfl HO1.out HR1.out (fun x cs hk => ?_) (fun _ h => h.elim) (fun _ _ => trivial) HB1.out HB1.out.size (by simp; omega) ?_
  · exact k50_open hk ▸ k50_mkM _ _ _ x
  intro v2 w2 ho hb hg hat
  rw [List.nil_append] at ho
  have HO2 := Lib.hid ho
  have HB2 := Lib.hid hb
  clear ho hb hg hat HO1 HB1 HR1
  go_wp2
  go_loopw [7, 8] (fun v t wr => ∃ i : Nat, i ≤ m ∧ t = .int .i64 (i : Nat) ∧ Hid (Kd.R k50 50 wr w.heap.size (fun _ => True) v (L ++ (M.map (rshift n)).take i)) ∧ Hid (Below w.heap.size w wr)) (fun _ t _ => m - (intOf t).toNat)
  case atStart => exact ⟨0, Nat.zero_le _, rfl, Lib.hid (by rw [List.take_zero, List.append_nil]; exact HO2.out), HB2⟩
  case round =>
    clear HO2 HB2
    obtain ⟨i, hi, rfl, HO, HB⟩ := hrel
    by_cases h : i < m
    · obtain ⟨ad, hA, a0, a1, a2, a3, a4, a5, a6, a7, a8, a9, a10, a11⟩ := at_T50 (HC2.out _ HB.out) (i : Int) (by omega) (by omega)
      subst hA
      rw [Int.toNat_natCast] at a0 a1 a2 a3 a4 a5 a6 a7 a8 a9 a10 a11
      have hi2 : (i : Int) < (m : Int) := by omega
      have hx : M[i]? = some (rd_T50 M i) := by
        unfold rd_T50
        rw [Int.toNat_natCast, List.getD_eq_getElem?_getD, List.getElem?_eq_getElem (by omega)]
        rfl
      have HG : Hid (∀ y, rshift n (rd_T50 M i) = y → (L ++ (M.map (rshift n)).take i) ++ [y] = L ++ (M.map (rshift n)).take (i + 1)) := Lib.hid (by
        intro y hy
        have h1 : (M.map (rshift n)).take (i + 1) = (M.map (rshift n)).take i ++ [y] := by
          rw [List.take_add_one, List.getElem?_map, hx, ← hy]; rfl
        rw [h1, List.append_assoc])
      have hrl : (L ++ (M.map (rshift n)).take i).length = n + i := by simp [hn, hm]; omega
      clear hx
      generalize L ++ (M.map (rshift n)).take i = XS at *
      generalize rd_T50 M i = x at *
      obtain ⟨xk, xa, xb, ⟨s0, s1, s2, s3⟩, x4, x5, x6, x7, x8⟩ := x
      simp only [] at a0 a1 a2 a3 a4 a5 a6 a7 a8 a9 a10 a11
      have KK := Lib.hid (rkids_calls xk)
      have BN := Lib.hid (heap_alloc_new wr (.cells #[.int .i64 xk, .int .i64 xa, .int .i64 xb, .int .u64 s0, .int .u64 s1, .int .u64 s2, .int .u64 s3, .int .i64 x4, .int .i64 x5, .int .i64 x6, .int .i64 x7, .bool x8] 50))
      have BO := Lib.hid (Kd.R_below (Kd.R_elderB HO.out wr.heap.size (Nat.le_refl _)) (below1 wr (.cells #[.int .i64 xk, .int .i64 xa, .int .i64 xb, .int .u64 s0, .int .u64 s1, .int .u64 s2, .int .u64 s3, .int .i64 x4, .int .i64 x5, .int .i64 x6, .int .i64 x7, .bool x8] 50)))
      have HB1 := Lib.hid (HB.out.alloc HB.out.size (.cells #[.int .i64 xk, .int .i64 xa, .int .i64 xb, .int .u64 s0, .int .u64 s1, .int .u64 s2, .int .u64 s3, .int .i64 x4, .int .i64 x5, .int .i64 x6, .int .i64 x7, .bool x8] 50))
      have LQ := Lib.hid HB.out.size
      clear HB HO
      go_wp2_with fail
      refine (KK.out _).mono ?_
      rintro e w3 ⟨rfl, hb⟩
      have BN2 := Lib.hid (below_blk hb BN.out)
      have BO2 := Lib.hid (Kd.R_below BO.out hb)
      have HB2 := Lib.hid (below_step HB1.out hb)
      clear hb BN BO HB1 a0 a1 a2 a3 a4 a5 a6 a7 a8 a9 a10 a11
      generalize wr.heap.size = QN at *
      have hq3 := LQ.out
      clear LQ
      rcases kd_cases xk with hk | hk | hk
      · have hs : rshift n ⟨xk, xa, xb, ⟨s0, s1, s2, s3⟩, x4, x5, x6, x7, x8⟩ = ⟨xk, xa, xb, ⟨s0, s1, s2, s3⟩, x4, x5, x6, x7, x8⟩ := by unfold rshift; simp only [hk]; rfl
        have HSET := Lib.hid (HG.out _ hs)
        clear hs HG
        have n0 := blk_cell BN2.out 0 (.int .i64 xk) rfl
        rw [hk]
        go_wp2_with fail
        refine (KK.out _).mono ?_
        rintro e w4 ⟨rfl, hb⟩
        rw [hk]
        have BN3 := Lib.hid (below_blk hb BN2.out)
        have BO3 := Lib.hid (Kd.R_below BO2.out hb)
        have HB3 := Lib.hid (below_step HB2.out hb)
        clear hb n0 BN2 BO2 HB2
        have n0 := blk_cell BN3.out 0 (.int .i64 xk) rfl
        have n1 := blk_cell BN3.out 1 (.int .i64 xa) rfl
        have n2 := blk_cell BN3.out 2 (.int .i64 xb) rfl
        have n3 := blk_cell BN3.out 3 (.int .u64 s0) rfl
        have n4 := blk_cell BN3.out 4 (.int .u64 s1) rfl
        have n5 := blk_cell BN3.out 5 (.int .u64 s2) rfl
        have n6 := blk_cell BN3.out 6 (.int .u64 s3) rfl
        have n7 := blk_cell BN3.out 7 (.int .i64 x4) rfl
        have n8 := blk_cell BN3.out 8 (.int .i64 x5) rfl
        have n9 := blk_cell BN3.out 9 (.int .i64 x6) rfl
        have n10 := blk_cell BN3.out 10 (.int .i64 x7) rfl
        have n11 := blk_cell BN3.out 11 (.bool x8) rfl
        go_wp2_with ((with_reducible show wpList _ _ _ (⟨some 46, _, _, _, _, _⟩ :: _) _ _); refine hold ?_)
        refine Lib.hid ?_
        have hlt := lt_of_blk BN3.out
        refine Kd.R_append k50 (w0 := w) w.heap.size rfl (.tmp 43) (.tmp 45) 26 50 _ 96 rfl Try.underlying26 info50 rfl (by decide) (by decide) _ XS ⟨xk, xa, xb, ⟨s0, s1, s2, s3⟩, x4, x5, x6, x7, x8⟩ [.int .i64 xk, .int .i64 xa, .int .i64 xb, .int .u64 s0, .int .u64 s1, .int .u64 s2, .int .u64 s3, .int .i64 x4, .int .i64 x5, .int .i64 x6, .int .i64 x7, .bool x8] (fun k => True ∧ k ≠ QN) (fun _ => False) rfl (by first | (go_simp; done) | (go_simp; rfl)) (k50_mkM _ _ _ _) (fun _ hk => hk.elim) (fun k hk => ⟨trivial, by omega⟩) BO3.out HB3.out HB3.out.size (by omega) ?_
        intro v5 w5 ho hb hg hat
        rw [HSET.out] at ho
        have HO := Lib.hid (Kd.R_mono ho (fun _ _ => trivial))
        have HB := Lib.hid hb
        clear ho hb hg hat HSET BN3 BO3 HB3 hlt n0 n1 n2 n3 n4 n5 n6 n7 n8 n9 n10 n11
        go_wp2
        go_roundw
        case rel => exact ⟨i + 1, by omega, by simp, HO, HB⟩
        case measure => simp [intOf]; omega
      · have hs : rshift n ⟨xk, xa, xb, ⟨s0, s1, s2, s3⟩, x4, x5, x6, x7, x8⟩ = ⟨xk, (wrap64 (xa + (n : Int))), xb, ⟨s0, s1, s2, s3⟩, x4, x5, x6, x7, x8⟩ := by unfold rshift; simp only [hk]; rfl
        have HSET := Lib.hid (HG.out _ hs)
        clear hs HG
        have n0 := blk_cell BN2.out 0 (.int .i64 xk) rfl
        have n1 := blk_cell BN2.out 1 (.int .i64 xa) rfl
        have g1 := blk_free BN2.out 1
        rw [hk]
        go_wp2_with fail
        refine (KK.out _).mono ?_
        rintro e w4 ⟨rfl, hb⟩
        rw [hk]
        have BN3 : Hid (w4.heap[QN]? = some (.cells #[.int .i64 xk, .int .i64 (wrap64 (xa + (n : Int))), .int .i64 xb, .int .u64 s0, .int .u64 s1, .int .u64 s2, .int .u64 s3, .int .i64 x4, .int .i64 x5, .int .i64 x6, .int .i64 x7, .bool x8] 50 (0, 0))) := Lib.hid (below_blk hb (set_blk (i := 1) BN2.out (.int .i64 (wrap64 (xa + (n : Int))))))
        have BO3 := Lib.hid (Kd.R_below (Kd.R_far (p := ⟨QN, 1, none⟩) BO2.out (fun _ hk => hk.2) (.int .i64 (wrap64 (xa + (n : Int))))) hb)
        have HB3 := Lib.hid (below_step (CMem.below_set (b := QN) (i := 1) HB2.out hq3 (.int .i64 (wrap64 (xa + (n : Int))))) hb)
        clear hb n0 n1 g1 BN2 BO2 HB2
        have n0 := blk_cell BN3.out 0 (.int .i64 xk) rfl
        have n1 := blk_cell BN3.out 1 (.int .i64 (wrap64 (xa + (n : Int)))) rfl
        have n2 := blk_cell BN3.out 2 (.int .i64 xb) rfl
        have n3 := blk_cell BN3.out 3 (.int .u64 s0) rfl
        have n4 := blk_cell BN3.out 4 (.int .u64 s1) rfl
        have n5 := blk_cell BN3.out 5 (.int .u64 s2) rfl
        have n6 := blk_cell BN3.out 6 (.int .u64 s3) rfl
        have n7 := blk_cell BN3.out 7 (.int .i64 x4) rfl
        have n8 := blk_cell BN3.out 8 (.int .i64 x5) rfl
        have n9 := blk_cell BN3.out 9 (.int .i64 x6) rfl
        have n10 := blk_cell BN3.out 10 (.int .i64 x7) rfl
        have n11 := blk_cell BN3.out 11 (.bool x8) rfl
        go_wp2_with ((with_reducible show wpList _ _ _ (⟨some 46, _, _, _, _, _⟩ :: _) _ _); refine hold ?_)
        refine Lib.hid ?_
        have hlt := lt_of_blk BN3.out
        refine Kd.R_append k50 (w0 := w) w.heap.size rfl (.tmp 43) (.tmp 45) 26 50 _ 96 rfl Try.underlying26 info50 rfl (by decide) (by decide) _ XS ⟨xk, (wrap64 (xa + (n : Int))), xb, ⟨s0, s1, s2, s3⟩, x4, x5, x6, x7, x8⟩ [.int .i64 xk, .int .i64 (wrap64 (xa + (n : Int))), .int .i64 xb, .int .u64 s0, .int .u64 s1, .int .u64 s2, .int .u64 s3, .int .i64 x4, .int .i64 x5, .int .i64 x6, .int .i64 x7, .bool x8] (fun k => True ∧ k ≠ QN) (fun _ => False) rfl (by first | (go_simp; done) | (go_simp; rfl)) (k50_mkM _ _ _ _) (fun _ hk => hk.elim) (fun k hk => ⟨trivial, by omega⟩) BO3.out HB3.out HB3.out.size (by omega) ?_
        intro v5 w5 ho hb hg hat
        rw [HSET.out] at ho
        have HO := Lib.hid (Kd.R_mono ho (fun _ _ => trivial))
        have HB := Lib.hid hb
        clear ho hb hg hat HSET BN3 BO3 HB3 hlt n0 n1 n2 n3 n4 n5 n6 n7 n8 n9 n10 n11
        go_wp2
        go_roundw
        case rel => exact ⟨i + 1, by omega, by simp, HO, HB⟩
        case measure => simp [intOf]; omega
      · have hs : rshift n ⟨xk, xa, xb, ⟨s0, s1, s2, s3⟩, x4, x5, x6, x7, x8⟩ = ⟨xk, (wrap64 (xa + (n : Int))), (wrap64 (xb + (n : Int))), ⟨s0, s1, s2, s3⟩, x4, x5, x6, x7, x8⟩ := by unfold rshift; simp only [hk]; rfl
        have HSET := Lib.hid (HG.out _ hs)
        clear hs HG
        have n0 := blk_cell BN2.out 0 (.int .i64 xk) rfl
        have n1 := blk_cell BN2.out 1 (.int .i64 xa) rfl
        have g1 := blk_free BN2.out 1
        rw [hk]
        go_wp2_with fail
        refine (KK.out _).mono ?_
        rintro e w4 ⟨rfl, hb⟩
        rw [hk]
        have BN3 : Hid (w4.heap[QN]? = some (.cells #[.int .i64 xk, .int .i64 (wrap64 (xa + (n : Int))), .int .i64 xb, .int .u64 s0, .int .u64 s1, .int .u64 s2, .int .u64 s3, .int .i64 x4, .int .i64 x5, .int .i64 x6, .int .i64 x7, .bool x8] 50 (0, 0))) := Lib.hid (below_blk hb (set_blk (i := 1) BN2.out (.int .i64 (wrap64 (xa + (n : Int))))))
        have BO3 := Lib.hid (Kd.R_below (Kd.R_far (p := ⟨QN, 1, none⟩) BO2.out (fun _ hk => hk.2) (.int .i64 (wrap64 (xa + (n : Int))))) hb)
        have HB3 := Lib.hid (below_step (CMem.below_set (b := QN) (i := 1) HB2.out hq3 (.int .i64 (wrap64 (xa + (n : Int))))) hb)
        clear hb n0 n1 g1 BN2 BO2 HB2
        have n0 := blk_cell BN3.out 0 (.int .i64 xk) rfl
        have n1 := blk_cell BN3.out 1 (.int .i64 (wrap64 (xa + (n : Int)))) rfl
        have n2 := blk_cell BN3.out 2 (.int .i64 xb) rfl
        have n3 := blk_cell BN3.out 3 (.int .u64 s0) rfl
        have n4 := blk_cell BN3.out 4 (.int .u64 s1) rfl
        have n5 := blk_cell BN3.out 5 (.int .u64 s2) rfl
        have n6 := blk_cell BN3.out 6 (.int .u64 s3) rfl
        have n7 := blk_cell BN3.out 7 (.int .i64 x4) rfl
        have n8 := blk_cell BN3.out 8 (.int .i64 x5) rfl
        have n9 := blk_cell BN3.out 9 (.int .i64 x6) rfl
        have n10 := blk_cell BN3.out 10 (.int .i64 x7) rfl
        have n11 := blk_cell BN3.out 11 (.bool x8) rfl
        have g2 := blk_free BN3.out 2
        go_wp2_with ((with_reducible show wpList _ _ _ (⟨some 46, _, _, _, _, _⟩ :: _) _ _); refine hold ?_)
        refine Lib.hid ?_
        have hlt := (lt_of_blk (set_blk (i := 2) BN3.out (.int .i64 (wrap64 (xb + (n : Int))))))
        refine Kd.R_append k50 (w0 := w) w.heap.size rfl (.tmp 43) (.tmp 45) 26 50 _ 96 rfl Try.underlying26 info50 rfl (by decide) (by decide) _ XS ⟨xk, (wrap64 (xa + (n : Int))), (wrap64 (xb + (n : Int))), ⟨s0, s1, s2, s3⟩, x4, x5, x6, x7, x8⟩ [.int .i64 xk, .int .i64 (wrap64 (xa + (n : Int))), .int .i64 (wrap64 (xb + (n : Int))), .int .u64 s0, .int .u64 s1, .int .u64 s2, .int .u64 s3, .int .i64 x4, .int .i64 x5, .int .i64 x6, .int .i64 x7, .bool x8] (fun k => True ∧ k ≠ QN) (fun _ => False) rfl (by first | (go_simp; done) | (go_simp; rfl)) (k50_mkM _ _ _ _) (fun _ hk => hk.elim) (fun k hk => ⟨trivial, by omega⟩) (Kd.R_far (p := ⟨QN, 2, none⟩) BO3.out (fun _ hk => hk.2) (.int .i64 (wrap64 (xb + (n : Int))))) (CMem.below_set (b := QN) (i := 2) HB3.out hq3 (.int .i64 (wrap64 (xb + (n : Int))))) (CMem.below_set (b := QN) (i := 2) HB3.out hq3 (.int .i64 (wrap64 (xb + (n : Int))))).size (by omega) ?_
        intro v5 w5 ho hb hg hat
        rw [HSET.out] at ho
        have HO := Lib.hid (Kd.R_mono ho (fun _ _ => trivial))
        have HB := Lib.hid hb
        clear ho hb hg hat HSET BN3 BO3 HB3 hlt n0 n1 n2 n3 n4 n5 n6 n7 n8 n9 n10 n11 g2
        go_wp2
        go_roundw
        case rel => exact ⟨i + 1, by omega, by simp, HO, HB⟩
        case measure => simp [intOf]; omega
    · obtain rfl : i = m := by omega
      have hi2 : ¬ ((i : Int) < (i : Int)) := by omega
      have ho := HO.out
      rw [List.take_of_length_le (by simp [hm])] at ho
      have HO := Lib.hid ho
      clear ho
      go_wp2_with ((with_reducible show wpList _ _ _ (⟨some 60, _, _, _, _, _⟩ :: _) _ _); refine hold ?_)
      refine Lib.hid ?_
      refine Kd.R_append k50 (w0 := w) w.heap.size rfl (.tmp 47) (.tmp 59) 26 50 _ 96 rfl Try.underlying26 info50 rfl (by decide) (by decide) _ (L ++ M.map (rshift n)) ⟨kind, (n : Int) - 1, (n : Int) + (i : Int) - 1, z39, 0, 0, 0, 0, false⟩ _ (fun _ => True) (fun _ => False) rfl (by first | (go_simp; done) | (go_simp; rfl)) (k50_mkM _ _ _ _) (fun _ hk => hk.elim) (fun _ _ => trivial) HO.out HB.out HB.out.size (by simp [hn, hm]; omega) ?_
      intro v5 w5 ho hb hg hat
      have HO5 := Lib.hid ho
      have HB5 := Lib.hid hb
      clear ho hb hg hat HO HB HC2
      go_wp2
      go_ret
      exact ⟨⟨_, rfl, HO5.out⟩, HB5.out⟩
end Go.Proofs.Ytjeoiebdchlilaa.DRJoin
end
section
/- The document's functions, printed, say what trees in order say; plain. -/
namespace Go.Proofs.Ytjeoiebdchlilaa.DRef
open Go.RowKit CMem DRow DDeep DSizes DFits DLens DSpec DGrp DCon DOdd DWrap DGrouped DRight DRJoin DRFits Q Go.Proofs.YtjeoiebdchlilaaW.PrintWords
set_option linter.unusedVariables false
set_option linter.unusedSimpArgs false
/-- a node, for the document -/
def od (x : S43) : S50 := ⟨x.f0, x.f1, x.f2, x.f3.f0, x.f4, x.f5, x.f6, x.f7, x.f8⟩
theorem rd_one (L : List S43) (i : Nat) (h : i < L.length) : rd_T50 (L.map od) i = od (rd_T43 L i) := by
  unfold rd_T50 rd_T43
  rw [Int.toNat_natCast, List.getD_eq_getElem?_getD, List.getD_eq_getElem?_getD, List.getElem?_map, List.getElem?_eq_getElem h]
  rfl
theorem rkids (k : Nat) (a : Int) : clewref05_Kids.f (k + 1) a = some (kd a) := by
  have h := rkids_f a
  simp only [clewref05_Kids.f, clewref05_Kids.j0] at h ⊢
  exact h
/-- .. of any number -/
def szi (L : List S43) (i : Int) : Int := if i < 0 then 0 else sz L i.toNat
theorem szf_szi (L : List S43) (f : Nat) (i : Int) (h : i < (f : Int)) : szf L f i = szi L i := by
  unfold szi
  by_cases h0 : i < 0
  · rw [if_pos h0, (szf_rng L f i).2.2 h0]
  · rw [if_neg h0]
    obtain ⟨m, rfl⟩ := Int.eq_ofNat_of_zero_le (show 0 ≤ i by omega)
    rw [Int.toNat_natCast]
    exact szf_eq L f m (by omega)
theorem szi_rng (L : List S43) (i : Int) : 0 ≤ szi L i ∧ (0 ≤ i → szi L i ≤ i + 1) := by
  unfold szi
  by_cases h0 : i < 0
  · rw [if_pos h0]; omega
  · rw [if_neg h0]
    have := sz_rng L i.toNat
    omega
theorem sz_step (L : List S43) (i : Nat) : sz L i = if fit (rd_T43 L i) = false then 0
    else if kd (rd_T43 L i).f0 = 0 then (if (rd_T43 L i).f1 = 0 ∧ (rd_T43 L i).f2 = 0 then 1 else 0)
    else if szi L ((i : Int) - 1) = 0 then 0
    else if kd (rd_T43 L i).f0 = 1 then (if (rd_T43 L i).f1 = (i : Int) - 1 ∧ (rd_T43 L i).f2 = 0 then szi L ((i : Int) - 1) + 1 else 0)
    else if szi L ((i : Int) - 1 - szi L ((i : Int) - 1)) = 0 then 0
    else if (rd_T43 L i).f1 = (i : Int) - 1 - szi L ((i : Int) - 1) ∧ (rd_T43 L i).f2 = (i : Int) - 1 then szi L ((i : Int) - 1 - szi L ((i : Int) - 1)) + szi L ((i : Int) - 1) + 1 else 0 := by
  have hs : sz L i = szf L (i + 1) i := rfl
  unfold szf at hs
  have h1 := szi_rng L ((i : Int) - 1)
  rw [if_neg (show ¬ (i : Int) < 0 by omega), szf_szi L i ((i : Int) - 1) (by omega), szf_szi L i ((i : Int) - 1 - szi L ((i : Int) - 1)) (by omega)] at hs
  exact hs
theorem size_neg (l : List S50) (k : Nat) (i : Int) (h : i < 0) : clewref05_Size.f (k + 2) l i = some 0 := by
  simp only [clewref05_Size.f, if_pos h, clewref05_Size.j0, if_true]
set_option maxHeartbeats 1600000 in
theorem size_f (L : List S43) (hn2 : L.length ≤ 1000) : ∀ (i : Nat), i < L.length → ∀ k, 2 * i ≤ k → clewref05_Size.f (k + 4) (L.map od) i = some (sz L i) := by
  intro i
  induction i using Nat.strongRecOn with
  | ind i ih =>
    intro hi k hk
    have hl : (i : Int) < ((L.map od).length : Int) := by rw [List.length_map]; omega
    have hi0 : ¬ (i : Int) < 0 := by omega
    have hi1 : 0 ≤ (i : Int) := by omega
    have w1 : wrap64 ((i : Int) - 1) = (i : Int) - 1 := by unfold wrap64; omega
    have HS : ∀ j : Int, j < i → clewref05_Size.f (k + 2) (L.map od) j = some (szi L j) := by
      intro j hj
      unfold szi
      by_cases h0 : j < 0
      · rw [if_pos h0, size_neg _ k j h0]
      · rw [if_neg h0]
        obtain ⟨m, rfl⟩ := Int.eq_ofNat_of_zero_le (show 0 ≤ j by omega)
        rw [Int.toNat_natCast]
        obtain ⟨k', rfl⟩ : ∃ k', k = k' + 2 := ⟨k - 2, by omega⟩
        exact ih m (by omega) (by omega) k' (by omega)
    have r1 := szi_rng L ((i : Int) - 1)
    have w2 : wrap64 ((i : Int) - 1 - szi L ((i : Int) - 1)) = (i : Int) - 1 - szi L ((i : Int) - 1) := by
      rcases Nat.eq_zero_or_pos i with h | h
      · have : szi L ((i : Int) - 1) = 0 := by unfold szi; rw [if_pos (by omega)]
        unfold wrap64; omega
      · have := r1.2 (by omega)
        unfold wrap64; omega
    have r2 := szi_rng L ((i : Int) - 1 - szi L ((i : Int) - 1))
    have hneg : ∀ j : Int, j < 0 → szi L j = 0 := fun j hj => by unfold szi; rw [if_pos hj]
    have B1 : szi L ((i : Int) - 1) ≤ i := by
      by_cases h : (i : Int) - 1 < 0
      · rw [hneg _ h]; omega
      · have := r1.2 (by omega); omega
    have B2 : szi L ((i : Int) - 1 - szi L ((i : Int) - 1)) ≤ i := by
      by_cases h : (i : Int) - 1 - szi L ((i : Int) - 1) < 0
      · rw [hneg _ h]; omega
      · have := r2.2 (by omega); omega
    clear hneg
    rw [sz_step L i, show k + 4 = (k + 3) + 1 from rfl]
    simp only [clewref05_Size.f, if_neg hi0, if_pos hi1, if_pos hl, clewref05_fits.f, Option.bind_some, rd_one L i hi]
    rw [show k + 3 = (k + 2) + 1 from rfl]
    simp only [clewref05_Size.j0, if_pos hi1, if_pos hl, rd_one L i hi, rkids, Option.bind_some, w1, w2, HS _ (show (i : Int) - 1 < i by omega), HS _ (show (i : Int) - 1 - szi L ((i : Int) - 1) < i by omega)]
    have hfe : rfit (od (rd_T43 L i)).f0 (od (rd_T43 L i)).f3.f0 (od (rd_T43 L i)).f3.f1 (od (rd_T43 L i)).f3.f2 (od (rd_T43 L i)).f3.f3 (od (rd_T43 L i)).f4 (od (rd_T43 L i)).f5 (od (rd_T43 L i)).f6 (od (rd_T43 L i)).f7 (od (rd_T43 L i)).f8 = fit (rd_T43 L i) := rfl
    rw [hfe]
    show _ = _
    have e0 : (od (rd_T43 L i)).f0 = (rd_T43 L i).f0 := rfl
    have e1 : (od (rd_T43 L i)).f1 = (rd_T43 L i).f1 := rfl
    have e2 : (od (rd_T43 L i)).f2 = (rd_T43 L i).f2 := rfl
    rw [e0, e1, e2]
    generalize szi L ((i : Int) - 1 - szi L ((i : Int) - 1)) = s2 at *
    generalize szi L ((i : Int) - 1) = s1 at *
    cases hf : fit (rd_T43 L i)
    · simp
    · rw [if_neg (show ¬ (true = false) by decide)]
      simp only [Bool.not_true, Bool.false_eq_true, if_false]
      rcases kd_cases (rd_T43 L i).f0 with hk0 | hk0 | hk0
      · rw [if_pos hk0, if_pos hk0]
        by_cases h1 : (rd_T43 L i).f1 = 0
        · by_cases h2 : (rd_T43 L i).f2 = 0
          · rw [if_pos h1, if_pos h2, if_pos ⟨h1, h2⟩]
          · rw [if_pos h1, if_neg h2, if_neg (fun h => h2 h.2)]
        · rw [if_neg h1, if_neg (fun h => h1 h.1)]
      · rw [if_neg (show ¬ kd (rd_T43 L i).f0 = 0 by omega), if_neg (show ¬ kd (rd_T43 L i).f0 = 0 by omega)]
        by_cases hz : s1 = 0
        · rw [if_pos hz, if_pos hz]
        · rw [if_neg hz, if_neg hz, if_pos hk0, if_pos hk0]
          have w3 : wrap64 (s1 + 1) = s1 + 1 := by unfold wrap64; omega
          by_cases h1 : (rd_T43 L i).f1 = (i : Int) - 1
          · rw [if_pos h1]
            show clewref05_Size.j1 (k + 1 + 1) s1 _ = _
            rw [clewref05_Size.j1]
            by_cases h2 : (rd_T43 L i).f2 = 0
            · have hb : ((rd_T43 L i).f2 != 0) = false := by simp [h2]
              rw [hb, if_neg (show ¬ (false = true) by decide), if_pos ⟨h1, h2⟩, w3]
            · have hb : ((rd_T43 L i).f2 != 0) = true := by simp [h2]
              rw [hb, if_pos rfl, if_neg (fun h => h2 h.2)]
          · rw [if_neg h1, if_neg (fun h => h1 h.1)]
            show clewref05_Size.j1 (k + 1 + 1) s1 true = _
            rw [clewref05_Size.j1, if_pos rfl]
      · rw [if_neg (show ¬ kd (rd_T43 L i).f0 = 0 by omega), if_neg (show ¬ kd (rd_T43 L i).f0 = 0 by omega)]
        by_cases hz : s1 = 0
        · rw [if_pos hz, if_pos hz]
        · rw [if_neg hz, if_neg hz, if_neg (show ¬ kd (rd_T43 L i).f0 = 1 by omega), if_neg (show ¬ kd (rd_T43 L i).f0 = 1 by omega)]
          by_cases hz2 : s2 = 0
          · rw [if_pos hz2, if_pos hz2]
          · rw [if_neg hz2, if_neg hz2]
            by_cases h1 : (rd_T43 L i).f1 = (i : Int) - 1 - s1
            · by_cases h2 : (rd_T43 L i).f2 = (i : Int) - 1
              · rw [if_pos h1, if_pos h2, if_pos ⟨h1, h2⟩]
                have w3 : wrap64 (wrap64 (s2 + s1) + 1) = s2 + s1 + 1 := by unfold wrap64; omega
                rw [w3]
              · rw [if_pos h1, if_neg h2, if_neg (fun h => h2 h.2)]
            · rw [if_neg h1, if_neg (fun h => h1 h.1)]
theorem mx_max (a b : Int) : mx a b = max a b := by unfold mx; omega
theorem mn_min (a b : Int) : mn a b = min a b := by unfold mn; omega
theorem deep_f (L : List S43) (hn2 : L.length ≤ 999) (hw : ∀ i, i < L.length → Wf L i) : ∀ (i : Nat), i < L.length → ∀ k, i ≤ k → clewref05_deep.f (k + 2) (L.map od) i = some (dp L i) := by
  intro i
  induction i using Nat.strongRecOn with
  | ind i ih =>
    intro hi k hk
    have hl : (i : Int) < ((L.map od).length : Int) := by rw [List.length_map]; omega
    have hi1 : 0 ≤ (i : Int) := by omega
    have e0 : (od (rd_T43 L i)).f0 = (rd_T43 L i).f0 := rfl
    have e1 : (od (rd_T43 L i)).f1 = (rd_T43 L i).f1 := rfl
    have e2 : (od (rd_T43 L i)).f2 = (rd_T43 L i).f2 := rfl
    have HS : ∀ a : Nat, a < i → clewref05_deep.f (k + 1) (L.map od) a = some (dp L a) := fun a ha => by
      obtain ⟨k', rfl⟩ : ∃ k', k = k' + 1 := ⟨k - 1, by omega⟩
      exact ih a ha (by omega) k' (by omega)
    have hK := rkids k
    rw [show k + 2 = (k + 1) + 1 from rfl]
    generalize k + 1 = q at *
    simp only [clewref05_deep.f, if_pos hi1, if_pos hl, rd_one L i hi, e0, e1, e2, hK, Option.bind_some]
    rcases dp_eq L L.length hw i hi with ⟨hk0, hd⟩ | ⟨a, hk0, h1, h2, hd⟩ | ⟨a, b, hk0, h1, h2, h3, h4, hd⟩
    · rw [if_pos hk0, hd]
    · have := dp_rng L L.length hw a (by omega)
      rw [if_neg (by omega), if_pos hk0, h1, HS a h2, Option.bind_some, hd]
      congr 1
      unfold wrap64; omega
    · have := dp_rng L L.length hw a (by omega)
      have := dp_rng L L.length hw b (by omega)
      rw [if_neg (by omega), if_neg (by omega), h1, h2, HS a h3, Option.bind_some, HS b h4, Option.bind_some, hd, mx_max]
      congr 1
      unfold wrap64; omega
theorem plus_f (a b : Int) (ha : bnd a) (hb : bnd b) : clewref05_Plus.f a b = some (pl a b) := by
  unfold clewref05_Plus.f pl bnd at *
  by_cases h1 : a = -1
  · rw [if_pos (by omega), if_pos h1]
  · rw [if_neg (by omega), if_neg h1]
    by_cases h2 : b = -1
    · rw [if_pos (by omega), if_pos h2]
    · rw [if_neg (by omega), if_neg h2, mn_min]
      congr 2
      unfold wrap64; omega
theorem times_f (k : Nat) (a b : Int) (ha : bnd a) (hb : -1 ≤ b ∧ b ≤ 100) : clewref05_Times.f (k + 2) a b = some (tm a b) := by
  have hb' : bnd a := ha
  unfold bnd at ha
  unfold tm
  rw [show k + 2 = (k + 1) + 1 from rfl]
  simp only [clewref05_Times.f, clewref05_Times.j0]
  by_cases h1 : a = 0
  · rw [if_pos h1, if_pos trivial, if_pos (Or.inl h1)]
  · rw [if_neg h1]
    by_cases h2 : b = 0
    · have e : (b == 0) = true := by simp [h2]
      rw [e, if_pos rfl, if_pos (Or.inr h2)]
    · have e : (b == 0) = false := by simp [h2]
      rw [e, if_neg (show ¬ (false = true) by decide), if_neg (show ¬ (a = 0 ∨ b = 0) by omega)]
      by_cases h3 : a = -1
      · rw [if_pos (show a < 0 by omega), if_pos h3]
        try rfl
      · rw [if_neg (show ¬ a < 0 by omega), if_neg h3]
        by_cases h4 : b = -1
        · rw [if_pos h4]
          simp [h4]
        · rw [if_neg h4]
          have hr := tm_rng hb' hb h3 h4
          have hE : mn (wrap64 (a * b)) 1048576 = min (a * b) 1048576 := by
            rw [mn_min]
            generalize a * b = q at *
            unfold wrap64
            omega
          simp [hE, show ¬ b < 0 by omega]
theorem lens_f (L : List S43) (hn2 : L.length ≤ 999) (hw : ∀ i, i < L.length → Wf L i) : ∀ (i : Nat), i < L.length → ∀ k, 2 * i ≤ k → clewref05_Lens.f (k + 4) (L.map od) i = some (ln L i) := by
  intro i
  induction i using Nat.strongRecOn with
  | ind i ih =>
    intro hi k hk
    have hl : (i : Int) < ((L.map od).length : Int) := by rw [List.length_map]; omega
    have hi1 : 0 ≤ (i : Int) := by omega
    have e0 : (od (rd_T43 L i)).f0 = (rd_T43 L i).f0 := rfl
    have e1 : (od (rd_T43 L i)).f1 = (rd_T43 L i).f1 := rfl
    have e2 : (od (rd_T43 L i)).f2 = (rd_T43 L i).f2 := rfl
    have e4 : (od (rd_T43 L i)).f4 = (rd_T43 L i).f4 := rfl
    have e5 : (od (rd_T43 L i)).f5 = (rd_T43 L i).f5 := rfl
    have HS : ∀ a : Nat, a < i → clewref05_Lens.f (k + 2) (L.map od) a = some (ln L a) := fun a ha => by
      obtain ⟨k', rfl⟩ : ∃ k', k = k' + 2 := ⟨k - 2, by omega⟩
      exact ih a ha (by omega) k' (by omega)
    have hT := fun a b ha hb => times_f k a b ha hb
    have hwi := hw i hi
    rw [ln_eq L L.length hw i hi, show k + 4 = ((k + 2) + 1) + 1 from rfl]
    generalize k + 2 = q at *
    rw [clewref05_Lens.f, if_pos hi1, if_pos hl, rd_one L i hi, e0, e1, e2, e4, e5]
    unfold lnStep
    by_cases c1 : (rd_T43 L i).f0 = 1
    · rw [if_pos c1, if_pos c1]
    rw [if_neg c1, if_neg c1]
    by_cases c12 : (rd_T43 L i).f0 = 12
    · rw [if_pos c12, if_pos c12]
    rw [if_neg c12, if_neg c12]
    by_cases c8 : (rd_T43 L i).f0 = 8
    · obtain ⟨a, b, h1, h2, h3, h4⟩ := kid2 hwi (by rw [c8]; rfl)
      have ra := ln_rng L L.length hw a (by omega)
      have rb := ln_rng L L.length hw b (by omega)
      rw [if_pos c8, if_pos c8, c8, clewref05_Lens.j0, if_pos (show ((8 : Int) == 8) = true from rfl), h1, h2, Int.toNat_natCast, Int.toNat_natCast, HS a h3, Option.bind_some, HS b h4, Option.bind_some, if_pos rfl, plus_f _ _ ra.2.1 rb.2.1, Option.bind_some, plus_f _ _ ra.2.2 rb.2.2, Option.bind_some]
    rw [if_neg c8, if_neg c8]
    by_cases c9 : (rd_T43 L i).f0 = 9
    · obtain ⟨a, b, h1, h2, h3, h4⟩ := kid2 hwi (by rw [c9]; rfl)
      have ra := ln_rng L L.length hw a (by omega)
      have rb := ln_rng L L.length hw b (by omega)
      rw [if_pos c9, c9, clewref05_Lens.j0, if_pos (show ((9 : Int) == 9) = true from rfl), h1, h2, Int.toNat_natCast, Int.toNat_natCast, HS a h3, Option.bind_some, HS b h4, Option.bind_some, if_neg (show ¬ ((9 : Int) = 8) by decide)]
      simp only [mn_min, mx_max]
      unfold bnd at ra rb
      by_cases c : (ln L a).2 < 0
      · rw [if_pos c, if_pos (by omega)]
      · rw [if_neg c]
        by_cases d : (ln L b).2 < 0
        · rw [if_pos d, if_pos (by omega)]
        · rw [if_neg d, if_neg (by omega)]
    rw [if_neg c9]
    have b9 : ((rd_T43 L i).f0 == 9) = false := by simp [c9]
    rw [b9, clewref05_Lens.j0, if_neg (show ¬ (false = true) by decide)]
    by_cases c10 : (rd_T43 L i).f0 = 10
    · obtain ⟨a, h1, h2⟩ := kid1 hwi (by rw [c10]; rfl)
      have ra := ln_rng L L.length hw a (by omega)
      obtain ⟨m1, m2, m3, m4, _⟩ := fit10 hwi.1 c10
      rw [if_pos c10, if_pos c10, h1, Int.toNat_natCast, HS a h2, Option.bind_some, hT _ _ ra.2.1 ⟨by omega, by omega⟩, Option.bind_some, hT _ _ ra.2.2 ⟨by omega, by omega⟩, Option.bind_some]
    rw [if_neg c10, if_neg c10]
    by_cases c11 : (rd_T43 L i).f0 = 11
    · obtain ⟨a, h1, h2⟩ := kid1 hwi (by rw [c11]; rfl)
      rw [if_pos c11, if_pos (Or.inl c11), h1, Int.toNat_natCast, HS a h2, Option.bind_some]
    rw [if_neg c11]
    by_cases c17 : (rd_T43 L i).f0 = 17
    · obtain ⟨a, h1, h2⟩ := kid1 hwi (by rw [c17]; rfl)
      rw [if_pos c17, if_pos (Or.inr c17), h1, Int.toNat_natCast, HS a h2, Option.bind_some]
    · rw [if_neg c17, if_neg (fun h => h.elim c11 c17)]
theorem gi_len (L : List S43) (j : Nat) (hw : ∀ i, i < j → Wf L i) : ∀ i, i < j → ((gi L i).length : Int) ≤ sz L i := by
  intro i
  induction i using Nat.strongRecOn with
  | ind i ih =>
    intro hi
    rcases (hw i hi).2 with ⟨hk, _, _, h3⟩ | ⟨q, rfl, hk, hf1, hf2, h1, h2⟩ | ⟨q, p, rfl, hp, hk, hf1, hf2, h1, h2, h3⟩
    · rcases gi_eq L j hw i hi with ⟨_, h⟩ | ⟨a, h0, _⟩ | ⟨a, b, h0, _⟩
      · rw [h, h3]; simp
      · omega
      · omega
    · rcases gi_eq L j hw _ hi with ⟨h0, h⟩ | ⟨a, h0, ha, hlt, h⟩ | ⟨a, b, h0, _⟩
      · omega
      · obtain rfl : a = q := by omega
        have := ih a (by omega) (by omega)
        rw [h, List.length_append]
        split
        · simp; omega
        · simp; omega
      · omega
    · rcases gi_eq L j hw _ hi with ⟨h0, h⟩ | ⟨a, h0, ha, hlt, h⟩ | ⟨a, b, h0, ha, hb, _, _, h⟩
      · omega
      · omega
      · obtain rfl : a = p := by omega
        obtain rfl : b = q := by omega
        have := ih a (by omega) (by omega)
        have := ih b (by omega) (by omega)
        rw [h, List.length_append]
        omega
/-- the groups' numbers, as they begin -/
def nums (L : List S43) (i : Nat) : List Int := (gi L i).map fun j : Nat => (rd_T43 L j).f7
theorem numbers_f (L : List S43) (hn2 : L.length ≤ 999) (hw : ∀ i, i < L.length → Wf L i) : ∀ (i : Nat), i < L.length → ∀ k, 2 * i ≤ k → clewref05_numbers.f (k + 4) (L.map od) i = some (nums L i) := by
  intro i
  induction i using Nat.strongRecOn with
  | ind i ih =>
    intro hi k hk
    have hl : (i : Int) < ((L.map od).length : Int) := by rw [List.length_map]; omega
    have hi1 : 0 ≤ (i : Int) := by omega
    have e0 : (od (rd_T43 L i)).f0 = (rd_T43 L i).f0 := rfl
    have e1 : (od (rd_T43 L i)).f1 = (rd_T43 L i).f1 := rfl
    have e2 : (od (rd_T43 L i)).f2 = (rd_T43 L i).f2 := rfl
    have e7 : (od (rd_T43 L i)).f7 = (rd_T43 L i).f7 := rfl
    have HS : ∀ a : Nat, a < i → clewref05_numbers.f (k + 2) (L.map od) a = some (nums L a) := fun a ha => by
      obtain ⟨k', rfl⟩ : ∃ k', k = k' + 2 := ⟨k - 2, by omega⟩
      exact ih a ha (by omega) k' (by omega)
    have hN : ∀ a : Nat, a < i → (nums L a).length ≤ 1000 := fun a ha => by
      unfold nums
      rw [List.length_map]
      have := gi_len L L.length hw a (by omega)
      have := sz_rng L a
      omega
    have hK := rkids (k + 1)
    rw [show k + 1 + 1 = k + 2 from rfl] at hK
    rw [show k + 4 = ((k + 2) + 1) + 1 from rfl]
    generalize k + 2 = q at *
    have hj : ∀ xs : List Int, xs.length ≤ 1 → clewref05_numbers.j0 (q + 1) (L.map od) i xs = some (xs ++ (if kd (rd_T43 L i).f0 = 0 then [] else if kd (rd_T43 L i).f0 = 1 then nums L (rd_T43 L i).f1.toNat else nums L (rd_T43 L i).f1.toNat ++ nums L (rd_T43 L i).f2.toNat)) := by
      intro xs hxs
      rw [clewref05_numbers.j0, if_pos hi1, if_pos hl, rd_one L i hi, e0, e1, e2, hK, Option.bind_some]
      rcases wf_kids (hw i hi) with hk0 | ⟨a, h1, h2, hk0⟩ | ⟨a, b, h1, h2, h3, h4, hk0⟩
      · rw [if_neg (show ¬ kd (rd_T43 L i).f0 ≥ 1 by omega), if_neg (show ¬ kd (rd_T43 L i).f0 = 2 by omega), if_pos hk0, List.append_nil]
      · have := hN a h2
        rw [if_pos (show kd (rd_T43 L i).f0 ≥ 1 by omega), h1, HS a h2, Option.bind_some, if_pos (by omega), Option.bind_some, if_neg (show ¬ kd (rd_T43 L i).f0 = 2 by omega), if_neg (show ¬ kd (rd_T43 L i).f0 = 0 by omega), if_pos hk0, Int.toNat_natCast]
      · have ha := hN a h3
        have hb := hN b h4
        rw [if_pos (show kd (rd_T43 L i).f0 ≥ 1 by omega), h1, HS a h3, Option.bind_some, if_pos (by omega), Option.bind_some, if_pos hk0, h2, HS b h4, Option.bind_some, if_pos (by rw [List.length_append]; omega), if_neg (show ¬ kd (rd_T43 L i).f0 = 0 by omega), if_neg (show ¬ kd (rd_T43 L i).f0 = 1 by omega), Int.toNat_natCast, Int.toNat_natCast, List.append_assoc]
    rw [clewref05_numbers.f, Option.bind_some, if_pos hi1, if_pos hl, rd_one L i hi, e0, e7]
    have hfin : nums L i = (if (rd_T43 L i).f0 = 11 then [(rd_T43 L i).f7] else []) ++ (if kd (rd_T43 L i).f0 = 0 then [] else if kd (rd_T43 L i).f0 = 1 then nums L (rd_T43 L i).f1.toNat else nums L (rd_T43 L i).f1.toNat ++ nums L (rd_T43 L i).f2.toNat) := by
      have hn11 : ∀ k, kd k = 0 ∨ kd k = 2 → k ≠ 11 := by
        rintro k h rfl
        have : kd 11 = 1 := rfl
        omega
      rcases gi_eq L L.length hw i hi with ⟨hk0, h⟩ | ⟨a, hk0, h1, h2, h⟩ | ⟨a, b, hk0, h1, h2, h3, h4, h⟩
      · rw [if_pos hk0, if_neg (hn11 _ (.inl hk0))]
        unfold nums; rw [h]; rfl
      · rw [if_neg (show ¬ kd (rd_T43 L i).f0 = 0 by omega), if_pos hk0, h1, Int.toNat_natCast]
        unfold nums; rw [h, List.map_append]
        split <;> rfl
      · rw [if_neg (show ¬ kd (rd_T43 L i).f0 = 0 by omega), if_neg (show ¬ kd (rd_T43 L i).f0 = 1 by omega), if_neg (hn11 _ (.inr hk0)), h1, h2, Int.toNat_natCast, Int.toNat_natCast]
        unfold nums; rw [h, List.map_append]; rfl
    rw [hfin]
    by_cases h11 : (rd_T43 L i).f0 = 11
    · rw [if_pos h11, if_pos h11, if_pos (by simp), List.nil_append, hj _ (by simp)]
    · rw [if_neg h11, if_neg h11, hj _ (by simp)]
end Go.Proofs.Ytjeoiebdchlilaa.DRef
end
section
/- The document's Deep, formed, Len, Right say what trees in order say; plain. -/
namespace Go.Proofs.Ytjeoiebdchlilaa.DRefB
open Go.RowKit CMem DRow DDeep DSizes DFits DLens DSpec DGrp DCon DOdd DWrap DGrouped DRight DRJoin DRFits DRef Q Go.Proofs.YtjeoiebdchlilaaW.PrintWords
set_option linter.unusedVariables false
set_option linter.unusedSimpArgs false
theorem deepr_f (L : List S43) (hn2 : L.length ≤ 500) (k : Nat) (hk : 2 * L.length + 4 ≤ k) : clewref05_Deep.f k (L.map od) = some (dep L) := by
  unfold clewref05_Deep.f dep
  rw [List.length_map]
  by_cases h0 : L.length = 0
  · have ho : ord L = false := by unfold ord; simp [h0]
    rw [if_pos (by omega), ho]; rfl
  · rw [if_neg (by omega), if_neg (by omega)]
    obtain ⟨m, hm⟩ : ∃ m, L.length = m + 1 := ⟨L.length - 1, by omega⟩
    obtain ⟨q, rfl⟩ : ∃ q, k = q + 4 := ⟨k - 4, by omega⟩
    have e1 : wrap64 ((L.length : Int) - 1) = (m : Int) := by unfold wrap64; omega
    have e2 : L.length - 1 = m := by omega
    rw [e1, size_f L (by omega) m (by omega) q (by omega), Option.bind_some, e2]
    by_cases hs : sz L m = (L.length : Int)
    · have ho : ord L = true := by unfold ord; simp [hs, e2]; omega
      have hw := fun i (hi : i < L.length) => ord_wf ho i hi
      rw [if_pos hs, if_pos ho, deep_f L (by omega) hw m (by omega) (q + 2) (by omega)]; rfl
    · have ho : ord L = false := by
        cases hc : ord L
        · rfl
        · have := ord_sz hc; rw [e2] at this; exact absurd this hs
      rw [if_neg hs, ho]; rfl
theorem dep_zero (L : List S43) : dep L = 0 ↔ ord L = false := by
  unfold dep
  cases ho : ord L
  · simp
  · have hw := fun i (hi : i < L.length) => ord_wf ho i hi
    have hp := ord_pos ho
    have := dp_rng L L.length hw (L.length - 1) (by omega)
    simp
    omega
theorem formedr_f (L : List S43) (hn2 : L.length ≤ 500) (k : Nat) (hk : 2 * L.length + 4 ≤ k) : clewref05_formed.f k (L.map od) = some (frm L) := by
  unfold clewref05_formed.f
  rw [List.length_map, if_neg (by omega), deepr_f L hn2 k hk, Option.bind_some, Option.bind_some]
  unfold frm
  by_cases h0 : dep L = 0
  · have ho := (dep_zero L).1 h0
    rw [if_pos h0, ho]; rfl
  · have ho : ord L = true := by
      cases hc : ord L
      · exact absurd ((dep_zero L).2 hc) h0
      · rfl
    rw [if_neg h0, if_pos ho]
    have hd : dep L = dp L (L.length - 1) := by unfold dep; rw [if_pos ho]
    rw [hd]
    split <;> rfl
theorem lenr_f (L : List S43) (hn2 : L.length ≤ 500) (i : Int) (k : Nat) (hk : 2 * L.length + 4 ≤ k) : clewref05_Len.f k (L.map od) i = some (lenr L i) := by
  unfold clewref05_Len.f lenr
  rw [List.length_map, formedr_f L hn2 k hk, Option.bind_some]
  by_cases hf : frm L = 0
  · have ho := frm_ord hf
    have hw := fun i (hi : i < L.length) => ord_wf ho i hi
    rw [if_pos hf, if_pos hf]
    by_cases h1 : i < 0
    · rw [if_pos h1, if_pos (Or.inl h1)]
    · rw [if_neg h1]
      by_cases h2 : i ≥ (L.length : Int)
      · rw [if_pos h2, if_pos (Or.inr h2)]
      · rw [if_neg h2, if_neg (by omega)]
        obtain ⟨m, rfl⟩ := Int.eq_ofNat_of_zero_le (show 0 ≤ i by omega)
        obtain ⟨q, rfl⟩ : ∃ q, k = q + 4 := ⟨k - 4, by omega⟩
        rw [Int.toNat_natCast, lens_f L (by omega) hw m (by omega) q (by omega), Option.bind_some]
  · rw [if_neg hf, if_neg hf]
theorem l2_f (L : List S43) (hn2 : L.length ≤ 500) (hw : ∀ i, i < L.length → Wf L i) : ∀ (d j : Nat), j + d = L.length → ∀ k, 2 * d + 2 * L.length + 6 ≤ k → clewref05_Right.l2 k (L.map od) j = some (if (List.range' j d).all (bhd1 L) = true then 0 else 7)
  | 0, j, hj, k, hk => by
    obtain ⟨q, rfl⟩ : ∃ q, k = q + 1 := ⟨k - 1, by omega⟩
    rw [clewref05_Right.l2, List.length_map, if_neg (by omega)]
    rfl
  | d + 1, j, hj, k, hk => by
    obtain ⟨q, rfl⟩ : ∃ q, k = (q + 1) + 1 := ⟨k - 2, by omega⟩
    have hjl : j < L.length := by omega
    have hwj := hw j hjl
    have e0 : (od (rd_T43 L j)).f0 = (rd_T43 L j).f0 := rfl
    have e1 : (od (rd_T43 L j)).f1 = (rd_T43 L j).f1 := rfl
    have w1 : wrap64 ((j : Int) + 1) = ((j + 1 : Nat) : Int) := by unfold wrap64; omega
    have ih := l2_f L hn2 hw d (j + 1) (by omega) q (by omega)
    have hjc : (j : Int) < ((L.map od).length : Int) := by rw [List.length_map]; omega
    rw [clewref05_Right.l2, if_pos hjc, if_pos (show 0 ≤ (j : Int) by omega), rd_one L j hjl, e0]
    have hj3 : ∀ b : Bool, b = ((rd_T43 L j).f0 == 15 || (rd_T43 L j).f0 == 16) → clewref05_Right.j3 (q + 1) (L.map od) j b = some (if (List.range' j (d + 1)).all (bhd1 L) = true then 0 else 7) := by
      intro b hb
      rw [clewref05_Right.j3, List.range'_succ, List.all_cons]
      unfold bhd1
      rw [← hb]
      cases b
      · rw [if_neg (show ¬ (false = true) by decide), w1, ih]
        rfl
      · have hk15 : (rd_T43 L j).f0 = 15 ∨ (rd_T43 L j).f0 = 16 := by
          have h := hb.symm
          simp only [Bool.or_eq_true, beq_iff_eq] at h
          exact h
        obtain ⟨a, h1, h2⟩ := kid1 hwj (by rcases hk15 with h | h <;> rw [h] <;> rfl)
        obtain ⟨q', rfl⟩ : ∃ q', q = q' + 4 := ⟨q - 4, by omega⟩
        rw [if_pos rfl, if_pos (show 0 ≤ (j : Int) by omega), if_pos hjc, rd_one L j hjl, e1, h1, Int.toNat_natCast, lens_f L (by omega) hw a (by omega) q' (by omega), Option.bind_some]
        by_cases c1 : (ln L a).1 = (ln L a).2
        · rw [if_pos c1]
          by_cases c2 : (ln L a).1 > 255
          · have hd : decide ((ln L a).1 ≤ 255) = false := by simp; omega
            rw [if_pos c2, hd]
            simp
          · have hd : decide ((ln L a).1 ≤ 255) = true := by simp; omega
            have hb1 : ((ln L a).1 == (ln L a).2) = true := by simp [c1]
            rw [if_neg c2, w1, ih, hd, hb1]
            rfl
        · have hb1 : ((ln L a).1 == (ln L a).2) = false := by simp [c1]
          rw [if_neg c1, hb1]
          simp
    by_cases h15 : (rd_T43 L j).f0 = 15
    · rw [if_pos h15, hj3 true (by simp [h15])]
    · rw [if_neg h15, hj3 _ (by simp [h15])]
theorem l1_f (L : List S43) (hn2 : L.length ≤ 500) (hw : ∀ i, i < L.length → Wf L i) (g : List Int) (K : Nat) (hK : g.length = K) : ∀ (d j : Nat), j + d = L.length → ∀ k, d + 4 * L.length + 8 ≤ k → clewref05_Right.l1 k (L.map od) g j = some (if (List.range' j d).any (fun m => oddb K (rd_T43 L (m : Nat))) = true then 6 else if bhd L = true then 0 else 7)
  | 0, j, hj, k, hk => by
    obtain ⟨q, rfl⟩ : ∃ q, k = q + 1 := ⟨k - 1, by omega⟩
    rw [clewref05_Right.l1, List.length_map, if_neg (by omega)]
    have h := l2_f L hn2 hw L.length 0 (by omega) q (by omega)
    rw [show ((0 : Nat) : Int) = 0 from rfl] at h
    rw [h]
    unfold bhd
    rw [List.range_eq_range']
    rfl
  | d + 1, j, hj, k, hk => by
    obtain ⟨q, rfl⟩ : ∃ q, k = q + 1 := ⟨k - 1, by omega⟩
    have hjl : j < L.length := by omega
    have hj2 : j + 1 + d = L.length := by omega
    have hq2 : d + 4 * L.length + 8 ≤ q := by omega
    have hj0 : 0 ≤ (j : Int) := by omega
    have hjc : (j : Int) < ((L.map od).length : Int) := by rw [List.length_map]; omega
    have w1 : wrap64 ((j : Int) + 1) = ((j + 1 : Nat) : Int) := by unfold wrap64; omega
    have ih := l1_f L hn2 hw g K hK d (j + 1) hj2 q hq2
    have e0 : (od (rd_T43 L j)).f0 = (rd_T43 L j).f0 := rfl
    have e7 : (od (rd_T43 L j)).f7 = (rd_T43 L j).f7 := rfl
    rw [clewref05_Right.l1, if_pos hjc, if_pos hj0, rd_one L j hjl, e0, e7, w1, ih, hK, List.range'_succ, List.any_cons]
    generalize (List.range' (j + 1) d).any (fun m => oddb K (rd_T43 L (m : Nat))) = z
    unfold oddb
    by_cases h12 : (rd_T43 L j).f0 = 12
    · have b12 : ((rd_T43 L j).f0 == 12) = true := by simp [h12]
      rw [if_pos h12, b12]
      by_cases h1 : (rd_T43 L j).f7 < 1
      · rw [if_pos h1]; simp [h1]
      · rw [if_neg h1]
        by_cases h2 : (rd_T43 L j).f7 > (K : Int)
        · rw [if_pos h2]; simp [h2]
        · have d1 : decide ((rd_T43 L j).f7 < 1) = false := by simp [h1]
          have d2 : decide ((rd_T43 L j).f7 > (K : Int)) = false := by simp [h2]
          rw [if_neg h2, d1, d2]
          rfl
    · have b12 : ((rd_T43 L j).f0 == 12) = false := by simp [h12]
      rw [if_neg h12, b12]
      rfl
theorem l0_f (L : List S43) (hn2 : L.length ≤ 500) (hw : ∀ i, i < L.length → Wf L i) (g : List Int) (K : Nat) (hK : g.length = K) (hK2 : K ≤ 1000) : ∀ (d j : Nat), j + d = K → ∀ k, d + 5 * L.length + 10 ≤ k → clewref05_Right.l0 k (L.map od) g j = some (if (List.range' j d).all (fun m => g.getD m 0 == (m : Int) + 1) = true then (if L.any (oddb K) = true then 6 else if bhd L = true then 0 else 7) else 6)
  | 0, j, hj, k, hk => by
    obtain ⟨q, rfl⟩ : ∃ q, k = q + 1 := ⟨k - 1, by omega⟩
    have hq : L.length + 4 * L.length + 8 ≤ q := by omega
    have hjk : ¬ (j : Int) < (g.length : Int) := by omega
    have h := l1_f L hn2 hw g K hK L.length 0 (by omega) q hq
    rw [clewref05_Right.l0, if_neg hjk]
    rw [show ((0 : Nat) : Int) = 0 from rfl] at h
    rw [h]
    have e : (List.range' 0 L.length).any (fun m => oddb K (rd_T43 L (m : Nat))) = L.any (oddb K) := by
      rw [← List.range_eq_range', Bool.eq_iff_iff, List.any_eq_true, List.any_eq_true]
      constructor
      · rintro ⟨m, hm, ho⟩
        have hml := List.mem_range.1 hm
        refine ⟨rd_T43 L m, ?_, ho⟩
        unfold rd_T43
        rw [Int.toNat_natCast, List.getD_eq_getElem?_getD, List.getElem?_eq_getElem hml]
        exact List.getElem_mem _
      · rintro ⟨x, hx, ho⟩
        obtain ⟨m, hml, rfl⟩ := List.getElem_of_mem hx
        refine ⟨m, List.mem_range.2 hml, ?_⟩
        unfold rd_T43
        rw [Int.toNat_natCast, List.getD_eq_getElem?_getD, List.getElem?_eq_getElem hml]
        exact ho
    rw [e]
    rfl
  | d + 1, j, hj, k, hk => by
    obtain ⟨q, rfl⟩ : ∃ q, k = q + 1 := ⟨k - 1, by omega⟩
    have hj2 : j + 1 + d = K := by omega
    have hq2 : d + 5 * L.length + 10 ≤ q := by omega
    have hj0 : 0 ≤ (j : Int) := by omega
    have hjk : (j : Int) < (g.length : Int) := by omega
    have w1 : wrap64 ((j : Int) + 1) = ((j + 1 : Nat) : Int) := by unfold wrap64; omega
    have w2 : wrap64 ((j : Int) + 1) = (j : Int) + 1 := by unfold wrap64; omega
    have ih := l0_f L hn2 hw g K hK hK2 d (j + 1) hj2 q hq2
    have er : rd g (j : Int) = g.getD j 0 := by unfold rd; rw [Int.toNat_natCast]
    rw [clewref05_Right.l0, if_pos hjk, if_pos hj0, er, List.range'_succ, List.all_cons]
    by_cases h1 : g.getD j 0 = (j : Int) + 1
    · have b1 : (g.getD j 0 == (j : Int) + 1) = true := by simp only [beq_iff_eq]; exact h1
      rw [if_pos (by rw [w2]; exact h1), w1, ih, b1]
      rfl
    · have b1 : (g.getD j 0 == (j : Int) + 1) = false := by simp only [beq_eq_false_iff_ne]; exact h1
      rw [if_neg (by rw [w2]; exact h1), b1]
      rfl
theorem rightr_f (L : List S43) (hn2 : L.length ≤ 500) (k : Nat) (hk : 6 * L.length + 20 ≤ k) : clewref05_Right.f k (L.map od) = some (rgt L) := by
  unfold clewref05_Right.f rgt
  have hk4 : 2 * L.length + 4 ≤ k := by omega
  rw [formedr_f L hn2 k hk4, Option.bind_some]
  by_cases hf : frm L = 0
  · have ho := frm_ord hf
    have hw := fun i (hi : i < L.length) => ord_wf ho i hi
    have hp := ord_pos ho
    obtain ⟨m, hm⟩ : ∃ m, L.length = m + 1 := ⟨L.length - 1, by omega⟩
    have hm2 : L.length - 1 = m := by omega
    have e1 : wrap64 (((L.map od).length : Int) - 1) = (m : Int) := by rw [List.length_map]; unfold wrap64; omega
    have hml : m < L.length := by omega
    obtain ⟨q, hq⟩ : ∃ q, k = q + 4 := ⟨k - 4, by omega⟩
    have hnf : clewref05_numbers.f k (L.map od) m = some (DRef.nums L m) := by rw [hq]; exact numbers_f L (by omega) hw m hml q (by omega)
    have hlen : (DRef.nums L m).length = (gi L m).length := by unfold DRef.nums; rw [List.length_map]
    have hgl : (gi L m).length ≤ L.length := by
      have := gi_len L L.length hw m hml
      have := sz_rng L m
      omega
    rw [if_pos hf, if_pos hf, e1, hnf, Option.bind_some, hlen]
    unfold grp
    rw [hm2]
    by_cases h9 : (gi L m).length ≤ 9
    · have hl0 := l0_f L hn2 hw (DRef.nums L m) (gi L m).length hlen (by omega) (gi L m).length 0 (by omega) k (by omega)
      rw [show ((0 : Nat) : Int) = 0 from rfl] at hl0
      have h9' : ¬ ((gi L m).length : Int) > 9 := by omega
      have ea : (List.range' 0 (gi L m).length).all (fun j => (DRef.nums L m).getD j 0 == (j : Int) + 1) = (List.range (gi L m).length).all (fun k => (rd_T43 L ((gi L m).getD k 0 : Nat)).f7 == (k : Int) + 1) := by
        rw [← List.range_eq_range', Bool.eq_iff_iff, List.all_eq_true, List.all_eq_true]
        have hx : ∀ x, x < (gi L m).length → (DRef.nums L m).getD x 0 = (rd_T43 L ((gi L m).getD x 0 : Nat)).f7 := by
          intro x hx
          unfold DRef.nums
          rw [List.getD_eq_getElem?_getD, List.getElem?_map, List.getD_eq_getElem?_getD, List.getElem?_eq_getElem hx]
          rfl
        constructor
        · intro h x hxm
          have := h x hxm
          rw [hx x (List.mem_range.1 hxm)] at this
          exact this
        · intro h x hxm
          have := h x hxm
          rw [hx x (List.mem_range.1 hxm)]
          exact this
      rw [if_neg h9', hl0, ea]
      cases (List.range (gi L m).length).all (fun k => (rd_T43 L ((gi L m).getD k 0 : Nat)).f7 == (k : Int) + 1)
      · rfl
      · have d9 : decide ((gi L m).length ≤ 9) = true := by simp [h9]
        rw [d9]
        cases L.any (oddb (gi L m).length) <;> rfl
    · have h9' : ((gi L m).length : Int) > 9 := by omega
      have d9 : decide ((gi L m).length ≤ 9) = false := by simp [h9]
      rw [if_pos h9', d9]
      simp
  · rw [if_neg hf, if_neg hf]
end Go.Proofs.Ytjeoiebdchlilaa.DRefB
end
section
/- Trees and nodes that came in. -/
namespace Go.Proofs.Ytjeoiebdchlilaa.DArg
open Go.RowKit Go.ChangeShapes Go.WideShapes Go.Deep DSizes Q Go.Proofs.YtjeoiebdchlilaaW.PrintWords
set_option linter.unusedVariables false
set_option maxRecDepth 100000
variable {H : Type} {enc : TypeId × Value → H} {w : World} {base : Nat} {spare : Nat → Bool} {held : Bool}
theorem one_of {cs : List Value} {i : Nat} {v : Value} (h : (cs.drop i).take 1 = [v]) : cs[i]? = some v := by
  have := congrArg (·[0]?) h
  simpa [List.getElem?_take, List.getElem?_drop] using this
theorem arr_ints {P : Program} {k : IntKind} {n fuel : Nat} {t e : TypeId} {cs : List Value} {x : DataW H × List MemPlace} (ht : P.underlying t = some (.array n e)) (he : P.underlying e = some (.int k)) (hc : P.cellsOf e = 1)
    (h : DataW.trod enc P w base spare held fuel t cs = some x) : ∃ L : Nat → Int, ∀ i, i < n → cs[i]? = some (.int k (L i)) := by
  obtain ⟨xs, m, _, _, _, hxl, hel⟩ := DataW.trod_array ht h
  have each : ∀ i, i < n → ∃ f : Int, cs[i]? = some (.int k f) := by
    intro i hi
    have g := hel i hi
    rw [hc, Nat.mul_one, List.getElem?_eq_getElem (by omega)] at g
    obtain ⟨f, q, _, wf⟩ := DataW.trod_int he g
    exact ⟨f, one_of q⟩
  exact choose_lt (α := Int) each
theorem node_cells {fuel : Nat} {cs : List Value} {x : DataW H × List MemPlace} (hl : cs.length = 12) (h : DataW.trod enc Try.prog w base spare held fuel 43 cs = some x) : ∃ z : S43, cs = (nc z).toList := by
  have ci : Try.prog.cellsOf 3 = 1 := by kernel_rfl
  have cb : Try.prog.cellsOf 4 = 1 := by kernel_rfl
  have cS : Try.prog.cellsOf 41 = 4 := by kernel_rfl
  have cA : Try.prog.cellsOf 39 = 4 := by kernel_rfl
  obtain ⟨xs, k, hk, hxy, _, hxl, hff⟩ := DataW.trod_struct Try.underlying43 h
  match xs, hxl, cs, hl with
  | [y0, y1, y2, y3, y4, y5, y6, y7, y8], _, [v0, v1, v2, v3, v4, v5, v6, v7, v8, v9, v10, v11], _ =>
    have g0 := hff 0 _ rfl
    have g1 := hff 1 _ rfl
    have g2 := hff 2 _ rfl
    have g3 := hff 3 _ rfl
    have g4 := hff 4 _ rfl
    have g5 := hff 5 _ rfl
    have g6 := hff 6 _ rfl
    have g7 := hff 7 _ rfl
    have g8 := hff 8 _ rfl
    simp [ci, cb, cS] at g0 g1 g2 g3 g4 g5 g6 g7 g8
    obtain ⟨n0, q0, _, _⟩ := DataW.trod_int Try.underlying3 g0
    obtain ⟨n1, q1, _, _⟩ := DataW.trod_int Try.underlying3 g1
    obtain ⟨n2, q2, _, _⟩ := DataW.trod_int Try.underlying3 g2
    obtain ⟨n4, q4, _, _⟩ := DataW.trod_int Try.underlying3 g4
    obtain ⟨n5, q5, _, _⟩ := DataW.trod_int Try.underlying3 g5
    obtain ⟨n6, q6, _, _⟩ := DataW.trod_int Try.underlying3 g6
    obtain ⟨n7, q7, _, _⟩ := DataW.trod_int Try.underlying3 g7
    obtain ⟨n8, q8, _⟩ := DataW.trod_bool Try.underlying4 g8
    obtain ⟨zs, k2, _, _, _, hzl, hzf⟩ := DataW.trod_struct Try.underlying41 g3
    match zs, hzl with
    | [u0], _ =>
      have r0 := hzf 0 _ rfl
      simp [cA] at r0
      obtain ⟨L, hL⟩ := arr_ints Try.underlying39 Try.underlying38 (by kernel_rfl) r0
      have l0 := hL 0 (by omega)
      have l1 := hL 1 (by omega)
      have l2 := hL 2 (by omega)
      have l3 := hL 3 (by omega)
      simp at l0 l1 l2 l3 q0 q1 q2 q4 q5 q6 q7 q8
      subst l0 l1 l2 l3 q0 q1 q2 q4 q5 q6 q7 q8
      exact ⟨⟨n0, n1, n2, ⟨⟨L 0, L 1, L 2, L 3⟩⟩, n4, n5, n6, n7, n8⟩, rfl⟩
/-- a tree that came in: address, nodes, room -/
structure TreeArg where
  A : Option Addr
  n : Nat
  c : Nat
  L : List S43
def TreeIn (W : World) (z : TreeArg) : Prop := z.L.length = z.n ∧ z.n ≤ z.c ∧ z.c ≤ 9223372036854775807 ∧ Kd.C k43 W z.A z.n z.L
theorem open_nodes {a : Option Addr} {len cap : Nat} {fuel : Nat} {x : DataW H × List MemPlace} (h : DataW.trod enc Try.prog w base spare held fuel 22 [.slice a len cap] = some x) : ∃ L : List S43, L.length = len ∧ len ≤ cap ∧ cap ≤ 9223372036854775807 ∧ Kd.C k43 w a len L := by
  have ce : Try.prog.cellsOf 43 = 12 := by kernel_rfl
  rcases open_slice Try.underlying22 h with ⟨hcs, _⟩ | ⟨x, l, c, m, n, D, Pl, hcs, _, hlc, hcm, hmm, _, hx⟩
  · simp at hcs
    obtain ⟨rfl, rfl, rfl⟩ := hcs
    exact ⟨[], rfl, by decide, by decide, rfl, by decide, fun h => absurd h (Nat.lt_irrefl _)⟩
  · simp at hcs
    obtain ⟨rfl, rfl, rfl⟩ := hcs
    have hlm : len ≤ m := by rw [hmm]; split <;> omega
    have each : ∀ i, i < len → ∃ f : S43, ∀ j u, (nc f).toList[j]? = some u → w.cell? (x.add (i * 12 + j)) = some u := by
      intro i hi
      obtain ⟨cs', h1, h2⟩ := hx i (by omega)
      rw [ce] at h1
      obtain ⟨_, hlen, hcell⟩ := World.cells?_some h1
      obtain ⟨f, rfl⟩ := node_cells hlen h2
      refine ⟨f, fun j u hj => ?_⟩
      have hj2 : j < 12 := by
        rcases Nat.lt_or_ge j 12 with h | h
        · exact h
        · rw [List.getElem?_eq_none (by exact h)] at hj; cases hj
      have := hcell j hj2
      rw [Deep.add_add] at this
      rw [this, hj]
    haveI : Inhabited S43 := ⟨z43⟩
    obtain ⟨F, hF⟩ := choose_lt (α := S43) each
    have hcm2 : cap ≤ 9223372036854775807 := by first | exact hcm | (unfold maxLen at hcm; omega)
    refine ⟨(List.range len).map F, by simp, hlc, hcm2, by simp, by omega, fun _ => ⟨x, rfl, fun j p hj => ?_⟩⟩
    rw [List.getElem?_map, Option.map_eq_some_iff] at hj
    obtain ⟨i, hi, rfl⟩ := hj
    have hqi := List.getElem?_eq_some_iff.1 hi
    obtain ⟨hlt, hqe⟩ := hqi
    have hlt : j < len := by simpa using hlt
    obtain rfl : j = i := by simpa using hqe
    exact ⟨(nc (F j)).toList, rfl, k43_mk w (F j), fun k u hu => hF j hlt k u hu⟩
theorem open_tree {r : Reach} {b0 : Nat} {v : Value} {d : DataW H} {p : List MemPlace} (hv : Value.okWide Try.prog w r b0 24 v) (h : DataW.Trod enc Try.prog w base spare held 24 v d p) :
    ∃ z : TreeArg, v = .agg #[.slice z.A z.n z.c] ∧ TreeIn w z := by
  have ha : ∃ cs, v = .agg cs ∧ cs.size = 1 := by
    simp only [Value.okWide, Try.underlying24] at hv
    obtain ⟨cs, h1, h2, _⟩ := hv
    exact ⟨cs, h1, by rw [h2]; kernel_rfl⟩
  obtain ⟨cs, rfl, hs⟩ := ha
  obtain ⟨fuel, hf⟩ := h
  obtain ⟨xs, m, _, _, _, hxl, hff⟩ := DataW.trod_struct Try.underlying24 hf
  obtain ⟨l, rfl⟩ : ∃ l : List Value, cs = l.toArray := ⟨cs.toList, by simp⟩
  have hl : l.length = 1 := by simpa using hs
  have cS : Try.prog.cellsOf 22 = 1 := by kernel_rfl
  match l, hl, xs, hxl with
  | [v0], _, [x0], _ =>
    have g0 := hff 0 _ rfl
    simp [Value.cells, cS] at g0
    have hsl : ∃ a n c, v0 = .slice a n c := by
      rcases open_slice Try.underlying22 g0 with ⟨hcs, _⟩ | ⟨x, l, c, m, n, D, Pl, hcs, _⟩
      · simp at hcs; exact ⟨_, _, _, hcs⟩
      · simp at hcs; exact ⟨_, _, _, hcs⟩
    obtain ⟨a, len, cap, rfl⟩ := hsl
    obtain ⟨L, h1, h2, h3, h4⟩ := open_nodes g0
    exact ⟨⟨a, len, cap, L⟩, rfl, h1, h2, h3, h4⟩
theorem open_node {r : Reach} {b0 : Nat} {v : Value} {d : DataW H} {p : List MemPlace} (hv : Value.okWide Try.prog w r b0 43 v) (h : DataW.Trod enc Try.prog w base spare held 43 v d p) :
    ∃ z : S43, v = .agg (nc z) ∧ True := by
  have ha : ∃ cs, v = .agg cs ∧ cs.size = 12 := by
    simp only [Value.okWide, Try.underlying43] at hv
    obtain ⟨cs, h1, h2, _⟩ := hv
    exact ⟨cs, h1, by rw [h2]; kernel_rfl⟩
  obtain ⟨cs, rfl, hs⟩ := ha
  obtain ⟨fuel, hf⟩ := h
  obtain ⟨z, hz⟩ := node_cells (by simpa [Value.cells] using hs) hf
  exact ⟨z, by simp only [Value.cells] at hz; rw [← Array.toArray_toList (xs := cs), hz], trivial⟩
end Go.Proofs.Ytjeoiebdchlilaa.DArg
end
