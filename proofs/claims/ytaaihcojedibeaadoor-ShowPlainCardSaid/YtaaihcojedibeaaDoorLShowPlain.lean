/- ShowPlain: what is shown has nothing but letters, digits, blanks, and the signs that patterns have; it is empty just where the tree may not be. -/
import Derived.Test.YtaaihcojedibeaaDoorZ3
import Derived.Test.YtaaihcojedibeaaDoorZ1
namespace Go.Proofs.YtaaihcojedibeaaDoor.LShowPlain
open Go.RowKit CMem DRow DDeep DSizes DSpec DCon DRight DCut DKit DArgS SText SSpec SKinds SSize SShow STree SFix SFixed SPlain Q Go.Proofs.YtaaihcojedibeaaDoorW.PrintWords Go.Proofs.YtaaihcojedibeaaDoorW.PrintLast Go.Proofs.YtaaihcojedibeaaDoorW.PrintMore
set_option linter.unusedVariables false
set_option linter.unusedSimpArgs false
set_option maxRecDepth 100000
theorem setB_pos (N : Nat) : 1 ≤ (setB N).size := by
  unfold setB
  split
  · decide
  · split
    · unfold txt
      split
      · exact Nat.le_refl 1
      · rw [ByteArray.size_append, ByteArray.size_append]; exact Nat.le_add_left 1 _
    · rw [ByteArray.size_append]
      have : (⟨#[93]⟩ : ByteArray).size = 1 := rfl
      omega
theorem shw_pos (L : List S37) (n : Nat) (hw : ∀ i, i < n → Wf L i) : ∀ f (i : Nat), i < n → i < f → 1 ≤ (shwf L f i).size
  | 0, i, _, h => absurd h (Nat.not_lt_zero _)
  | f + 1, i, hi, hf => by
    have ih := shw_pos L n hw f
    have hwi := hw i hi
    have hr := fit_rng hwi.1
    have e : shwf L (f + 1) i = head (rd_T37 L i).f0 ++ body L (shwf L f) (rd_T37 L i) := rfl
    have hwi2 : ∀ (a : Int) ks, 1 ≤ (shwf L f a).size → 1 ≤ (wi L (shwf L f) a ks).size := by
      intro a ks h
      unfold wi
      split
      · rw [ByteArray.size_append, ByteArray.size_append]; omega
      · exact h
    rw [e, ByteArray.size_append]
    have hk18 : (rd_T37 L i).f0 = 0 ∨ (rd_T37 L i).f0 = 2 ∨ (rd_T37 L i).f0 = 3 ∨ (rd_T37 L i).f0 = 4 ∨ (rd_T37 L i).f0 = 5 ∨ (rd_T37 L i).f0 = 6 ∨ (rd_T37 L i).f0 = 7 ∨ (rd_T37 L i).f0 = 11 ∨ (rd_T37 L i).f0 = 13 ∨ (rd_T37 L i).f0 = 14 ∨ (rd_T37 L i).f0 = 15 ∨ (rd_T37 L i).f0 = 16 ∨ (rd_T37 L i).f0 = 17 ∨ (rd_T37 L i).f0 = 1 ∨ (rd_T37 L i).f0 = 12 ∨ (rd_T37 L i).f0 = 8 ∨ (rd_T37 L i).f0 = 9 ∨ (rd_T37 L i).f0 = 10 := by omega
    rcases hk18 with h | h | h | h | h | h | h | h | h | h | h | h | h | h | h | h | h | h
    all_goals try (refine Nat.le_trans ?_ (Nat.le_add_right _ _); rw [h]; decide)
    · have hb : body L (shwf L f) (rd_T37 L i) = setB (nw (rd_T37 L i).f3) := by unfold body; simp [h]
      rw [hb]
      have := setB_pos (nw (rd_T37 L i).f3)
      omega
    · have hb : body L (shwf L f) (rd_T37 L i) = back (rd_T37 L i).f7 (rd_T37 L i).f8 := by unfold body; simp [h]
      rw [hb]
      unfold back
      have e1 : (⟨#[92]⟩ : ByteArray).size = 1 := rfl
      split
      · simp only [ByteArray.size_append]; omega
      · simp only [ByteArray.size_append]; omega
    · obtain ⟨a, b, h1, h2, ha, hb2⟩ := kid2 hwi (by rw [h]; rfl)
      have hb : body L (shwf L f) (rd_T37 L i) = wi L (shwf L f) a [9] ++ wi L (shwf L f) b [8, 9] := by unfold body; rw [h1, h2]; simp [h]
      rw [hb, ByteArray.size_append]
      have := hwi2 a [9] (ih a (by omega) (by omega))
      omega
    · obtain ⟨a, b, h1, h2, ha, hb2⟩ := kid2 hwi (by rw [h]; rfl)
      have hb : body L (shwf L f) (rd_T37 L i) = shwf L f a ++ ⟨#[124]⟩ ++ wi L (shwf L f) b [9] := by unfold body; rw [h1, h2]; simp [h]
      rw [hb, ByteArray.size_append, ByteArray.size_append]
      have := ih a (by omega) (by omega)
      omega
    · obtain ⟨a, h1, ha⟩ := kid1 hwi (by rw [h]; rfl)
      have hb : body L (shwf L f) (rd_T37 L i) = wi L (shwf L f) a [8, 9, 10] ++ often (rd_T37 L i).f4 (rd_T37 L i).f5 (rd_T37 L i).f6 := by unfold body; rw [h1]; simp [h]
      rw [hb, ByteArray.size_append]
      have := hwi2 a [8, 9, 10] (ih a (by omega) (by omega))
      omega
theorem shows_size (L : List S37) (hn : L.length ≤ 1000) (hok : ∀ i, i < L.length → OkN (rd_T37 L (i : Nat))) : (shows L).size ≤ 1000000000 ∧ (rgt L = 0 → 1 ≤ (shows L).size) := by
  unfold shows
  by_cases h : rgt L = 0
  · have ho := rgt_ord h
    have hp := ord_pos ho
    have hw := fun i (hi : i < L.length) => ord_wf ho i hi
    rw [if_pos h]
    exact ⟨shw_big L L.length hn hw hok _ _ (by omega), fun _ => shw_pos L L.length hw _ _ (by omega) (by omega)⟩
  · rw [if_neg h]
    exact ⟨by decide, fun h2 => absurd h2 h⟩
theorem sign_at : ∀ j (h : j < 22), (({ data := #[40, 41, 91, 93, 123, 125, 63, 58, 124, 42, 43, 94, 36, 44, 45, 61, 33, 60, 62, 95, 32, 92] } : ByteArray)[j]'h) = signs.getD j 0 := by decide
theorem ne_empty {s : ByteArray} (h : 1 ≤ s.size) : ¬ s.toList = [] := by
  intro e
  rw [ByteArray.toList_eq] at e
  have h2 : s.data.toList.length = s.size := Array.length_toList
  rw [e] at h2
  simp at h2
  omega
/-- is a byte among the first signs -/
def anyS (j x : Nat) : Bool := (signs.take j).any fun c => c.toNat == x
theorem anyS_succ (j x : Nat) (h : j < 22) : anyS (j + 1) x = (anyS j x || (signs.getD j 0).toNat == x) := by
  unfold anyS
  have e : signs[j]? = some (signs.getD j 0) := by
    rw [List.getD_eq_getElem?_getD, List.getElem?_eq_getElem (show j < signs.length from h)]; rfl
  rw [List.take_add_one, e, List.any_append]
  simp
theorem ok_aln {c : UInt8} {x : Nat} (h : okc c = true) (hx : c.toNat = x) (hn : anyS 22 x = false) : (97 ≤ x ∧ x ≤ 122) ∨ (65 ≤ x ∧ x ≤ 90) ∨ (48 ≤ x ∧ x ≤ 57) := by
  subst hx
  unfold okc at h
  simp only [Bool.or_eq_true] at h
  rcases h with h | h
  · have hc : c ∈ signs := by simpa using h
    have : anyS 22 c.toNat = true := List.any_eq_true.2 ⟨c, by rw [List.take_of_length_le (Nat.le_refl 22)]; exact hc, by simp⟩
    rw [this] at hn
    cases hn
  · unfold aln at h
    simp only [Bool.or_eq_true, Bool.and_eq_true, decide_eq_true_eq] at h
    omega
set_option maxHeartbeats 12800000 in
theorem walk (z : TreeArg) (w : World) (T : Tab w) (hz : TreeIn w z) :
    Calls Tryd.prog 3 #[.agg #[.slice z.A z.n z.c]] w fun e w' => e = .returned (.bool true) ∧ Below w.heap.size w w' := by
  obtain ⟨At, n, c, L⟩ := z
  obtain ⟨h1, hlet, hcapt, hC, hOk⟩ := hz
  simp only [] at h1 hlet hcapt hC hOk ⊢
  obtain ⟨k, hkt⟩ : ∃ k, k = min n 60 := ⟨_, rfl⟩
  obtain ⟨Lt, hLt⟩ : ∃ l, L.take k = l := ⟨_, rfl⟩
  have hnt : Lt.length = k := by rw [← hLt, List.length_take]; omega
  have hk5 : k ≤ 60 := by omega
  have hk6 : k ≤ 500 := by omega
  have HCt := Lib.hid (fun W (hb : Below w.heap.size w W) => (hLt ▸ C_take (Kd.C_below (w1 := W) hC hb) (show k ≤ n by omega) : Kd.C k37 W At k Lt))
  have hok : ∀ i, i < k → OkN (rd_T37 Lt (i : Nat)) := fun i hi => okl (L := Lt) (fun x hx => hOk x (by rw [← hLt] at hx; exact List.mem_of_mem_take hx)) i (by omega)
  have HT := Lib.hid (fun W (h : Below w.heap.size w W) => T.below h)
  obtain ⟨r, hr⟩ : ∃ r, rgt Lt = r := ⟨_, rfl⟩
  obtain ⟨s, hs⟩ : ∃ s, shows Lt = s := ⟨_, rfl⟩
  have hz1 := shows_size Lt (by omega) (fun i hi => hok i (by omega))
  have hob := shows_ok Lt
  have hem : rgt Lt ≠ 0 → s = ⟨#[]⟩ := fun h => by rw [← hs]; unfold shows; rw [if_neg h]
  rw [hs] at hz1 hob
  rw [hr] at hz1 hem
  have HS := Lib.hid hs
  have HR := Lib.hid hr
  have HE := Lib.hid (And.intro hz1.2 hem)
  have hss := hz1.1
  have HOB := Lib.hid hob
  have HOK := Lib.hid hok
  clear hs hr hz1 hem hob hok T hC h1 hLt hk5 hOk
  replace hkt := Lib.hid hkt
  replace hlet := Lib.hid hlet
  replace hcapt := Lib.hid hcapt
  replace hnt := Lib.hid hnt
  replace hk6 := Lib.hid hk6
  have Q0_0 := Lib.hid (heap_alloc_new w (.cells #[.slice At n c] 24))
  have HB_0 := Lib.hid (below1 w (.cells #[.slice At n c] 24))
  have M0_0 := blk_cell Q0_0.out 0 (.slice At n c) rfl
  go_enter Tryd.func3, Tryd.ntmps3
  go_wp2_with fail
  generalize hW : w.alloc (.cells #[.slice At n c] 24) = v0 at *
  clear hW
  refine (cut_calls At c n k 60 hkt.out hlet.out hcapt.out (by decide) _).mono ?_
  -- cut
  rintro e w1 ⟨⟨ct, rfl, hct⟩, hb⟩
  have R_ := below_blk hb Q0_0.out
  have q_ := blk_cell R_ 0 (.slice At n c) rfl
  have f_ := blk_free R_ 0
  have Q0_1 := Lib.hid (set_blk (i := 0) R_ (.slice At k ct))
  have HB_1 := Lib.hid (CMem.below_set (b := w.heap.size) (i := 0) (below_step HB_0.out hb) (by omega) (.slice At k ct))
  have HHt := Lib.hid hct
  clear hb R_ hct HB_0 Q0_0 M0_0
  have M0_1 := blk_cell Q0_1.out 0 (.slice At k ct) rfl
  go_wp2_with fail
  generalize hW : w1.setCell ⟨w.heap.size, 0, none⟩ (.slice At k ct) = v1 at *
  clear hW q_ f_
  have Bt_1 := Q0_1
  have Lt_1 := M0_1
  clear Q0_1 M0_1
  refine (tree_calls Lt k At ct hnt.out hk6.out HOK.out s HS.out _ (HCt.out _ HB_1.out) (HT.out _ HB_1.out)).mono ?_
  rintro e w2 ⟨rfl, hb⟩
  have Bt_2 := Lib.hid (below_blk hb Bt_1.out)
  have Lt_2 := blk_cell Bt_2.out 0 (.slice At k ct) rfl
  have HB_2 := Lib.hid (below_step HB_1.out hb)
  clear hb HB_1 Bt_1 Lt_1
  go_wp2
  go_loopw [4] (fun t wr => ∃ i : Nat, i ≤ s.size ∧ t = .int .i64 (i : Nat) ∧ Hid (Below w2.heap.size w2 wr)) (fun t _ => s.size - (intOf t).toNat)
  case atStart => exact ⟨0, Nat.zero_le _, rfl, Lib.hid (Below.refl _ _)⟩
  case round =>
    obtain ⟨i, hi, rfl, HD⟩ := hrel
    by_cases h : i < s.size
    · have hi2 : (i : Int) < (s.size : Int) := by omega
      have hmem : okc (s[i]'h) = true := HOB.out _ (Array.mem_toList_iff.2 (Array.getElem_mem (xs := s.data) h))
      go_wp2
      obtain ⟨x, hx⟩ : ∃ x : Nat, (s[i]'h).toNat = x := ⟨_, rfl⟩
      have hx256 : x < 256 := by rw [← hx]; exact UInt8.toNat_lt _
      have HX := Lib.hid (fun hn => ok_aln hmem hx hn)
      rw [hx]
      clear hx hmem
      go_loopw [6, 8] (fun v t wq => ∃ (j : Nat) (b : Bool), j ≤ 22 ∧ v = .bool b ∧ t = .int .i64 (j : Nat) ∧ Hid (b = anyS j x) ∧ Hid (Below w2.heap.size w2 wq)) (fun _ t _ => 22 - (intOf t).toNat)
      case atStart => exact ⟨0, false, Nat.zero_le _, rfl, rfl, Lib.hid rfl, HD⟩
      case round =>
        clear HD
        obtain ⟨j, b, hj, rfl, rfl, HBj, HD⟩ := hrel
        by_cases hj22 : j < 22
        · have hj2 : (j : Int) < 22 := by omega
          have hsucc := Lib.hid (anyS_succ j x hj22)
          cases b
          · have hsg := sign_at j hj22
            obtain ⟨y, hy⟩ : ∃ y : UInt8, signs.getD j 0 = y := ⟨_, rfl⟩
            rw [hy] at hsucc hsg
            clear hy
            go_wp2
            go_roundw
            case rel => exact ⟨j + 1, _, by omega, rfl, by simp, Lib.hid (by rw [hsucc.out, ← HBj.out, Bool.false_or, Bool.eq_iff_iff]; simp; omega), HD⟩
            case measure => simp [intOf]; omega
          · go_wp2
            go_roundw
            case rel => exact ⟨j + 1, true, by omega, rfl, by simp, Lib.hid (by rw [hsucc.out, ← HBj.out]; rfl), HD⟩
            case measure => simp [intOf]; omega
        · obtain rfl : j = 22 := by omega
          have hj2 : ¬ ((22 : Nat) : Int) < 22 := by omega
          cases b
          · have hal := HX.out HBj.out.symm
            have hal2 : ((97 : Int) ≤ x ∧ (x : Int) ≤ 122) ∨ ((x : Int) < 97 ∧ (65 : Int) ≤ x ∧ (x : Int) ≤ 90) ∨ ((x : Int) < 97 ∧ (x : Int) < 65 ∧ (48 : Int) ≤ x ∧ (x : Int) ≤ 57) := by omega
            clear hal
            rcases hal2 with ⟨f1, f2⟩ | ⟨f1, f2, f3⟩ | ⟨f1, f2, f3, f4⟩
            · go_wp2
              go_roundw
              case rel => exact ⟨i + 1, by omega, by simp, HD⟩
              case measure => simp [intOf]; omega
            · go_wp2
              go_roundw
              case rel => exact ⟨i + 1, by omega, by simp, HD⟩
              case measure => simp [intOf]; omega
            · go_wp2
              go_roundw
              case rel => exact ⟨i + 1, by omega, by simp, HD⟩
              case measure => simp [intOf]; omega
          · go_wp2
            go_roundw
            case rel => exact ⟨i + 1, by omega, by simp, HD⟩
            case measure => simp [intOf]; omega
    · obtain rfl : i = s.size := by omega
      have hi2 : ¬ ((s.size : Int) < (s.size : Int)) := by omega
      have hb := HD.out
      clear HD
      have Bt_3 := Lib.hid (below_blk hb Bt_2.out)
      have Lt_3 := blk_cell Bt_3.out 0 (.slice At k ct) rfl
      have HB_3 := Lib.hid (below_step HB_2.out hb)
      clear hb HB_2 Bt_2 Lt_2
      rcases Decidable.em (r = 0) with hr0 | hr0
      · subst hr0
        have hp1 := HE.out.1 rfl
        have he : ¬ s.toList = [] := ne_empty hp1
        have he2 : (s.toList == []) = false := by simpa using he
        clear hp1
        go_wp2_with fail
        refine (right_tree At ct Lt k 0 hnt.out hk6.out HR.out _ (HCt.out _ HB_3.out)).mono ?_
        rintro e w4 ⟨rfl, hb⟩
        have Bt_4 := Lib.hid (below_blk hb Bt_3.out)
        have Lt_4 := blk_cell Bt_4.out 0 (.slice At k ct) rfl
        have HB_4 := Lib.hid (below_step HB_3.out hb)
        clear hb HB_3 Bt_3 Lt_3
        go_wp2_with fail
        refine (fixed_calls _ (HT.out _ HB_4.out)).mono ?_
        rintro e w5 ⟨rfl, hb⟩
        have Bt_5 := Lib.hid (below_blk hb Bt_4.out)
        have Lt_5 := blk_cell Bt_5.out 0 (.slice At k ct) rfl
        have HB_5 := Lib.hid (below_step HB_4.out hb)
        clear hb HB_4 Bt_4 Lt_4
        go_wp2
        go_ret
        exact ⟨rfl, HB_5.out⟩
      · have hse := HE.out.2 hr0
        have hr1 : (r != 0) = true := by simpa using hr0
        subst hse
        go_wp2_with fail
        refine (right_tree At ct Lt k r hnt.out hk6.out HR.out _ (HCt.out _ HB_3.out)).mono ?_
        rintro e w4 ⟨rfl, hb⟩
        have Bt_4 := Lib.hid (below_blk hb Bt_3.out)
        have Lt_4 := blk_cell Bt_4.out 0 (.slice At k ct) rfl
        have HB_4 := Lib.hid (below_step HB_3.out hb)
        clear hb HB_3 Bt_3 Lt_3
        go_wp2_with fail
        refine (fixed_calls _ (HT.out _ HB_4.out)).mono ?_
        rintro e w5 ⟨rfl, hb⟩
        have Bt_5 := Lib.hid (below_blk hb Bt_4.out)
        have Lt_5 := blk_cell Bt_5.out 0 (.slice At k ct) rfl
        have HB_5 := Lib.hid (below_step HB_4.out hb)
        clear hb HB_4 Bt_4 Lt_4
        go_wp2
        go_ret
        exact ⟨rfl, HB_5.out⟩
theorem showPlain_row (z : TreeArg) (w : World) (hT : Tab w) (hz : TreeIn w z) :
    Calls Tryd.prog 3 #[.agg #[.slice z.A z.n z.c]] w fun e w' => e = .returned (.bool true) ∧ Below w.heap.size w w' := walk z w hT hz
end Go.Proofs.YtaaihcojedibeaaDoor.LShowPlain
