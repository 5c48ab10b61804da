/- CapsShows. -/
import Derived.Test.YtpeccbdobdnpiaaDoorAFixW
import Derived.Test.YtpeccbdobdnpiaaDoorAComma
import Derived.Test.YtpeccbdobdnpiaaDoorAArg
namespace Go.Proofs.YtpeccbdobdnpiaaDoor.LCapsShows
open Go.RowKit CMem ACap AGet AWith AText ASame AAgain AShow AFix AFixW ARShow AComma Go.Proofs.YtpeccbdobdnpiaaDoorW.PrintWords Go.Proofs.YtpeccbdobdnpiaaDoorW.PrintLast Go.Proofs.YtpeccbdobdnpiaaDoorW.PrintMore
set_option linter.unusedVariables false
set_option linter.unusedSimpArgs false
set_option maxRecDepth 100000
theorem hload {b : Nat → Bool} {y : Nat → Int} {g : Nat} {t : TypeId} (W : World) (h : W.heap[g]? = some (.cells (cc b y) t (0, 0))) : (loadCells ⟨g, 0, none⟩ 27).run Tryd.prog W = .ok (cc b y) W := load27 h
theorem show_told (b : Nat → Bool) (y : Nat → Int) (hy : in64 y) (n : Int) (m : Nat) (hm : (n < 1 ∧ m = 0) ∨ (1 ≤ n ∧ n ≤ 9 ∧ n = m) ∨ (9 < n ∧ m = 9)) (W : World) (hT : Tab W) :
    Calls Tryd.prog 15 #[.agg (cc b y), .int .i64 n] W fun e w' => e = .returned (.string (told b y m)) ∧ Below W.heap.size W w' := by
  have h := show_calls b y hy n m hm W hT
  rwa [← told_eq] at h
set_option maxHeartbeats 12800000
attribute [-go_sem] Go.loadCells in
theorem shows_walk (b : Nat → Bool) (y : Nat → Int) (hy : in64 y) (n : Nat) (hn : n < 256) (w : World) (hT : Tab w) :
    Calls Tryd.prog 7 #[.agg (cc b y), .int .u8 n] w fun e w' => e = .returned (.bool true) ∧ Below w.heap.size w w' := by
  obtain ⟨k, hk⟩ : ∃ k : Nat, n % 12 = k := ⟨_, rfl⟩
  have hk12 : k < 12 := by omega
  have hkm : (n : Int) % 12 = (k : Int) := by omega
  obtain ⟨m, hm⟩ : ∃ m : Nat, m = min k 9 := ⟨_, rfl⟩
  obtain ⟨m', hm'⟩ : ∃ m' : Nat, m' = min (k + 1) 9 := ⟨_, rfl⟩
  have hmk : min (k : Int) 9 = (m : Int) := by omega
  have hwk : wrap64 ((k : Int) + 1) = (k : Int) + 1 := by unfold wrap64; omega
  have hwn : wrap64 (-(k : Int)) = -(k : Int) := by unfold wrap64; omega
  have k1 := show_told b y hy k m (by omega)
  have k2 := show_told b y hy (wrap64 ((k : Int) + 1)) m' (by rw [hwk]; omega)
  have k3 := show_told b y hy (-(k : Int)) 0 (by omega)
  rw [show told b y 0 = ⟨#[]⟩ from rfl] at k3
  have kF := fixed_calls
  have hpre := told_pre b y m m' (by omega)
  have hcm := told_commas b y m
  have hpos := told_pos b y m
  have hz0 : m = 0 → (told b y m).size = 0 := fun e => by rw [e]; rfl
  have hsame : 9 ≤ k → told b y m = told b y m' := fun h => by rw [show m = m' by omega]
  have hle := told_le (b := b) hy m
  have hle' := told_le (b := b) hy m'
  generalize told b y m = A at *
  generalize told b y m' = B at *
  obtain ⟨hp1, hp2⟩ := hpre
  have hA : A.size ≤ 1000 := by omega
  have hB : B.size ≤ 1000 := by omega
  have HCM := Lib.hid hcm
  have HPOS := Lib.hid hpos
  have HZ0 := Lib.hid hz0
  have HSAME := Lib.hid hsame
  have C_0 := Lib.hid (heap_alloc_new w (.cells (cc b y) 26))
  have HT_0 := Lib.hid (hT.below (below1 w (.cells (cc b y) 26)))
  have HB_0 := Lib.hid (below1 w (.cells (cc b y) 26))
  have QC := @hload b y w.heap.size 26
  have K1 := Lib.hid k1
  have K2 := Lib.hid k2
  have K3 := Lib.hid k3
  have KF := Lib.hid kF
  clear hT hy k1 k2 k3 kF hcm hpos hz0 hsame hle hle' hk
  go_enter Tryd.func7, Tryd.ntmps7
  go_wp2
  generalize hW : w.alloc (.cells (cc b y) 26) = v0 at *
  clear hW
  rw [hkm]
  refine start_ (n := 9) (S := fun w' => w'.heap[w.heap.size]? = some (.cells (cc b y) 26 (0, 0)) ∧ Tab w' ∧ Below w.heap.size w w') (ds := []) #[false, false, false, false, false, false, false, false, false] (by kernel_rfl) rfl rfl ⟨C_0.out, (HT_0.out.below (Below.refl _ _).drew), HB_0.out.drew⟩ (fun hHeld => ?_)
  refine pure_ (i := 1) (N := some 14) (v := ?_) (a' := ?_) #[false, true, false, false, false, false, false, false, false] rfl rfl (by kernel_rfl) (fun _ _ _ h => h) (Or.inl ⟨by rfl, ?_⟩) ?_ ?_
  rotate_left
  · intro w'
    go_simp
    with_reducible rfl
  rotate_left
  · simp only [Act.put, List.setIfInBounds_toArray, List.set_cons_zero, List.set_cons_succ, i64_w, i32_w]
    rfl
  refine pure_ (i := 4) (N := some 17) (v := ?_) (a' := ?_) #[false, true, false, false, true, false, false, false, false] rfl rfl (by kernel_rfl) (fun _ _ _ h => h) (Or.inl ⟨by rfl, ?_⟩) ?_ ?_
  rotate_left
  · intro w'
    go_simp
    with_reducible rfl
  rotate_left
  · simp only [Act.put, List.setIfInBounds_toArray, List.set_cons_zero, List.set_cons_succ, i64_w, i32_w]
    rfl
  refine pure_ (i := 5) (N := some 18) (v := ?_) (a' := ?_) #[false, true, false, false, true, true, false, false, false] rfl rfl (by kernel_rfl) (fun _ _ _ h => h) (Or.inl ⟨by rfl, ?_⟩) ?_ ?_
  rotate_left
  · intro w'
    go_simp
    with_reducible rfl
  rotate_left
  · simp only [Act.put, List.setIfInBounds_toArray, List.set_cons_zero, List.set_cons_succ, i64_w, i32_w]
    rfl
  refine take_ (i := 0) (N := some 13) (v := ?_) (a' := ?_) #[true, true, false, false, true, true, false, false, false] rfl rfl (by kernel_rfl) (fun _ _ _ h => h) (Or.inl ⟨by rfl, ?_⟩) hHeld ?_ ?_
  rotate_left
  · rintro w' ⟨s0, s1, s2⟩
    go_simp
    with_reducible rfl
  rotate_left
  · simp only [Act.put, List.setIfInBounds_toArray, List.set_cons_zero, List.set_cons_succ, i64_w, i32_w]
    rfl
  refine take_ (i := 3) (N := some 16) (v := ?_) (a' := ?_) #[true, true, false, true, true, true, false, false, false] rfl rfl (by kernel_rfl) (fun _ _ _ h => h) (Or.inl ⟨by rfl, ?_⟩) hHeld ?_ ?_
  rotate_left
  · rintro w' ⟨s0, s1, s2⟩
    go_simp
    with_reducible rfl
  rotate_left
  · simp only [Act.put, List.setIfInBounds_toArray, List.set_cons_zero, List.set_cons_succ, i64_w, i32_w]
    rfl
  refine one_ (i := 2) (N := some 15) #[true, true, true, true, true, true, false, false, false] rfl rfl (by kernel_rfl) (by decide) (fun K hK => ?_)
  refine goes_ Tryd.func15 (by kernel_rfl) rfl #[.agg (cc b y), .int .i64 (k : Nat)] (by rfl) rfl rfl (by simp only [List.map_toArray, List.map_cons, List.map_nil]; rfl) ?_
  with_reducible refine (K1.out _ hHeld.2.1).mono ?_
  rintro e X1 ⟨rfl, hb⟩
  refine ⟨_, rfl, ?_⟩
  refine hK.out _ _ ⟨(below_blk hb hHeld.1), (Tab.below hHeld.2.1 hb), (below_step hHeld.2.2 hb)⟩ (fun hHeld => ?_)
  clear hK K
  refine norm_ (a' := ?_) ?_ ?_
  rotate_left
  · show Act.put _ (some 15) _ = _
    simp only [Act.put, List.setIfInBounds_toArray, List.set_cons_zero, List.set_cons_succ, i64_w, i32_w]
    rfl
  refine one_ (i := 6) (N := some 19) #[true, true, true, true, true, true, true, false, false] rfl rfl (by kernel_rfl) (by decide) (fun K hK => ?_)
  refine goes_ Tryd.func15 (by kernel_rfl) rfl #[.agg (cc b y), .int .i64 (wrap64 ((k : Nat) + 1))] (by rfl) rfl rfl (by simp only [List.map_toArray, List.map_cons, List.map_nil]; rfl) ?_
  with_reducible refine (K2.out _ hHeld.2.1).mono ?_
  rintro e X2 ⟨rfl, hb⟩
  refine ⟨_, rfl, ?_⟩
  refine hK.out _ _ ⟨(below_blk hb hHeld.1), (Tab.below hHeld.2.1 hb), (below_step hHeld.2.2 hb)⟩ (fun hHeld => ?_)
  clear hK K
  refine norm_ (a' := ?_) ?_ ?_
  rotate_left
  · show Act.put _ (some 19) _ = _
    simp only [Act.put, List.setIfInBounds_toArray, List.set_cons_zero, List.set_cons_succ, i64_w, i32_w]
    rfl
  refine pure_ (i := 7) (N := some 6) (v := ?_) (a' := ?_) #[true, true, true, true, true, true, true, true, false] rfl rfl (by kernel_rfl) (fun _ _ _ h => h) (Or.inl ⟨by rfl, ?_⟩) ?_ ?_
  rotate_left
  · intro w'
    go_simp
    with_reducible rfl
  rotate_left
  · simp only [Act.put, List.setIfInBounds_toArray, List.set_cons_zero, List.set_cons_succ, i64_w, i32_w]
    rfl
  refine pure_ (i := 8) (N := some 7) (v := ?_) (a' := ?_) #[true, true, true, true, true, true, true, true, true] rfl rfl (by kernel_rfl) (fun _ _ _ h => h) (Or.inl ⟨by rfl, ?_⟩) ?_ ?_
  rotate_left
  · intro w'
    go_simp
    with_reducible rfl
  rotate_left
  · simp only [Act.put, List.setIfInBounds_toArray, List.set_cons_zero, List.set_cons_succ, i64_w, i32_w]
    rfl
  refine done_ (by kernel_rfl) ?_
  obtain ⟨g0, g1, g2⟩ := hHeld
  have C_1 := Lib.hid g0
  have HT_1 := Lib.hid g1
  have HB_1 := Lib.hid g2
  clear g0 g1 g2 QC C_0 HT_0 HB_0
  go_wp2
  go_loopw [8, 9] (fun u v wr => ∃ i : Nat, i ≤ A.size ∧ u = .int .i64 (cm (bya A) i : Nat) ∧ v = .int .i64 (i : Nat) ∧ wr = X2) (fun _ v _ => A.size - (intOf v).toNat)
  case atStart => exact ⟨0, Nat.zero_le _, rfl, rfl, rfl⟩
  case round =>
    obtain ⟨i, hi, rfl, rfl, rfl⟩ := hrel
    by_cases h : i < A.size
    · have ex := bya_of h
      have HCS : Hid (cm (bya A) (i + 1) = cm (bya A) i + if bya A i = 44 then 1 else 0) := Lib.hid rfl
      have hcl := cm_le (bya A) i
      generalize bya A i = x at *
      by_cases hx : x = 44
      · have hxe : (x == 44) = true := by simp [hx]
        have HC2 : Hid (cm (bya A) (i + 1) = cm (bya A) i + 1) := Lib.hid (by rw [HCS.out, if_pos hx])
        clear HCS hx
        generalize cm (bya A) i = q at *
        go_wp2
        go_roundw
        case rel => exact ⟨i + 1, by omega, by rw [HC2.out]; simp, by simp, trivial⟩
        case measure => simp [intOf]; omega
      · have hxe : (x == 44) = false := by simp [hx]
        have HC2 : Hid (cm (bya A) (i + 1) = cm (bya A) i) := Lib.hid (by rw [HCS.out, if_neg hx]; rfl)
        clear HCS hx
        generalize cm (bya A) i = q at *
        go_wp2
        go_roundw
        case rel => exact ⟨i + 1, by omega, by rw [HC2.out], by simp, trivial⟩
        case measure => simp [intOf]; omega
    · obtain rfl : i = A.size := by omega
      have hcm := HCM.out
      generalize cm (bya A) A.size = q at *
      have l27 := load27 C_1.out
      have hcase : (m = 0 ∧ k < 9) ∨ (0 < m ∧ k < 9) ∨ (0 < m ∧ 9 ≤ k) := by omega
      rcases hcase with ⟨c1, c2⟩ | ⟨c1, c2⟩ | ⟨c1, c2⟩
      · have hA0 := HZ0.out c1
        obtain rfl : A = ⟨#[]⟩ := bya_eq hA0 fun i hi => by omega
        have hq0 : q = 0 := by omega
        have hm0 : min (k : Int) 9 = 0 := by omega
        have hkl : (k : Int) < 9 := by omega
        subst hq0
        clear c1 c2 hmk hm hcm
        have LC_1 := l27
        clear l27
        go_wp2_with (first | ((go_at_call 15); (with_reducible refine (K3.out _ HT_1.out).mono ?_); (rintro e w2 ⟨rfl, hb⟩); (have C_2 := Lib.hid (below_blk hb C_1.out)); (have LC_2 := load27 C_2.out); (have HB_2 := Lib.hid (below_step HB_1.out hb)); (have HT_2 := Lib.hid (HT_1.out.below hb)); (clear hb C_1 HB_1 HT_1 LC_1); (clear K3)) | ((go_at_call 19); (with_reducible refine (KF.out _ HT_2.out).mono ?_); (rintro e w3 ⟨rfl, hb⟩); (have C_3 := Lib.hid (below_blk hb C_2.out)); (have LC_3 := load27 C_3.out); (have HB_3 := Lib.hid (below_step HB_2.out hb)); (have HT_3 := Lib.hid (HT_2.out.below hb)); (clear hb C_2 HB_2 HT_2 LC_2); (clear KF)))
        go_ret
        exact ⟨rfl, HB_3.out⟩
      · have hA0 := HPOS.out c1
        have hAe : ¬ A.toList = [] := by rw [ByteArray.toList_eq]; intro e; have : A.data.toList.length = 0 := by rw [e]; rfl
                                         rw [Array.length_toList] at this; exact absurd this (Nat.ne_of_gt hA0)
        have hAf : (A.toList == []) = false := by simpa using hAe
        have hq1 : (q : Int) + 1 = (m : Int) := by omega
        have hmm : ((m : Int) != (m : Int)) = false := by simp
        have hkl : (k : Int) < 9 := by omega
        clear c1 c2 hm hcm
        have LC_1 := l27
        clear l27
        go_wp2_with (first | ((go_at_call 15); (with_reducible refine (K3.out _ HT_1.out).mono ?_); (rintro e w2 ⟨rfl, hb⟩); (have C_2 := Lib.hid (below_blk hb C_1.out)); (have LC_2 := load27 C_2.out); (have HB_2 := Lib.hid (below_step HB_1.out hb)); (have HT_2 := Lib.hid (HT_1.out.below hb)); (clear hb C_1 HB_1 HT_1 LC_1); (clear K3)) | ((go_at_call 19); (with_reducible refine (KF.out _ HT_2.out).mono ?_); (rintro e w3 ⟨rfl, hb⟩); (have C_3 := Lib.hid (below_blk hb C_2.out)); (have LC_3 := load27 C_3.out); (have HB_3 := Lib.hid (below_step HB_2.out hb)); (have HT_3 := Lib.hid (HT_2.out.below hb)); (clear hb C_2 HB_2 HT_2 LC_2); (clear KF)))
        go_ret
        exact ⟨rfl, HB_3.out⟩
      · have hA0 := HPOS.out c1
        have hAe : ¬ A.toList = [] := by rw [ByteArray.toList_eq]; intro e; have : A.data.toList.length = 0 := by rw [e]; rfl
                                         rw [Array.length_toList] at this; exact absurd this (Nat.ne_of_gt hA0)
        have hAf : (A.toList == []) = false := by simpa using hAe
        have hq1 : (q : Int) + 1 = (m : Int) := by omega
        have hmm : ((m : Int) != (m : Int)) = false := by simp
        have hAB := HSAME.out c2
        subst hAB
        have hkl : ¬ ((k : Int) < 9) := by omega
        clear c1 c2 hm hcm
        have LC_1 := l27
        clear l27
        go_wp2_with (first | ((go_at_call 15); (with_reducible refine (K3.out _ HT_1.out).mono ?_); (rintro e w2 ⟨rfl, hb⟩); (have C_2 := Lib.hid (below_blk hb C_1.out)); (have LC_2 := load27 C_2.out); (have HB_2 := Lib.hid (below_step HB_1.out hb)); (have HT_2 := Lib.hid (HT_1.out.below hb)); (clear hb C_1 HB_1 HT_1 LC_1); (clear K3)) | ((go_at_call 19); (with_reducible refine (KF.out _ HT_2.out).mono ?_); (rintro e w3 ⟨rfl, hb⟩); (have C_3 := Lib.hid (below_blk hb C_2.out)); (have LC_3 := load27 C_3.out); (have HB_3 := Lib.hid (below_step HB_2.out hb)); (have HT_3 := Lib.hid (HT_2.out.below hb)); (clear hb C_2 HB_2 HT_2 LC_2); (clear KF)))
        go_ret
        exact ⟨rfl, HB_3.out⟩
theorem capsShows_row (z : (Nat → Bool) × (Nat → Int)) (n : Int) (w : World) (hT : Tab w) (hy : in64 z.2) (hn : (Lit.int .u8 n).wf = true) :
    Calls Tryd.prog 7 #[.agg (cc z.1 z.2), .int .u8 n] w fun e w' => e = .returned (.bool true) ∧ Below w.heap.size w w' := by
  obtain ⟨h0, h1⟩ := AArg.wf_u8 hn
  obtain ⟨m, rfl⟩ := Int.eq_ofNat_of_zero_le h0
  exact shows_walk z.1 z.2 hy m (by omega) w hT
end Go.Proofs.YtpeccbdobdnpiaaDoor.LCapsShows
