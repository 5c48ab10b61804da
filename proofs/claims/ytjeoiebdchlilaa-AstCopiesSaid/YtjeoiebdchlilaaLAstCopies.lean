/- AstCopies: what is wrapped, or joined, leaves the trees as they were. -/
import Derived.Test.YtjeoiebdchlilaaZ2
import Derived.Test.YtjeoiebdchlilaaZ1
import Derived.Test.YtjeoiebdchlilaaDForkK
import Derived.Test.YtjeoiebdchlilaaDRSame
namespace Go.Proofs.Ytjeoiebdchlilaa.LAstCopies
open Go.RowKit CMem DRow DDeep DSizes DFits DLens DSpec DGrp DCon DOdd DRowN DWrap DJoin DGrouped DRight DRJoin DRFits DRef DRefB DCut DTree DKit DFix DFixed DArg DAlg DAlgB DForkK DRSame Q Go.Proofs.YtjeoiebdchlilaaW.PrintWords Go.Proofs.YtjeoiebdchlilaaW.PrintLast Go.Proofs.YtjeoiebdchlilaaW.PrintMore
set_option linter.unusedVariables false
set_option linter.unusedSimpArgs false
set_option maxRecDepth 100000
set_option maxHeartbeats 12800000 in
theorem walk (za zb : TreeArg) (w : World) (hza : TreeIn w za) (hzb : TreeIn w zb) :
    Calls Try.prog 7 #[.agg #[.slice za.A za.n za.c], .agg #[.slice zb.A zb.n zb.c]] w fun e w' => e = .returned (.bool true) ∧ Below w.heap.size w w' := by
  obtain ⟨Aa, n, cA, LA⟩ := za
  obtain ⟨Ab, m, cB, LB⟩ := zb
  obtain ⟨h1a, hlea, hcapa, hCa⟩ := hza
  obtain ⟨h1b, hleb, hcapb, hCb⟩ := hzb
  simp only [] at h1a hlea hcapa hCa h1b hleb hcapb hCb ⊢
  obtain ⟨k, hka⟩ : ∃ k, k = min n 40 := ⟨_, rfl⟩
  obtain ⟨q, hkb⟩ : ∃ k, k = min m 40 := ⟨_, rfl⟩
  obtain ⟨La, hLa⟩ : ∃ l, LA.take k = l := ⟨_, rfl⟩
  obtain ⟨Lb, hLb⟩ : ∃ l, LB.take q = l := ⟨_, rfl⟩
  have hna : La.length = k := by rw [← hLa, List.length_take]; omega
  have hnb : Lb.length = q := by rw [← hLb, List.length_take]; omega
  have hk5 : k ≤ 40 := by omega
  have hq5 : q ≤ 40 := by omega
  have hk6 := Lib.hid (show k ≤ 500 by omega)
  have hq6 := Lib.hid (show q ≤ 500 by omega)
  have hk9 := Lib.hid (show k ≤ 1000 by omega)
  have hma := hk9
  have hq9 := Lib.hid (show q ≤ 1000 by omega)
  have hmb := hq9
  have HCa := Lib.hid (fun W (hb : Below w.heap.size w W) => (hLa ▸ C_take (Kd.C_below (w1 := W) hCa hb) (show k ≤ n by omega) : Kd.C k43 W Aa k La))
  have HCb := Lib.hid (fun W (hb : Below w.heap.size w W) => (hLb ▸ C_take (Kd.C_below (w1 := W) hCb hb) (show q ≤ m by omega) : Kd.C k43 W Ab q Lb))
  have HK := Lib.hid (And.intro hk5 hq5)
  clear hCa hCb hLa hLb hk5 hq5 h1a h1b
  replace hka := Lib.hid hka
  replace hkb := Lib.hid hkb
  replace hlea := Lib.hid hlea
  replace hleb := Lib.hid hleb
  replace hcapa := Lib.hid hcapa
  replace hcapb := Lib.hid hcapb
  replace hna := Lib.hid hna
  replace hnb := Lib.hid hnb
  have Q0_0 := Lib.hid (blk_alloc (heap_alloc_new w (.cells #[.slice Aa n cA] 24)) (.cells #[.slice Ab m cB] 24))
  have Q1_0 := Lib.hid (blk2 w (.cells #[.slice Aa n cA] 24) #[.slice Ab m cB] 24)
  have HB_0 := Lib.hid (below2 w (.cells #[.slice Aa n cA] 24) (.cells #[.slice Ab m cB] 24))
  have M0_0 := blk_cell Q0_0.out 0 (.slice Aa n cA) rfl
  have M1_0 := blk_cell Q1_0.out 0 (.slice Ab m cB) rfl
  go_enter Try.func7, Try.ntmps7
  go_wp2_with fail
  generalize hW : (w.alloc (.cells #[.slice Aa n cA] 24)).alloc (.cells #[.slice Ab m cB] 24) = v0 at *
  clear hW
  refine (cut_calls Aa cA n k 40 hka.out hlea.out hcapa.out (by decide) _).mono ?_
  -- cut
  rintro e w1 ⟨⟨ca, rfl, hca⟩, hb⟩
  have R_ := below_blk hb Q0_0.out
  have q_ := blk_cell R_ 0 (.slice Aa n cA) rfl
  have f_ := blk_free R_ 0
  have Q0_1 := Lib.hid (set_blk (i := 0) R_ (.slice Aa k ca))
  have Q1_1 := Lib.hid (set_other (c := w.heap.size) (i := 0) (v := (.slice Aa k ca)) (below_blk hb Q1_0.out) (by omega))
  have HB_1 := Lib.hid (CMem.below_set (b := w.heap.size) (i := 0) (below_step HB_0.out hb) (by omega) (.slice Aa k ca))
  have HHa := Lib.hid hca
  clear hb R_ hca HB_0 Q0_0 Q1_0 M0_0 M1_0
  have M0_1 := blk_cell Q0_1.out 0 (.slice Aa k ca) rfl
  have M1_1 := blk_cell Q1_1.out 0 (.slice Ab m cB) rfl
  go_wp2_with fail
  generalize hW : w1.setCell ⟨w.heap.size, 0, none⟩ (.slice Aa k ca) = v1 at *
  clear hW q_ f_
  refine (cut_calls Ab cB m q 40 hkb.out hleb.out hcapb.out (by decide) _).mono ?_
  -- cut
  rintro e w2 ⟨⟨cb, rfl, hcb⟩, hb⟩
  have Q0_2 := Lib.hid (set_other (c := w.heap.size + 1) (i := 0) (v := (.slice Ab q cb)) (below_blk hb Q0_1.out) (by omega))
  have R_ := below_blk hb Q1_1.out
  have q_ := blk_cell R_ 0 (.slice Ab m cB) rfl
  have f_ := blk_free R_ 0
  have Q1_2 := Lib.hid (set_blk (i := 0) R_ (.slice Ab q cb))
  have HB_2 := Lib.hid (CMem.below_set (b := w.heap.size + 1) (i := 0) (below_step HB_1.out hb) (by omega) (.slice Ab q cb))
  have HHb := Lib.hid hcb
  clear hb R_ hcb HB_1 Q0_1 Q1_1 M0_1 M1_1
  have M1_2 := blk_cell Q1_2.out 0 (.slice Ab q cb) rfl
  have M0_2 := blk_cell Q0_2.out 0 (.slice Aa k ca) rfl
  go_wp2_with fail
  generalize hW : w2.setCell ⟨w.heap.size + 1, 0, none⟩ (.slice Ab q cb) = v2 at *
  clear hW q_ f_
  have Ba_2 := Q0_2
  have La_2 := M0_2
  clear Q0_2 M0_2
  have Bb_2 := Q1_2
  have Lb_2 := M1_2
  clear Q1_2 M1_2
  have hZ := Lib.hid (Below.refl v2.heap.size v2)
  refine start_ (n := 6) (S := fun w' => w'.cell? ⟨w.heap.size, 0, none⟩ = some (.slice Aa k ca) ∧ w'.cell? ⟨w.heap.size + 1, 0, none⟩ = some (.slice Ab q cb) ∧ Below v2.heap.size v2 w') (ds := []) #[false, false, false, false, false, false] (by kernel_rfl) rfl rfl ⟨La_2, Lb_2, hZ.out.drew⟩ (fun hHeld => ?_)
  refine take_ (i := 0) (N := some 15) (v := ?_) (a' := ?_) #[true, false, false, false, false, false] rfl rfl (by kernel_rfl) (fun _ _ _ h => h) (Or.inl ⟨by rfl, ?_⟩) hHeld ?_ ?_
  rotate_left
  · rintro w' ⟨s0, s1, s2⟩
    go_simp
    with_reducible rfl
  rotate_left
  · simp only [Act.put, List.setIfInBounds_toArray, List.set_cons_zero, List.set_cons_succ, i64_w, i32_w]
    rfl
  refine take_ (i := 2) (N := some 17) (v := ?_) (a' := ?_) #[true, false, true, false, false, false] rfl rfl (by kernel_rfl) (fun _ _ _ h => h) (Or.inl ⟨by rfl, ?_⟩) hHeld ?_ ?_
  rotate_left
  · rintro w' ⟨s0, s1, s2⟩
    go_simp
    with_reducible rfl
  rotate_left
  · simp only [Act.put, List.setIfInBounds_toArray, List.set_cons_zero, List.set_cons_succ, i64_w, i32_w]
    rfl
  refine one_ (i := 1) (N := some 16) #[true, true, true, false, false, false] rfl rfl (by kernel_rfl) (by decide) (fun K hK => ?_)
  refine goes_ Try.func11 (by kernel_rfl) rfl #[.agg #[.slice Aa k ca]] (by rfl) rfl rfl (by simp only [List.map_toArray, List.map_cons, List.map_nil]; rfl) ?_
  with_reducible refine (ref_calls Aa ca La k hna.out hk9.out HHa.out _ (HCa.out _ (below_step HB_2.out hHeld.2.2))).mono ?_
  rintro e w30 ⟨⟨Ax, cx, rfl, hlex, Cx⟩, hb30⟩
  refine ⟨_, rfl, ?_⟩
  refine hK.out _ _ ⟨(below_of hb30 hHeld.1), (below_of hb30 hHeld.2.1), (below_step hHeld.2.2 hb30)⟩ (fun hHeld => ?_)
  clear hK K
  refine norm_ (a' := ?_) ?_ ?_
  rotate_left
  · show Act.put _ (some 16) _ = _
    simp only [Act.put, List.setIfInBounds_toArray, List.set_cons_zero, List.set_cons_succ, i64_w, i32_w]
    rfl
  refine one_ (i := 3) (N := some 18) #[true, true, true, true, false, false] rfl rfl (by kernel_rfl) (by decide) (fun K hK => ?_)
  refine goes_ Try.func11 (by kernel_rfl) rfl #[.agg #[.slice Ab q cb]] (by rfl) rfl rfl (by simp only [List.map_toArray, List.map_cons, List.map_nil]; rfl) ?_
  with_reducible refine (ref_calls Ab cb Lb q hnb.out hq9.out HHb.out _ (HCb.out _ (below_step HB_2.out hHeld.2.2))).mono ?_
  rintro e w3 ⟨⟨Ay, cy, rfl, hley, Cy⟩, hb3⟩
  refine ⟨_, rfl, ?_⟩
  refine hK.out _ _ ⟨(below_of hb3 hHeld.1), (below_of hb3 hHeld.2.1), (below_step hHeld.2.2 hb3)⟩ (fun hHeld => ?_)
  clear hK K
  refine norm_ (a' := ?_) ?_ ?_
  rotate_left
  · show Act.put _ (some 18) _ = _
    simp only [Act.put, List.setIfInBounds_toArray, List.set_cons_zero, List.set_cons_succ, i64_w, i32_w]
    rfl
  refine pure_ (i := 4) (N := some 5) (v := ?_) (a' := ?_) #[true, true, true, true, true, false] rfl rfl (by kernel_rfl) (fun _ _ _ h => h) (Or.inl ⟨by rfl, ?_⟩) ?_ ?_
  rotate_left
  · intro w'
    go_simp
    with_reducible rfl
  rotate_left
  · simp only [Act.put, List.setIfInBounds_toArray, List.set_cons_zero, List.set_cons_succ, i64_w, i32_w]
    rfl
  refine pure_ (i := 5) (N := some 6) (v := ?_) (a' := ?_) #[true, true, true, true, true, true] rfl rfl (by kernel_rfl) (fun _ _ _ h => h) (Or.inl ⟨by rfl, ?_⟩) ?_ ?_
  rotate_left
  · intro w'
    go_simp
    with_reducible rfl
  rotate_left
  · simp only [Act.put, List.setIfInBounds_toArray, List.set_cons_zero, List.set_cons_succ, i64_w, i32_w]
    rfl
  refine done_ (by kernel_rfl) ?_
  have hb := below_step (below_step hZ.out.drew hb30) hb3
  have Cx_3 := Lib.hid (Kd.C_below Cx hb3)
  have Cy_3 := Lib.hid Cy
  have Hx := Lib.hid hlex
  have Hy := Lib.hid hley
  clear hHeld hZ hb30 hb3 Cx Cy hlex hley
  have Ba_3 := Lib.hid (below_blk hb Ba_2.out)
  have La_3 := blk_cell Ba_3.out 0 (.slice Aa k ca) rfl
  have Bb_3 := Lib.hid (below_blk hb Bb_2.out)
  have Lb_3 := blk_cell Bb_3.out 0 (.slice Ab q cb) rfl
  have HB_3 := Lib.hid (below_step HB_2.out hb)
  clear hb HB_2 Ba_2 La_2 Bb_2 Lb_2
  obtain ⟨N, hN⟩ : ∃ r, k + q + 1 = r := ⟨_, rfl⟩
  obtain ⟨N2, hN2⟩ : ∃ r, q + 1 = r := ⟨_, rfl⟩
  obtain ⟨LJ, hLJ⟩ : ∃ r, La ++ Lb.map (shift k) ++ [⟨9, (k : Int) - 1, (k : Int) + q - 1, z41, 0, 0, 0, 0, false⟩] = r := ⟨_, rfl⟩
  obtain ⟨LW, hLW⟩ : ∃ r, Lb ++ [⟨11, (q : Int) - 1, 0, ⟨⟨0, 0, 0, 0⟩⟩, 0, 0, 0, 3, false⟩] = r := ⟨_, rfl⟩
  have hnJ : LJ.length = N := by rw [← hLJ, ← hN]; simp [hna.out, hnb.out]; omega
  have hnW : LW.length = N2 := by rw [← hLW, ← hN2]; simp [hnb.out]
  have HN := Lib.hid (show N ≤ 1001 ∧ N2 ≤ 1001 ∧ k + q ≤ 999 ∧ q ≤ 999 ∧ 0 < N ∧ 0 < N2 by have := HK.out; omega)
  have hs1 : wrap64 ((k : Int) + q) = (k : Int) + q := by have := HK.out; unfold wrap64; omega
  have hs2 : wrap64 ((k : Int) + q + 1) = (N : Int) := by have := HK.out; unfold wrap64; omega
  replace hs1 := Lib.hid hs1
  replace hs2 := Lib.hid hs2
  replace hN := Lib.hid hN
  replace hN2 := Lib.hid hN2
  replace hLJ := Lib.hid hLJ
  replace hLW := Lib.hid hLW
  replace hnJ := Lib.hid hnJ
  replace hnW := Lib.hid hnW
  go_wp2_with fail
  refine (join_own Aa ca La Lb LJ k q N hna.out Ab cb hnb.out HN.out.2.2.1 hN.out 9 hLJ.out _ (HCa.out _ HB_3.out) (HCb.out _ HB_3.out)).mono ?_
  rintro e w4 ⟨⟨v_, rfl, hoJ⟩, hb4⟩
  obtain ⟨AJ, cJ, rfl, hleJ, _⟩ := own_C (n := N) hnJ.out HN.out.1 hoJ
  obtain ⟨gJ, rfl⟩ := own_form hoJ HN.out.2.2.2.2.1
  have BJ := Lib.hid (heap_alloc_new w4 (.cells #[.slice (some ⟨gJ, 0, none⟩) N cJ] 24))
  have OJ := Lib.hid (hoJ.alloc (.cells #[.slice (some ⟨gJ, 0, none⟩) N cJ] 24))
  have hbJ := Lib.hid (hb4.alloc hb4.size (.cells #[.slice (some ⟨gJ, 0, none⟩) N cJ] 24))
  have lb := blk_cell (blk_alloc (below_blk hb4 Bb_3.out) (.cells #[.slice (some ⟨gJ, 0, none⟩) N cJ] 24)) 0 (.slice Ab q cb) rfl
  clear hoJ hb4 hleJ
  go_wp2_with fail
  generalize hW : w4.alloc (.cells #[.slice (some ⟨gJ, 0, none⟩) N cJ] 24) = v4 at *
  clear hW
  generalize w4.heap.size = PJ at *
  refine (wrap_own Ab cb Lb LW q N2 hnb.out HN.out.2.2.2.1 hN2.out 11 0 0 0 0 0 0 0 0 0 3 false hLW.out _ (HCb.out _ (below_step HB_3.out hbJ.out))).mono ?_
  rintro e w5 ⟨⟨v_, rfl, hoW⟩, hb5⟩
  obtain ⟨AW, cW, rfl, hleW, _⟩ := own_C (n := N2) hnW.out HN.out.2.1 hoW
  obtain ⟨gW, rfl⟩ := own_form hoW HN.out.2.2.2.2.2
  have T5 : Hid (Two w3 (w5.alloc (.cells #[.slice (some ⟨gW, 0, none⟩) N2 cW] 24)) gJ cJ N PJ gW cW N2 w5.heap.size) := Lib.hid
    ⟨by have h1 := (own_bs OJ.out).2; have h2 := (own_bs hoW).1; omega, ⟨_, (own_below OJ.out hb5).alloc _⟩, ⟨_, (own_weaken hoW hbJ.out.size).alloc _⟩, blk_alloc (below_blk hb5 BJ.out) _, heap_alloc_new _ _, (below_step hbJ.out hb5).alloc (below_step hbJ.out hb5).size _⟩
  clear hoW hb5 hleW BJ OJ hbJ lb
  go_wp2
  generalize w5.alloc (.cells #[.slice (some ⟨gW, 0, none⟩) N2 cW] 24) = v5 at *
  generalize w5.heap.size = PW at *
  go_loopw [9] (fun t wr => ∃ i : Nat, i ≤ N ∧ t = .int .i64 (i : Nat) ∧ Hid (Two w3 wr gJ cJ N PJ gW cW N2 PW)) (fun t _ => N - (intOf t).toNat)
  case atStart => exact ⟨0, Nat.zero_le _, rfl, T5⟩
  case round =>
    clear T5
    obtain ⟨i, hi, rfl, T⟩ := hrel
    have lJ := blk_cell T.out.b1 0 (.slice (some ⟨gJ, 0, none⟩) N cJ) rfl
    by_cases h : i < N
    · have hi2 : (i : Int) < (N : Int) := by omega
      obtain ⟨⟨v, hv⟩, hf⟩ := own_at T.out.o1 (i * 12 + 10) (by omega)
      have T2 := Lib.hid (T.out.set1 (i * 12 + 10) (.int .i64 77))
      go_wp2
      have hw : wrap64 ((i : Int) + 1) = ((i + 1 : Nat) : Int) := by have := HN.out; unfold wrap64; omega
      rw [hw]
      go_roundw
      case rel => exact ⟨i + 1, by omega, rfl, T2⟩
      case measure => simp [intOf]; omega
    · obtain rfl : N = i := by omega
      have hi2 : ¬ ((N : Int) < (N : Int)) := by omega
      go_wp2
      clear lJ
      go_loopw [10] (fun t wq => ∃ i : Nat, i ≤ N2 ∧ t = .int .i64 (i : Nat) ∧ Hid (Two w3 wq gJ cJ N PJ gW cW N2 PW)) (fun t _ => N2 - (intOf t).toNat)
      case atStart => exact ⟨0, Nat.zero_le _, rfl, T⟩
      case round =>
        clear T hi2 h hi
        obtain ⟨i, hi, rfl, T⟩ := hrel
        have lW := blk_cell T.out.b2 0 (.slice (some ⟨gW, 0, none⟩) N2 cW) rfl
        by_cases h : i < N2
        · have hi2 : (i : Int) < (N2 : Int) := by omega
          obtain ⟨⟨v, hv⟩, hf⟩ := own_at T.out.o2 (i * 12 + 10) (by omega)
          have T2 := Lib.hid (T.out.set2 (i * 12 + 10) (.int .i64 78))
          go_wp2
          have hw : wrap64 ((i : Int) + 1) = ((i + 1 : Nat) : Int) := by have := HN.out; unfold wrap64; omega
          rw [hw]
          go_roundw
          case rel => exact ⟨i + 1, by omega, rfl, T2⟩
          case measure => simp [intOf]; omega
        · obtain rfl : N2 = i := by omega
          have hi2 : ¬ ((N2 : Int) < (N2 : Int)) := by omega
          have hb := T.out.bl
          have BJ_4 := Lib.hid T.out.b1
          have LJ_4 := blk_cell BJ_4.out 0 (.slice (some ⟨gJ, 0, none⟩) N cJ) rfl
          clear T
          have Cx_4 := Lib.hid (Kd.C_below Cx_3.out hb)
          have Cy_4 := Lib.hid (Kd.C_below Cy_3.out hb)
          have Ba_4 := Lib.hid (below_blk hb Ba_3.out)
          have La_4 := blk_cell Ba_4.out 0 (.slice Aa k ca) rfl
          have Bb_4 := Lib.hid (below_blk hb Bb_3.out)
          have Lb_4 := blk_cell Bb_4.out 0 (.slice Ab q cb) rfl
          have HB_4 := Lib.hid (below_step HB_3.out hb)
          clear hb HB_3 Cx_3 Cy_3 Ba_3 La_3 Bb_3 Lb_3
          replace hs1 := hs1.out
          replace hs2 := hs2.out
          go_wp2_with fail
          clear lW hi2 h hi hs1 hs2
          refine (ref_calls Aa ca La k hna.out hma.out HHa.out _ (HCa.out _ HB_4.out)).mono ?_
          rintro e w5 ⟨⟨Ap, cp, rfl, hle, C⟩, hb⟩
          have Cx_5 := Lib.hid (Kd.C_below Cx_4.out hb)
          have Cy_5 := Lib.hid (Kd.C_below Cy_4.out hb)
          have Cp_5 := Lib.hid C
          have Hp := Lib.hid hle
          clear C hle
          have Ba_5 := Lib.hid (below_blk hb Ba_4.out)
          have La_5 := blk_cell Ba_5.out 0 (.slice Aa k ca) rfl
          have Bb_5 := Lib.hid (below_blk hb Bb_4.out)
          have Lb_5 := blk_cell Bb_5.out 0 (.slice Ab q cb) rfl
          have BJ_5 := Lib.hid (below_blk hb BJ_4.out)
          have LJ_5 := blk_cell BJ_5.out 0 (.slice (some ⟨gJ, 0, none⟩) N cJ) rfl
          have HB_5 := Lib.hid (below_step HB_4.out hb)
          clear hb HB_4 Cx_4 Cy_4 Ba_4 La_4 Bb_4 Lb_4 BJ_4 LJ_4
          go_wp2_with fail
          refine (rsame_tree Ap cp La k Ax cx La k true hna.out hna.out hk6.out Hp.out Hx.out (sameb_refl La) _ Cp_5.out Cx_5.out).mono ?_
          rintro e w6 ⟨rfl, hb⟩
          have Cx_6 := Lib.hid (Kd.C_below Cx_5.out hb)
          have Cy_6 := Lib.hid (Kd.C_below Cy_5.out hb)
          have Cp_6 := Lib.hid (Kd.C_below Cp_5.out hb)
          have Ba_6 := Lib.hid (below_blk hb Ba_5.out)
          have La_6 := blk_cell Ba_6.out 0 (.slice Aa k ca) rfl
          have Bb_6 := Lib.hid (below_blk hb Bb_5.out)
          have Lb_6 := blk_cell Bb_6.out 0 (.slice Ab q cb) rfl
          have BJ_6 := Lib.hid (below_blk hb BJ_5.out)
          have LJ_6 := blk_cell BJ_6.out 0 (.slice (some ⟨gJ, 0, none⟩) N cJ) rfl
          have HB_6 := Lib.hid (below_step HB_5.out hb)
          clear hb HB_5 Cx_5 Cy_5 Cp_5 Ba_5 La_5 Bb_5 Lb_5 BJ_5 LJ_5
          go_wp2_with fail
          refine (ref_calls Ab cb Lb q hnb.out hmb.out HHb.out _ (HCb.out _ HB_6.out)).mono ?_
          rintro e w7 ⟨⟨Ar, cr, rfl, hle, C⟩, hb⟩
          have Cx_7 := Lib.hid (Kd.C_below Cx_6.out hb)
          have Cy_7 := Lib.hid (Kd.C_below Cy_6.out hb)
          have Cp_7 := Lib.hid (Kd.C_below Cp_6.out hb)
          have Cr_7 := Lib.hid C
          have Hr := Lib.hid hle
          clear C hle
          have Ba_7 := Lib.hid (below_blk hb Ba_6.out)
          have La_7 := blk_cell Ba_7.out 0 (.slice Aa k ca) rfl
          have Bb_7 := Lib.hid (below_blk hb Bb_6.out)
          have Lb_7 := blk_cell Bb_7.out 0 (.slice Ab q cb) rfl
          have BJ_7 := Lib.hid (below_blk hb BJ_6.out)
          have LJ_7 := blk_cell BJ_7.out 0 (.slice (some ⟨gJ, 0, none⟩) N cJ) rfl
          have HB_7 := Lib.hid (below_step HB_6.out hb)
          clear hb HB_6 Cx_6 Cy_6 Cp_6 Ba_6 La_6 Bb_6 Lb_6 BJ_6 LJ_6
          go_wp2_with fail
          refine (rsame_tree Ar cr Lb q Ay cy Lb q true hnb.out hnb.out hq6.out Hr.out Hy.out (sameb_refl Lb) _ Cr_7.out Cy_7.out).mono ?_
          rintro e w8 ⟨rfl, hb⟩
          have Cx_8 := Lib.hid (Kd.C_below Cx_7.out hb)
          have Cy_8 := Lib.hid (Kd.C_below Cy_7.out hb)
          have Cp_8 := Lib.hid (Kd.C_below Cp_7.out hb)
          have Cr_8 := Lib.hid (Kd.C_below Cr_7.out hb)
          have Ba_8 := Lib.hid (below_blk hb Ba_7.out)
          have La_8 := blk_cell Ba_8.out 0 (.slice Aa k ca) rfl
          have Bb_8 := Lib.hid (below_blk hb Bb_7.out)
          have Lb_8 := blk_cell Bb_8.out 0 (.slice Ab q cb) rfl
          have BJ_8 := Lib.hid (below_blk hb BJ_7.out)
          have LJ_8 := blk_cell BJ_8.out 0 (.slice (some ⟨gJ, 0, none⟩) N cJ) rfl
          have HB_8 := Lib.hid (below_step HB_7.out hb)
          clear hb HB_7 Cx_7 Cy_7 Cp_7 Cr_7 Ba_7 La_7 Bb_7 Lb_7 BJ_7 LJ_7
          go_wp2_with fail
          refine (same_tree Aa ca La k Aa ca La k true hna.out hna.out hk6.out HHa.out HHa.out (sameb_refl La) _ (HCa.out _ HB_8.out) (HCa.out _ HB_8.out)).mono ?_
          rintro e w9 ⟨rfl, hb⟩
          have Cx_9 := Lib.hid (Kd.C_below Cx_8.out hb)
          have Cy_9 := Lib.hid (Kd.C_below Cy_8.out hb)
          have Cp_9 := Lib.hid (Kd.C_below Cp_8.out hb)
          have Cr_9 := Lib.hid (Kd.C_below Cr_8.out hb)
          have Ba_9 := Lib.hid (below_blk hb Ba_8.out)
          have La_9 := blk_cell Ba_9.out 0 (.slice Aa k ca) rfl
          have Bb_9 := Lib.hid (below_blk hb Bb_8.out)
          have Lb_9 := blk_cell Bb_9.out 0 (.slice Ab q cb) rfl
          have BJ_9 := Lib.hid (below_blk hb BJ_8.out)
          have LJ_9 := blk_cell BJ_9.out 0 (.slice (some ⟨gJ, 0, none⟩) N cJ) rfl
          have HB_9 := Lib.hid (below_step HB_8.out hb)
          clear hb HB_8 Cx_8 Cy_8 Cp_8 Cr_8 Ba_8 La_8 Bb_8 Lb_8 BJ_8 LJ_8
          have hs1 : wrap64 ((k : Int) + q) = (k : Int) + q := by have := HK.out; unfold wrap64; omega
          have hs2 : wrap64 ((k : Int) + q + 1) = (N : Int) := by have := HK.out; have := hN.out; unfold wrap64; omega
          go_wp2_with fail
          clear hs1 hs2
          refine (fixed_calls _).mono ?_
          rintro e w10 ⟨rfl, hb⟩
          have Cx_10 := Lib.hid (Kd.C_below Cx_9.out hb)
          have Cy_10 := Lib.hid (Kd.C_below Cy_9.out hb)
          have Cp_10 := Lib.hid (Kd.C_below Cp_9.out hb)
          have Cr_10 := Lib.hid (Kd.C_below Cr_9.out hb)
          have Ba_10 := Lib.hid (below_blk hb Ba_9.out)
          have La_10 := blk_cell Ba_10.out 0 (.slice Aa k ca) rfl
          have Bb_10 := Lib.hid (below_blk hb Bb_9.out)
          have Lb_10 := blk_cell Bb_10.out 0 (.slice Ab q cb) rfl
          have BJ_10 := Lib.hid (below_blk hb BJ_9.out)
          have LJ_10 := blk_cell BJ_10.out 0 (.slice (some ⟨gJ, 0, none⟩) N cJ) rfl
          have HB_10 := Lib.hid (below_step HB_9.out hb)
          clear hb HB_9 Cx_9 Cy_9 Cp_9 Cr_9 Ba_9 La_9 Bb_9 Lb_9 BJ_9 LJ_9
          go_wp2
          go_ret
          exact ⟨rfl, HB_10.out⟩
theorem astCopies_row (za zb : TreeArg) (w : World) (hza : TreeIn w za) (hzb : TreeIn w zb) :
    Calls Try.prog 7 #[.agg #[.slice za.A za.n za.c], .agg #[.slice zb.A zb.n zb.c]] w fun e w' => e = .returned (.bool true) ∧ Below w.heap.size w w' :=
  walk za zb w hza hzb
end Go.Proofs.Ytjeoiebdchlilaa.LAstCopies
