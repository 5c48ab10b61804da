/- AstGrows: what is joined or wrapped of trees in order stands in order, is deeper by one, has the groups of both, and its length. -/
import Derived.Test.YtjeoiebdchlilaaZ2
import Derived.Test.YtjeoiebdchlilaaZ1
import Derived.Test.YtjeoiebdchlilaaDAlgB
import Derived.Test.YtjeoiebdchlilaaDForkK
namespace Go.Proofs.Ytjeoiebdchlilaa.LAstGrows
open Go.RowKit CMem DRow DDeep DSizes DFits DLens DSpec DGrp DCon DOdd DRowN DWrap DJoin DGrouped DRight DRJoin DRFits DRef DRefB DCut DTree DKit DFix DFixed DArg DAlg DAlgB DForkK Q Go.Proofs.YtjeoiebdchlilaaW.PrintWords Go.Proofs.YtjeoiebdchlilaaW.PrintLast Go.Proofs.YtjeoiebdchlilaaW.PrintMore
set_option linter.unusedVariables false
set_option linter.unusedSimpArgs false
set_option maxRecDepth 100000
theorem plain (La Lb LC LW : List S43) (k q N N2 : Nat) (x y : Int) (h1 : La.length = k) (h2 : Lb.length = q) (hk : k ≤ 60) (hq : q ≤ 60) (hx : dep La = x) (hy : dep Lb = y) (hx0 : ¬ x = 0) (hy0 : ¬ y = 0) (hN : k + q + 1 = N) (hN2 : k + 1 = N2)
    (hC : La ++ Lb.map (shift k) ++ [⟨8, (k : Int) - 1, (k : Int) + q - 1, z41, 0, 0, 0, 0, false⟩] = LC) (hW : La ++ [⟨17, (k : Int) - 1, 0, ⟨⟨0, 0, 0, 0⟩⟩, 0, 0, 0, 0, false⟩] = LW) :
    ∃ z D E G ga gb S I1 I2 I3 : Int, (if x < y then y else x) = z ∧ max x y = z ∧ wrap64 (1 + z) = D ∧ wrap64 (1 + x) = E ∧ wrap64 (ga + gb) = G ∧ wrap64 ((k : Int) + q) = S ∧ wrap64 (S + 1) = (N : Int) ∧
      wrap64 ((k : Int) - 1) = I1 ∧ wrap64 ((q : Int) - 1) = I2 ∧ wrap64 ((N : Int) - 1) = I3 ∧
      dep LC = D ∧ dep LW = E ∧ grn La = ga ∧ grn Lb = gb ∧ grn LC = G ∧
      (z < 40 → ∃ i j u v, bnd i ∧ bnd j ∧ bnd u ∧ bnd v ∧ lenr La I1 = (i, j, 0) ∧ lenr Lb I2 = (u, v, 0) ∧ lenr LC I3 = (pl i u, pl j v, 0)) := by
  have w (x : Int) (h : -1000 ≤ x ∧ x ≤ 1000) : wrap64 x = x := by unfold wrap64; omega
  have hoA := ord_of (L := La) (by rw [hx]; exact hx0)
  have hoB := ord_of (L := Lb) (by rw [hy]; exact hy0)
  subst h1 h2
  have eC : LC = joinl La Lb 8 := hC.symm
  have eW : LW = wrapl La 17 0 0 0 0 := hW.symm
  have pA := ord_pos hoA
  have pB := ord_pos hoB
  have rA := dep_rng hoA
  have rB := dep_rng hoB
  have gA := grn_rng La
  have gB := grn_rng Lb
  have dC := join_dp hoA hoB (by omega) (by omega) 8 (Or.inl rfl)
  have oC := join_ord hoA hoB (by omega) (by omega) 8 (Or.inl rfl)
  have lC := join_ln hoA hoB (by omega) (by omega) 8 (Or.inl rfl)
  have nC := joinl_len La Lb 8
  have gC := join_grn La Lb 8 (by decide)
  have dW := wrap_dp hoA (by omega) 17 0 0 0 0 rfl rfl
  rw [← eC] at dC oC lC nC gC
  rw [← eW] at dW
  rw [hx, hy] at dC
  rw [hx] at dW
  rw [hx] at rA
  rw [hy] at rB
  have hm : (if x < y then y else x) = max x y := by split <;> omega
  rw [if_pos rfl] at lC
  have bA := ln_bnd hoA
  have bB := ln_bnd hoB
  refine ⟨max x y, 1 + max x y, 1 + x, grn La + grn Lb, grn La, grn Lb, (La.length : Int) + Lb.length, (La.length : Int) - 1, (Lb.length : Int) - 1, (N : Int) - 1, hm, rfl, w _ (by omega), w _ (by omega), w _ (by omega), w _ (by omega), ?_, w _ (by omega), w _ (by omega), w _ (by omega), dC, dW, rfl, rfl, gC, fun hz => ?_⟩
  · rw [w _ (by omega)]; omega
  · refine ⟨_, _, _, _, bA.2.1, bA.2.2, bB.2.1, bB.2.2, lenr_last hoA (by omega) _ rfl, lenr_last hoB (by omega) _ rfl, ?_⟩
    rw [lenr_last oC (by omega) _ (by omega), nC, Nat.add_sub_cancel, lC]
set_option maxHeartbeats 12800000 in
theorem walk (za zb : TreeArg) (w : World) (hza : TreeIn w za) (hzb : TreeIn w zb) :
    Calls Try.prog 5 #[.agg #[.slice za.A za.n za.c], .agg #[.slice zb.A zb.n zb.c]] w fun e w' => e = .returned (.bool true) ∧ Below w.heap.size w w' := by
  obtain ⟨Aa, n, cA, LA⟩ := za
  obtain ⟨Ab, m, cB, LB⟩ := zb
  obtain ⟨h1a, hlea, hcapa, hCa⟩ := hza
  obtain ⟨h1b, hleb, hcapb, hCb⟩ := hzb
  simp only [] at h1a hlea hcapa hCa h1b hleb hcapb hCb ⊢
  obtain ⟨k, hka⟩ : ∃ k, k = min n 60 := ⟨_, rfl⟩
  obtain ⟨q, hkb⟩ : ∃ k, k = min m 60 := ⟨_, rfl⟩
  obtain ⟨La, hLa⟩ : ∃ l, LA.take k = l := ⟨_, rfl⟩
  obtain ⟨Lb, hLb⟩ : ∃ l, LB.take q = l := ⟨_, rfl⟩
  have hna : La.length = k := by rw [← hLa, List.length_take]; omega
  have hnb : Lb.length = q := by rw [← hLb, List.length_take]; omega
  have hk5 : k ≤ 60 := by omega
  have hq5 : q ≤ 60 := by omega
  have hk6 := Lib.hid (show k ≤ 500 by omega)
  have hq6 := Lib.hid (show q ≤ 500 by omega)
  have HCa := Lib.hid (fun W (hb : Below w.heap.size w W) => (hLa ▸ C_take (Kd.C_below (w1 := W) hCa hb) (show k ≤ n by omega) : Kd.C k43 W Aa k La))
  have HCb := Lib.hid (fun W (hb : Below w.heap.size w W) => (hLb ▸ C_take (Kd.C_below (w1 := W) hCb hb) (show q ≤ m by omega) : Kd.C k43 W Ab q Lb))
  obtain ⟨x, hx⟩ : ∃ r, dep La = r := ⟨_, rfl⟩
  obtain ⟨y, hy⟩ : ∃ r, dep Lb = r := ⟨_, rfl⟩
  have HX := Lib.hid hx
  have HY := Lib.hid hy
  have HK := Lib.hid (And.intro hk5 hq5)
  clear hx hy hCa hCb hLa hLb hk5 hq5 h1a h1b
  replace hka := Lib.hid hka
  replace hkb := Lib.hid hkb
  replace hlea := Lib.hid hlea
  replace hleb := Lib.hid hleb
  replace hcapa := Lib.hid hcapa
  replace hcapb := Lib.hid hcapb
  replace hna := Lib.hid hna
  replace hnb := Lib.hid hnb
  have Q0_0 := Lib.hid (blk_alloc (heap_alloc_new w (.cells #[.slice Aa n cA] 24)) (.cells #[.slice Ab m cB] 24))
  have Q1_0 := Lib.hid (blk2 w (.cells #[.slice Aa n cA] 24) #[.slice Ab m cB] 24)
  have HB_0 := Lib.hid (below2 w (.cells #[.slice Aa n cA] 24) (.cells #[.slice Ab m cB] 24))
  have M0_0 := blk_cell Q0_0.out 0 (.slice Aa n cA) rfl
  have M1_0 := blk_cell Q1_0.out 0 (.slice Ab m cB) rfl
  go_enter Try.func5, Try.ntmps5
  go_wp2_with fail
  generalize hW : (w.alloc (.cells #[.slice Aa n cA] 24)).alloc (.cells #[.slice Ab m cB] 24) = v0 at *
  clear hW
  refine (cut_calls Aa cA n k 60 hka.out hlea.out hcapa.out (by decide) _).mono ?_
  -- cut
  rintro e w1 ⟨⟨ca, rfl, hca⟩, hb⟩
  have R_ := below_blk hb Q0_0.out
  have q_ := blk_cell R_ 0 (.slice Aa n cA) rfl
  have f_ := blk_free R_ 0
  have Q0_1 := Lib.hid (set_blk (i := 0) R_ (.slice Aa k ca))
  have Q1_1 := Lib.hid (set_other (c := w.heap.size) (i := 0) (v := (.slice Aa k ca)) (below_blk hb Q1_0.out) (by omega))
  have HB_1 := Lib.hid (CMem.below_set (b := w.heap.size) (i := 0) (below_step HB_0.out hb) (by omega) (.slice Aa k ca))
  have HHa := Lib.hid hca
  clear hb R_ hca HB_0 Q0_0 Q1_0 M0_0 M1_0
  have M0_1 := blk_cell Q0_1.out 0 (.slice Aa k ca) rfl
  have M1_1 := blk_cell Q1_1.out 0 (.slice Ab m cB) rfl
  go_wp2_with fail
  generalize hW : w1.setCell ⟨w.heap.size, 0, none⟩ (.slice Aa k ca) = v1 at *
  clear hW q_ f_
  refine (cut_calls Ab cB m q 60 hkb.out hleb.out hcapb.out (by decide) _).mono ?_
  -- cut
  rintro e w2 ⟨⟨cb, rfl, hcb⟩, hb⟩
  have Q0_2 := Lib.hid (set_other (c := w.heap.size + 1) (i := 0) (v := (.slice Ab q cb)) (below_blk hb Q0_1.out) (by omega))
  have R_ := below_blk hb Q1_1.out
  have q_ := blk_cell R_ 0 (.slice Ab m cB) rfl
  have f_ := blk_free R_ 0
  have Q1_2 := Lib.hid (set_blk (i := 0) R_ (.slice Ab q cb))
  have HB_2 := Lib.hid (CMem.below_set (b := w.heap.size + 1) (i := 0) (below_step HB_1.out hb) (by omega) (.slice Ab q cb))
  have HHb := Lib.hid hcb
  clear hb R_ hcb HB_1 Q0_1 Q1_1 M0_1 M1_1
  have M1_2 := blk_cell Q1_2.out 0 (.slice Ab q cb) rfl
  have M0_2 := blk_cell Q0_2.out 0 (.slice Aa k ca) rfl
  go_wp2_with fail
  generalize hW : w2.setCell ⟨w.heap.size + 1, 0, none⟩ (.slice Ab q cb) = v2 at *
  clear hW q_ f_
  have Ba_2 := Q0_2
  have La_2 := M0_2
  clear Q0_2 M0_2
  have Bb_2 := Q1_2
  have Lb_2 := M1_2
  clear Q1_2 M1_2
  have hZ := Lib.hid (Below.refl v2.heap.size v2)
  refine start_ (n := 6) (S := fun w' => w'.cell? ⟨w.heap.size, 0, none⟩ = some (.slice Aa k ca) ∧ w'.cell? ⟨w.heap.size + 1, 0, none⟩ = some (.slice Ab q cb) ∧ Below v2.heap.size v2 w') (ds := []) #[false, false, false, false, false, false] (by kernel_rfl) rfl rfl ⟨La_2, Lb_2, hZ.out.drew⟩ (fun hHeld => ?_)
  refine take_ (i := 0) (N := some 22) (v := ?_) (a' := ?_) #[true, false, false, false, false, false] rfl rfl (by kernel_rfl) (fun _ _ _ h => h) (Or.inl ⟨by rfl, ?_⟩) hHeld ?_ ?_
  rotate_left
  · rintro w' ⟨s0, s1, s2⟩
    go_simp
    with_reducible rfl
  rotate_left
  · simp only [Act.put, List.setIfInBounds_toArray, List.set_cons_zero, List.set_cons_succ, i64_w, i32_w]
    rfl
  refine take_ (i := 2) (N := some 24) (v := ?_) (a' := ?_) #[true, false, true, false, false, false] rfl rfl (by kernel_rfl) (fun _ _ _ h => h) (Or.inl ⟨by rfl, ?_⟩) hHeld ?_ ?_
  rotate_left
  · rintro w' ⟨s0, s1, s2⟩
    go_simp
    with_reducible rfl
  rotate_left
  · simp only [Act.put, List.setIfInBounds_toArray, List.set_cons_zero, List.set_cons_succ, i64_w, i32_w]
    rfl
  refine one_ (i := 1) (N := some 23) #[true, true, true, false, false, false] rfl rfl (by kernel_rfl) (by decide) (fun K hK => ?_)
  refine goes_ Try.func16 (by kernel_rfl) rfl #[.agg #[.slice Aa k ca]] (by rfl) rfl rfl (by simp only [List.map_toArray, List.map_cons, List.map_nil]; rfl) ?_
  with_reducible refine (deep_tree Aa ca La k x hna.out hk6.out HX.out _ (HCa.out _ (below_step HB_2.out hHeld.2.2))).mono ?_
  rintro e w30 ⟨rfl, hb30⟩
  refine ⟨_, rfl, ?_⟩
  refine hK.out _ _ ⟨(below_of hb30 hHeld.1), (below_of hb30 hHeld.2.1), (below_step hHeld.2.2 hb30)⟩ (fun hHeld => ?_)
  clear hK K
  refine norm_ (a' := ?_) ?_ ?_
  rotate_left
  · show Act.put _ (some 23) _ = _
    simp only [Act.put, List.setIfInBounds_toArray, List.set_cons_zero, List.set_cons_succ, i64_w, i32_w]
    rfl
  refine one_ (i := 3) (N := some 25) #[true, true, true, true, false, false] rfl rfl (by kernel_rfl) (by decide) (fun K hK => ?_)
  refine goes_ Try.func16 (by kernel_rfl) rfl #[.agg #[.slice Ab q cb]] (by rfl) rfl rfl (by simp only [List.map_toArray, List.map_cons, List.map_nil]; rfl) ?_
  with_reducible refine (deep_tree Ab cb Lb q y hnb.out hq6.out HY.out _ (HCb.out _ (below_step HB_2.out hHeld.2.2))).mono ?_
  rintro e w3 ⟨rfl, hb3⟩
  refine ⟨_, rfl, ?_⟩
  refine hK.out _ _ ⟨(below_of hb3 hHeld.1), (below_of hb3 hHeld.2.1), (below_step hHeld.2.2 hb3)⟩ (fun hHeld => ?_)
  clear hK K
  refine norm_ (a' := ?_) ?_ ?_
  rotate_left
  · show Act.put _ (some 25) _ = _
    simp only [Act.put, List.setIfInBounds_toArray, List.set_cons_zero, List.set_cons_succ, i64_w, i32_w]
    rfl
  refine pure_ (i := 4) (N := some 5) (v := ?_) (a' := ?_) #[true, true, true, true, true, false] rfl rfl (by kernel_rfl) (fun _ _ _ h => h) (Or.inl ⟨by rfl, ?_⟩) ?_ ?_
  rotate_left
  · intro w'
    go_simp
    with_reducible rfl
  rotate_left
  · simp only [Act.put, List.setIfInBounds_toArray, List.set_cons_zero, List.set_cons_succ, i64_w, i32_w]
    rfl
  refine pure_ (i := 5) (N := some 6) (v := ?_) (a' := ?_) #[true, true, true, true, true, true] rfl rfl (by kernel_rfl) (fun _ _ _ h => h) (Or.inl ⟨by rfl, ?_⟩) ?_ ?_
  rotate_left
  · intro w'
    go_simp
    with_reducible rfl
  rotate_left
  · simp only [Act.put, List.setIfInBounds_toArray, List.set_cons_zero, List.set_cons_succ, i64_w, i32_w]
    rfl
  refine done_ (by kernel_rfl) ?_
  have hb := below_step (below_step hZ.out.drew hb30) hb3
  clear hHeld hZ hb30 hb3
  have Ba_3 := Lib.hid (below_blk hb Ba_2.out)
  have La_3 := blk_cell Ba_3.out 0 (.slice Aa k ca) rfl
  have Bb_3 := Lib.hid (below_blk hb Bb_2.out)
  have Lb_3 := blk_cell Bb_3.out 0 (.slice Ab q cb) rfl
  have HB_3 := Lib.hid (below_step HB_2.out hb)
  clear hb HB_2 Ba_2 La_2 Bb_2 Lb_2
  obtain ⟨RA, hRA⟩ : ∃ r, rgt La = r := ⟨_, rfl⟩
  replace hRA := Lib.hid hRA
  rcases Decidable.em (x = 0) with hx0 | hx0
  · subst hx0
    go_wp2_with fail
    refine (right_tree Aa ca La k 3 hna.out hk6.out (rgt_zero HX.out) _ (HCa.out _ HB_3.out)).mono ?_
    rintro e w4 ⟨rfl, hb⟩
    have Ba_4 := Lib.hid (below_blk hb Ba_3.out)
    have La_4 := blk_cell Ba_4.out 0 (.slice Aa k ca) rfl
    have Bb_4 := Lib.hid (below_blk hb Bb_3.out)
    have Lb_4 := blk_cell Bb_4.out 0 (.slice Ab q cb) rfl
    have HB_4 := Lib.hid (below_step HB_3.out hb)
    clear hb HB_3 Ba_3 La_3 Bb_3 Lb_3
    go_wp2_with fail
    refine (fixed_calls _).mono ?_
    rintro e w5 ⟨rfl, hb⟩
    have Ba_5 := Lib.hid (below_blk hb Ba_4.out)
    have La_5 := blk_cell Ba_5.out 0 (.slice Aa k ca) rfl
    have Bb_5 := Lib.hid (below_blk hb Bb_4.out)
    have Lb_5 := blk_cell Bb_5.out 0 (.slice Ab q cb) rfl
    have HB_5 := Lib.hid (below_step HB_4.out hb)
    clear hb HB_4 Ba_4 La_4 Bb_4 Lb_4
    go_wp2
    go_ret
    exact ⟨rfl, HB_5.out⟩
  rcases Decidable.em (y = 0) with hy0 | hy0
  · subst hy0
    rcases Decidable.em (RA = 0) with hr0 | hr0
    · subst hr0
      go_wp2_with fail
      refine (right_tree Aa ca La k 0 hna.out hk6.out hRA.out _ (HCa.out _ HB_3.out)).mono ?_
      rintro e w4 ⟨rfl, hb⟩
      have Ba_4 := Lib.hid (below_blk hb Ba_3.out)
      have La_4 := blk_cell Ba_4.out 0 (.slice Aa k ca) rfl
      have Bb_4 := Lib.hid (below_blk hb Bb_3.out)
      have Lb_4 := blk_cell Bb_4.out 0 (.slice Ab q cb) rfl
      have HB_4 := Lib.hid (below_step HB_3.out hb)
      clear hb HB_3 Ba_3 La_3 Bb_3 Lb_3
      go_wp2_with fail
      refine (right_tree Ab cb Lb q 3 hnb.out hq6.out (rgt_zero HY.out) _ (HCb.out _ HB_4.out)).mono ?_
      rintro e w5 ⟨rfl, hb⟩
      have Ba_5 := Lib.hid (below_blk hb Ba_4.out)
      have La_5 := blk_cell Ba_5.out 0 (.slice Aa k ca) rfl
      have Bb_5 := Lib.hid (below_blk hb Bb_4.out)
      have Lb_5 := blk_cell Bb_5.out 0 (.slice Ab q cb) rfl
      have HB_5 := Lib.hid (below_step HB_4.out hb)
      clear hb HB_4 Ba_4 La_4 Bb_4 Lb_4
      go_wp2_with fail
      refine (fixed_calls _).mono ?_
      rintro e w6 ⟨rfl, hb⟩
      have Ba_6 := Lib.hid (below_blk hb Ba_5.out)
      have La_6 := blk_cell Ba_6.out 0 (.slice Aa k ca) rfl
      have Bb_6 := Lib.hid (below_blk hb Bb_5.out)
      have Lb_6 := blk_cell Bb_6.out 0 (.slice Ab q cb) rfl
      have HB_6 := Lib.hid (below_step HB_5.out hb)
      clear hb HB_5 Ba_5 La_5 Bb_5 Lb_5
      go_wp2
      go_ret
      exact ⟨rfl, HB_6.out⟩
    · go_wp2_with fail
      refine (right_tree Aa ca La k RA hna.out hk6.out hRA.out _ (HCa.out _ HB_3.out)).mono ?_
      rintro e w4 ⟨rfl, hb⟩
      have Ba_4 := Lib.hid (below_blk hb Ba_3.out)
      have La_4 := blk_cell Ba_4.out 0 (.slice Aa k ca) rfl
      have Bb_4 := Lib.hid (below_blk hb Bb_3.out)
      have Lb_4 := blk_cell Bb_4.out 0 (.slice Ab q cb) rfl
      have HB_4 := Lib.hid (below_step HB_3.out hb)
      clear hb HB_3 Ba_3 La_3 Bb_3 Lb_3
      go_wp2_with fail
      refine (fixed_calls _).mono ?_
      rintro e w5 ⟨rfl, hb⟩
      have Ba_5 := Lib.hid (below_blk hb Ba_4.out)
      have La_5 := blk_cell Ba_5.out 0 (.slice Aa k ca) rfl
      have Bb_5 := Lib.hid (below_blk hb Bb_4.out)
      have Lb_5 := blk_cell Bb_5.out 0 (.slice Ab q cb) rfl
      have HB_5 := Lib.hid (below_step HB_4.out hb)
      clear hb HB_4 Ba_4 La_4 Bb_4 Lb_4
      go_wp2
      go_ret
      exact ⟨rfl, HB_5.out⟩
  have hxb : (x == 0) = false := by simpa using hx0
  have hyb : (y == 0) = false := by simpa using hy0
  go_wp2_with fail
  clear hxb hyb
  obtain ⟨N, hN⟩ : ∃ r, k + q + 1 = r := ⟨_, rfl⟩
  obtain ⟨N2, hN2⟩ : ∃ r, k + 1 = r := ⟨_, rfl⟩
  obtain ⟨LC, hLC⟩ : ∃ r, La ++ Lb.map (shift k) ++ [⟨8, (k : Int) - 1, (k : Int) + q - 1, z41, 0, 0, 0, 0, false⟩] = r := ⟨_, rfl⟩
  obtain ⟨LW, hLW⟩ : ∃ r, La ++ [⟨17, (k : Int) - 1, 0, ⟨⟨0, 0, 0, 0⟩⟩, 0, 0, 0, 0, false⟩] = r := ⟨_, rfl⟩
  have hnC_ : LC.length = N := by rw [← hLC, ← hN]; simp [hna.out, hnb.out]; omega
  have hnW_ : LW.length = N2 := by rw [← hLW, ← hN2]; simp [hna.out]
  have hmC_ : Hid (N ≤ 1001) := Lib.hid (by have := HK.out; omega)
  have hmW_ : Hid (N2 ≤ 1001) := Lib.hid (by have := HK.out; omega)
  have hnm : Hid (k + q ≤ 999) := Lib.hid (by have := HK.out; omega)
  have hn9 : Hid (k ≤ 999) := Lib.hid (by have := HK.out; omega)
  replace hN := Lib.hid hN
  replace hN2 := Lib.hid hN2
  replace hLC := Lib.hid hLC
  replace hLW := Lib.hid hLW
  replace hnC_ := Lib.hid hnC_
  replace hnW_ := Lib.hid hnW_
  replace hx0 := Lib.hid hx0
  replace hy0 := Lib.hid hy0
  have hZ := Lib.hid (Below.refl w3.heap.size w3)
  refine start_ (n := 10) (S := fun w' => w'.cell? ⟨w.heap.size, 0, none⟩ = some (.slice Aa k ca) ∧ w'.cell? ⟨w.heap.size + 1, 0, none⟩ = some (.slice Ab q cb) ∧ Below w3.heap.size w3 w') (ds := [8, 9]) #[false, false, false, false, false, false, false, false, false, false] (by kernel_rfl) rfl rfl ⟨La_3, Lb_3, hZ.out.drew⟩ (fun hHeld => ?_)
  refine pure_ (i := 4) (N := some 47) (v := ?_) (a' := ?_) #[false, false, false, false, true, false, false, false, false, false] rfl rfl (by kernel_rfl) (fun _ _ _ h => h) (Or.inl ⟨by rfl, ?_⟩) ?_ ?_
  rotate_left
  · intro w'
    go_simp
    with_reducible rfl
  rotate_left
  · simp only [Act.put, List.setIfInBounds_toArray, List.set_cons_zero, List.set_cons_succ, i64_w, i32_w]
    rfl
  refine take_ (i := 0) (N := some 43) (v := ?_) (a' := ?_) #[true, false, false, false, true, false, false, false, false, false] rfl rfl (by kernel_rfl) (fun _ _ _ h => h) (Or.inl ⟨by rfl, ?_⟩) hHeld ?_ ?_
  rotate_left
  · rintro w' ⟨s0, s1, s2⟩
    go_simp
    with_reducible rfl
  rotate_left
  · simp only [Act.put, List.setIfInBounds_toArray, List.set_cons_zero, List.set_cons_succ, i64_w, i32_w]
    rfl
  refine take_ (i := 1) (N := some 44) (v := ?_) (a' := ?_) #[true, true, false, false, true, false, false, false, false, false] rfl rfl (by kernel_rfl) (fun _ _ _ h => h) (Or.inl ⟨by rfl, ?_⟩) hHeld ?_ ?_
  rotate_left
  · rintro w' ⟨s0, s1, s2⟩
    go_simp
    with_reducible rfl
  rotate_left
  · simp only [Act.put, List.setIfInBounds_toArray, List.set_cons_zero, List.set_cons_succ, i64_w, i32_w]
    rfl
  refine take_ (i := 3) (N := some 46) (v := ?_) (a' := ?_) #[true, true, false, true, true, false, false, false, false, false] rfl rfl (by kernel_rfl) (fun _ _ _ h => h) (Or.inl ⟨by rfl, ?_⟩) hHeld ?_ ?_
  rotate_left
  · rintro w' ⟨s0, s1, s2⟩
    go_simp
    with_reducible rfl
  rotate_left
  · simp only [Act.put, List.setIfInBounds_toArray, List.set_cons_zero, List.set_cons_succ, i64_w, i32_w]
    rfl
  refine join_ (σ := Nat × Nat × (Option Addr × Nat) × (Option Addr × Nat)) 2 #[true, true, true, true, true, true, true, true, false, false] (fun s => [(45, .agg #[.slice s.2.2.1.1 N s.2.2.1.2]), (48, .agg #[.slice s.2.2.2.1 N2 s.2.2.2.2]), (7, .pointer (some ⟨s.1, 0, none⟩)), (8, .pointer (some ⟨s.2.1, 0, none⟩))]) (fun s w' => w'.heap[s.1]? = some (.cells #[.slice none 0 0] 24 (0, 0)) ∧ w'.heap[s.2.1]? = some (.cells #[.slice none 0 0] 24 (0, 0)) ∧ w3.heap.size ≤ s.1 ∧ w3.heap.size ≤ s.2.1 ∧ s.1 ≠ s.2.1 ∧ w'.ownsRow w3.heap.size 43 12 (.slice s.2.2.1.1 N s.2.2.1.2) N (ra LC) ∧ w'.ownsRow w3.heap.size 43 12 (.slice s.2.2.2.1 N2 s.2.2.2.2) N2 (ra LW) ∧ N ≤ s.2.2.1.2 ∧ N2 ≤ s.2.2.2.2 ∧ w'.cell? ⟨w.heap.size, 0, none⟩ = some (.slice Aa k ca) ∧ w'.cell? ⟨w.heap.size + 1, 0, none⟩ = some (.slice Ab q cb) ∧ Below w3.heap.size w3 w') ?_ ?_
  rotate_left
  · intro hCont
    refine three_ (i := 2) (j := 6) (k := 7) (Ni := some 45) (Nj := some 7) (Nk := some 8) #[true, true, true, true, true, false, false, false, false, false] #[true, true, false, true, true, false, true, false, false, false] #[true, true, false, true, true, false, false, true, false, false] rfl rfl rfl rfl rfl rfl (by kernel_rfl) (by decide) (by decide) (by decide) (fun K hK => ?_) (fun K hK => ?_) (fun K hK => ?_)
    · skip
      refine goes_ Try.func22 (by kernel_rfl) rfl #[.agg #[.slice Aa k ca], .agg #[.slice Ab q cb], .int .i64 8] (by rfl) rfl rfl (by simp only [List.map_toArray, List.map_cons, List.map_nil]; rfl) ?_
      with_reducible refine (join_own Aa ca La Lb LC k q N hna.out Ab cb hnb.out hnm.out hN.out 8 hLC.out _ (HCa.out _ (below_step HB_3.out hHeld.2.2)) (HCb.out _ (below_step HB_3.out hHeld.2.2))).mono ?_
      rintro e X2 ⟨⟨v_, rfl, hoC⟩, hb2⟩
      refine ⟨_, rfl, ?_⟩
      obtain ⟨AC, cC, rfl, hleC, _⟩ := own_C (n := N) hnC_ hmC_.out hoC
      replace hoC := own_weaken hoC (hHeld.2.2).size
      refine hK.out _ _ ⟨(below_of hb2 hHeld.1), (below_of hb2 hHeld.2.1), (below_step hHeld.2.2 hb2)⟩ (fun hHeld => ?_)
      clear hK K
      refine norm_ (a' := ?_) ?_ ?_
      rotate_left
      · show Act.put _ (some 45) _ = _
        simp only [Act.put, List.setIfInBounds_toArray, List.set_cons_zero, List.set_cons_succ, i64_w, i32_w]
        rfl
      refine three_ (i := 5) (j := 6) (k := 7) (Ni := some 48) (Nj := some 7) (Nk := some 8) #[true, true, true, true, true, true, false, false, false, false] #[true, true, true, true, true, false, true, false, false, false] #[true, true, true, true, true, false, false, true, false, false] rfl rfl rfl rfl rfl rfl (by kernel_rfl) (by decide) (by decide) (by decide) (fun K hK => ?_) (fun K hK => ?_) (fun K hK => ?_)
      · skip
        refine goes_ Try.func21 (by kernel_rfl) rfl #[.agg #[.slice Aa k ca], .agg #[.int .i64 17, .int .i64 0, .int .i64 0, .int .u64 0, .int .u64 0, .int .u64 0, .int .u64 0, .int .i64 0, .int .i64 0, .int .i64 0, .int .i64 0, .bool false]] (by rfl) rfl rfl (by simp only [List.map_toArray, List.map_cons, List.map_nil]; rfl) ?_
        with_reducible refine (wrap_own Aa ca La LW k N2 hna.out hn9.out hN2.out 17 0 0 0 0 0 0 0 0 0 0 false hLW.out _ (HCa.out _ (below_step HB_3.out hHeld.2.2))).mono ?_
        rintro e X5 ⟨⟨v_, rfl, hoW⟩, hb5⟩
        refine ⟨_, rfl, ?_⟩
        obtain ⟨AW, cW, rfl, hleW, _⟩ := own_C (n := N2) hnW_ hmW_.out hoW
        replace hoW := own_weaken hoW (hHeld.2.2).size
        replace hoC := own_below hoC hb5
        refine hK.out _ _ ⟨(below_of hb5 hHeld.1), (below_of hb5 hHeld.2.1), (below_step hHeld.2.2 hb5)⟩ (fun hHeld => ?_)
        clear hK K
        refine norm_ (a' := ?_) ?_ ?_
        rotate_left
        · show Act.put _ (some 48) _ = _
          simp only [Act.put, List.setIfInBounds_toArray, List.set_cons_zero, List.set_cons_succ, i64_w, i32_w]
          rfl
        refine two_ (i := 6) (j := 7) (Ni := some 7) (Nj := some 8) #[true, true, true, true, true, true, true, false, false, false] #[true, true, true, true, true, true, false, true, false, false] rfl rfl rfl rfl (by kernel_rfl) (by decide) (by decide) (fun K hK => ?_) (fun K hK => ?_)
        · skip
          refine value_ (w1 := ?_) (v := ?_) (by rfl) rfl ?_ ?_
          rotate_left 2
          · go_simp
            constructor
            · rfl
            · rfl
          refine letter_ ?_
          intro X6 hW
          have hb6 : Below X5.heap.size X5 X6 := by rw [hW]; exact below1 _ _
          have RC : X6.heap[X5.heap.size]? = some (.cells #[.slice none 0 0] 24 (0, 0)) := by rw [hW]; exact heap_alloc_new _ _
          have leC := (hHeld.2.2).size
          clear hW
          replace hoC := own_below hoC hb6
          replace hoW := own_below hoW hb6
          refine hK.out _ _ ⟨(below_of hb6 hHeld.1), (below_of hb6 hHeld.2.1), (below_step hHeld.2.2 hb6)⟩ (fun hHeld => ?_)
          clear hK K
          refine norm_ (a' := ?_) ?_ ?_
          rotate_left
          · show Act.put _ (some 7) _ = _
            simp only [Act.put, List.setIfInBounds_toArray, List.set_cons_zero, List.set_cons_succ, i64_w, i32_w]
            rfl
          refine one_ (i := 7) (N := some 8) #[true, true, true, true, true, true, true, true, false, false] rfl rfl (by kernel_rfl) (by decide) (fun K hK => ?_)
          refine value_ (w1 := ?_) (v := ?_) (by rfl) rfl ?_ ?_
          rotate_left 2
          · go_simp
            constructor
            · rfl
            · rfl
          refine letter_ ?_
          intro X7 hW
          have hb7 : Below X6.heap.size X6 X7 := by rw [hW]; exact below1 _ _
          have RW : X7.heap[X6.heap.size]? = some (.cells #[.slice none 0 0] 24 (0, 0)) := by rw [hW]; exact heap_alloc_new _ _
          have leW := (hHeld.2.2).size
          have neC_W := Nat.ne_of_lt (lt_of_blk RC)
          clear hW
          replace hoC := own_below hoC hb7
          replace hoW := own_below hoW hb7
          replace RC := below_blk hb7 RC
          refine hK.out _ _ ⟨(below_of hb7 hHeld.1), (below_of hb7 hHeld.2.1), (below_step hHeld.2.2 hb7)⟩ (fun hHeld => ?_)
          clear hK K
          refine norm_ (a' := ?_) ?_ ?_
          rotate_left
          · show Act.put _ (some 8) _ = _
            simp only [Act.put, List.setIfInBounds_toArray, List.set_cons_zero, List.set_cons_succ, i64_w, i32_w]
            rfl
          exact norm_ (by simp only [putAll, Act.put, List.setIfInBounds_toArray, List.set_cons_zero, List.set_cons_succ]) (hCont (X5.heap.size, X6.heap.size, (AC, cC), (AW, cW)) _ ⟨RC, RW, leC, leW, neC_W, hoC, hoW, hleC, hleW, hHeld⟩)
        · skip
          refine value_ (w1 := ?_) (v := ?_) (by rfl) rfl ?_ ?_
          rotate_left 2
          · go_simp
            constructor
            · rfl
            · rfl
          refine letter_ ?_
          intro X7 hW
          have hb7 : Below X5.heap.size X5 X7 := by rw [hW]; exact below1 _ _
          have RW : X7.heap[X5.heap.size]? = some (.cells #[.slice none 0 0] 24 (0, 0)) := by rw [hW]; exact heap_alloc_new _ _
          have leW := (hHeld.2.2).size
          clear hW
          replace hoC := own_below hoC hb7
          replace hoW := own_below hoW hb7
          refine hK.out _ _ ⟨(below_of hb7 hHeld.1), (below_of hb7 hHeld.2.1), (below_step hHeld.2.2 hb7)⟩ (fun hHeld => ?_)
          clear hK K
          refine norm_ (a' := ?_) ?_ ?_
          rotate_left
          · show Act.put _ (some 8) _ = _
            simp only [Act.put, List.setIfInBounds_toArray, List.set_cons_zero, List.set_cons_succ, i64_w, i32_w]
            rfl
          refine one_ (i := 6) (N := some 7) #[true, true, true, true, true, true, true, true, false, false] rfl rfl (by kernel_rfl) (by decide) (fun K hK => ?_)
          refine value_ (w1 := ?_) (v := ?_) (by rfl) rfl ?_ ?_
          rotate_left 2
          · go_simp
            constructor
            · rfl
            · rfl
          refine letter_ ?_
          intro X6 hW
          have hb6 : Below X7.heap.size X7 X6 := by rw [hW]; exact below1 _ _
          have RC : X6.heap[X7.heap.size]? = some (.cells #[.slice none 0 0] 24 (0, 0)) := by rw [hW]; exact heap_alloc_new _ _
          have leC := (hHeld.2.2).size
          have neW_C := Nat.ne_of_lt (lt_of_blk RW)
          clear hW
          replace hoC := own_below hoC hb6
          replace hoW := own_below hoW hb6
          replace RW := below_blk hb6 RW
          refine hK.out _ _ ⟨(below_of hb6 hHeld.1), (below_of hb6 hHeld.2.1), (below_step hHeld.2.2 hb6)⟩ (fun hHeld => ?_)
          clear hK K
          refine norm_ (a' := ?_) ?_ ?_
          rotate_left
          · show Act.put _ (some 7) _ = _
            simp only [Act.put, List.setIfInBounds_toArray, List.set_cons_zero, List.set_cons_succ, i64_w, i32_w]
            rfl
          exact norm_ (by simp only [putAll, Act.put, List.setIfInBounds_toArray, List.set_cons_zero, List.set_cons_succ]) (hCont (X7.heap.size, X5.heap.size, (AC, cC), (AW, cW)) _ ⟨RC, RW, leC, leW, neW_C.symm, hoC, hoW, hleC, hleW, hHeld⟩)
      · skip
        refine value_ (w1 := ?_) (v := ?_) (by rfl) rfl ?_ ?_
        rotate_left 2
        · go_simp
          constructor
          · rfl
          · rfl
        refine letter_ ?_
        intro X6 hW
        have hb6 : Below X2.heap.size X2 X6 := by rw [hW]; exact below1 _ _
        have RC : X6.heap[X2.heap.size]? = some (.cells #[.slice none 0 0] 24 (0, 0)) := by rw [hW]; exact heap_alloc_new _ _
        have leC := (hHeld.2.2).size
        clear hW
        replace hoC := own_below hoC hb6
        refine hK.out _ _ ⟨(below_of hb6 hHeld.1), (below_of hb6 hHeld.2.1), (below_step hHeld.2.2 hb6)⟩ (fun hHeld => ?_)
        clear hK K
        refine norm_ (a' := ?_) ?_ ?_
        rotate_left
        · show Act.put _ (some 7) _ = _
          simp only [Act.put, List.setIfInBounds_toArray, List.set_cons_zero, List.set_cons_succ, i64_w, i32_w]
          rfl
        refine two_ (i := 5) (j := 7) (Ni := some 48) (Nj := some 8) #[true, true, true, true, true, true, true, false, false, false] #[true, true, true, true, true, false, true, true, false, false] rfl rfl rfl rfl (by kernel_rfl) (by decide) (by decide) (fun K hK => ?_) (fun K hK => ?_)
        · skip
          refine goes_ Try.func21 (by kernel_rfl) rfl #[.agg #[.slice Aa k ca], .agg #[.int .i64 17, .int .i64 0, .int .i64 0, .int .u64 0, .int .u64 0, .int .u64 0, .int .u64 0, .int .i64 0, .int .i64 0, .int .i64 0, .int .i64 0, .bool false]] (by rfl) rfl rfl (by simp only [List.map_toArray, List.map_cons, List.map_nil]; rfl) ?_
          with_reducible refine (wrap_own Aa ca La LW k N2 hna.out hn9.out hN2.out 17 0 0 0 0 0 0 0 0 0 0 false hLW.out _ (HCa.out _ (below_step HB_3.out hHeld.2.2))).mono ?_
          rintro e X5 ⟨⟨v_, rfl, hoW⟩, hb5⟩
          refine ⟨_, rfl, ?_⟩
          obtain ⟨AW, cW, rfl, hleW, _⟩ := own_C (n := N2) hnW_ hmW_.out hoW
          replace hoW := own_weaken hoW (hHeld.2.2).size
          replace hoC := own_below hoC hb5
          replace RC := below_blk hb5 RC
          refine hK.out _ _ ⟨(below_of hb5 hHeld.1), (below_of hb5 hHeld.2.1), (below_step hHeld.2.2 hb5)⟩ (fun hHeld => ?_)
          clear hK K
          refine norm_ (a' := ?_) ?_ ?_
          rotate_left
          · show Act.put _ (some 48) _ = _
            simp only [Act.put, List.setIfInBounds_toArray, List.set_cons_zero, List.set_cons_succ, i64_w, i32_w]
            rfl
          refine one_ (i := 7) (N := some 8) #[true, true, true, true, true, true, true, true, false, false] rfl rfl (by kernel_rfl) (by decide) (fun K hK => ?_)
          refine value_ (w1 := ?_) (v := ?_) (by rfl) rfl ?_ ?_
          rotate_left 2
          · go_simp
            constructor
            · rfl
            · rfl
          refine letter_ ?_
          intro X7 hW
          have hb7 : Below X5.heap.size X5 X7 := by rw [hW]; exact below1 _ _
          have RW : X7.heap[X5.heap.size]? = some (.cells #[.slice none 0 0] 24 (0, 0)) := by rw [hW]; exact heap_alloc_new _ _
          have leW := (hHeld.2.2).size
          have neC_W := Nat.ne_of_lt (lt_of_blk RC)
          clear hW
          replace hoC := own_below hoC hb7
          replace RC := below_blk hb7 RC
          replace hoW := own_below hoW hb7
          refine hK.out _ _ ⟨(below_of hb7 hHeld.1), (below_of hb7 hHeld.2.1), (below_step hHeld.2.2 hb7)⟩ (fun hHeld => ?_)
          clear hK K
          refine norm_ (a' := ?_) ?_ ?_
          rotate_left
          · show Act.put _ (some 8) _ = _
            simp only [Act.put, List.setIfInBounds_toArray, List.set_cons_zero, List.set_cons_succ, i64_w, i32_w]
            rfl
          exact norm_ (by simp only [putAll, Act.put, List.setIfInBounds_toArray, List.set_cons_zero, List.set_cons_succ]) (hCont (X2.heap.size, X5.heap.size, (AC, cC), (AW, cW)) _ ⟨RC, RW, leC, leW, neC_W, hoC, hoW, hleC, hleW, hHeld⟩)
        · skip
          refine value_ (w1 := ?_) (v := ?_) (by rfl) rfl ?_ ?_
          rotate_left 2
          · go_simp
            constructor
            · rfl
            · rfl
          refine letter_ ?_
          intro X7 hW
          have hb7 : Below X6.heap.size X6 X7 := by rw [hW]; exact below1 _ _
          have RW : X7.heap[X6.heap.size]? = some (.cells #[.slice none 0 0] 24 (0, 0)) := by rw [hW]; exact heap_alloc_new _ _
          have leW := (hHeld.2.2).size
          have neC_W := Nat.ne_of_lt (lt_of_blk RC)
          clear hW
          replace hoC := own_below hoC hb7
          replace RC := below_blk hb7 RC
          refine hK.out _ _ ⟨(below_of hb7 hHeld.1), (below_of hb7 hHeld.2.1), (below_step hHeld.2.2 hb7)⟩ (fun hHeld => ?_)
          clear hK K
          refine norm_ (a' := ?_) ?_ ?_
          rotate_left
          · show Act.put _ (some 8) _ = _
            simp only [Act.put, List.setIfInBounds_toArray, List.set_cons_zero, List.set_cons_succ, i64_w, i32_w]
            rfl
          refine one_ (i := 5) (N := some 48) #[true, true, true, true, true, true, true, true, false, false] rfl rfl (by kernel_rfl) (by decide) (fun K hK => ?_)
          refine goes_ Try.func21 (by kernel_rfl) rfl #[.agg #[.slice Aa k ca], .agg #[.int .i64 17, .int .i64 0, .int .i64 0, .int .u64 0, .int .u64 0, .int .u64 0, .int .u64 0, .int .i64 0, .int .i64 0, .int .i64 0, .int .i64 0, .bool false]] (by rfl) rfl rfl (by simp only [List.map_toArray, List.map_cons, List.map_nil]; rfl) ?_
          with_reducible refine (wrap_own Aa ca La LW k N2 hna.out hn9.out hN2.out 17 0 0 0 0 0 0 0 0 0 0 false hLW.out _ (HCa.out _ (below_step HB_3.out hHeld.2.2))).mono ?_
          rintro e X5 ⟨⟨v_, rfl, hoW⟩, hb5⟩
          refine ⟨_, rfl, ?_⟩
          obtain ⟨AW, cW, rfl, hleW, _⟩ := own_C (n := N2) hnW_ hmW_.out hoW
          replace hoW := own_weaken hoW (hHeld.2.2).size
          replace hoC := own_below hoC hb5
          replace RC := below_blk hb5 RC
          replace RW := below_blk hb5 RW
          refine hK.out _ _ ⟨(below_of hb5 hHeld.1), (below_of hb5 hHeld.2.1), (below_step hHeld.2.2 hb5)⟩ (fun hHeld => ?_)
          clear hK K
          refine norm_ (a' := ?_) ?_ ?_
          rotate_left
          · show Act.put _ (some 48) _ = _
            simp only [Act.put, List.setIfInBounds_toArray, List.set_cons_zero, List.set_cons_succ, i64_w, i32_w]
            rfl
          exact norm_ (by simp only [putAll, Act.put, List.setIfInBounds_toArray, List.set_cons_zero, List.set_cons_succ]) (hCont (X2.heap.size, X6.heap.size, (AC, cC), (AW, cW)) _ ⟨RC, RW, leC, leW, neC_W, hoC, hoW, hleC, hleW, hHeld⟩)
      · skip
        refine value_ (w1 := ?_) (v := ?_) (by rfl) rfl ?_ ?_
        rotate_left 2
        · go_simp
          constructor
          · rfl
          · rfl
        refine letter_ ?_
        intro X7 hW
        have hb7 : Below X2.heap.size X2 X7 := by rw [hW]; exact below1 _ _
        have RW : X7.heap[X2.heap.size]? = some (.cells #[.slice none 0 0] 24 (0, 0)) := by rw [hW]; exact heap_alloc_new _ _
        have leW := (hHeld.2.2).size
        clear hW
        replace hoC := own_below hoC hb7
        refine hK.out _ _ ⟨(below_of hb7 hHeld.1), (below_of hb7 hHeld.2.1), (below_step hHeld.2.2 hb7)⟩ (fun hHeld => ?_)
        clear hK K
        refine norm_ (a' := ?_) ?_ ?_
        rotate_left
        · show Act.put _ (some 8) _ = _
          simp only [Act.put, List.setIfInBounds_toArray, List.set_cons_zero, List.set_cons_succ, i64_w, i32_w]
          rfl
        refine two_ (i := 5) (j := 6) (Ni := some 48) (Nj := some 7) #[true, true, true, true, true, true, false, true, false, false] #[true, true, true, true, true, false, true, true, false, false] rfl rfl rfl rfl (by kernel_rfl) (by decide) (by decide) (fun K hK => ?_) (fun K hK => ?_)
        · skip
          refine goes_ Try.func21 (by kernel_rfl) rfl #[.agg #[.slice Aa k ca], .agg #[.int .i64 17, .int .i64 0, .int .i64 0, .int .u64 0, .int .u64 0, .int .u64 0, .int .u64 0, .int .i64 0, .int .i64 0, .int .i64 0, .int .i64 0, .bool false]] (by rfl) rfl rfl (by simp only [List.map_toArray, List.map_cons, List.map_nil]; rfl) ?_
          with_reducible refine (wrap_own Aa ca La LW k N2 hna.out hn9.out hN2.out 17 0 0 0 0 0 0 0 0 0 0 false hLW.out _ (HCa.out _ (below_step HB_3.out hHeld.2.2))).mono ?_
          rintro e X5 ⟨⟨v_, rfl, hoW⟩, hb5⟩
          refine ⟨_, rfl, ?_⟩
          obtain ⟨AW, cW, rfl, hleW, _⟩ := own_C (n := N2) hnW_ hmW_.out hoW
          replace hoW := own_weaken hoW (hHeld.2.2).size
          replace hoC := own_below hoC hb5
          replace RW := below_blk hb5 RW
          refine hK.out _ _ ⟨(below_of hb5 hHeld.1), (below_of hb5 hHeld.2.1), (below_step hHeld.2.2 hb5)⟩ (fun hHeld => ?_)
          clear hK K
          refine norm_ (a' := ?_) ?_ ?_
          rotate_left
          · show Act.put _ (some 48) _ = _
            simp only [Act.put, List.setIfInBounds_toArray, List.set_cons_zero, List.set_cons_succ, i64_w, i32_w]
            rfl
          refine one_ (i := 6) (N := some 7) #[true, true, true, true, true, true, true, true, false, false] rfl rfl (by kernel_rfl) (by decide) (fun K hK => ?_)
          refine value_ (w1 := ?_) (v := ?_) (by rfl) rfl ?_ ?_
          rotate_left 2
          · go_simp
            constructor
            · rfl
            · rfl
          refine letter_ ?_
          intro X6 hW
          have hb6 : Below X5.heap.size X5 X6 := by rw [hW]; exact below1 _ _
          have RC : X6.heap[X5.heap.size]? = some (.cells #[.slice none 0 0] 24 (0, 0)) := by rw [hW]; exact heap_alloc_new _ _
          have leC := (hHeld.2.2).size
          have neW_C := Nat.ne_of_lt (lt_of_blk RW)
          clear hW
          replace hoC := own_below hoC hb6
          replace RW := below_blk hb6 RW
          replace hoW := own_below hoW hb6
          refine hK.out _ _ ⟨(below_of hb6 hHeld.1), (below_of hb6 hHeld.2.1), (below_step hHeld.2.2 hb6)⟩ (fun hHeld => ?_)
          clear hK K
          refine norm_ (a' := ?_) ?_ ?_
          rotate_left
          · show Act.put _ (some 7) _ = _
            simp only [Act.put, List.setIfInBounds_toArray, List.set_cons_zero, List.set_cons_succ, i64_w, i32_w]
            rfl
          exact norm_ (by simp only [putAll, Act.put, List.setIfInBounds_toArray, List.set_cons_zero, List.set_cons_succ]) (hCont (X5.heap.size, X2.heap.size, (AC, cC), (AW, cW)) _ ⟨RC, RW, leC, leW, neW_C.symm, hoC, hoW, hleC, hleW, hHeld⟩)
        · skip
          refine value_ (w1 := ?_) (v := ?_) (by rfl) rfl ?_ ?_
          rotate_left 2
          · go_simp
            constructor
            · rfl
            · rfl
          refine letter_ ?_
          intro X6 hW
          have hb6 : Below X7.heap.size X7 X6 := by rw [hW]; exact below1 _ _
          have RC : X6.heap[X7.heap.size]? = some (.cells #[.slice none 0 0] 24 (0, 0)) := by rw [hW]; exact heap_alloc_new _ _
          have leC := (hHeld.2.2).size
          have neW_C := Nat.ne_of_lt (lt_of_blk RW)
          clear hW
          replace hoC := own_below hoC hb6
          replace RW := below_blk hb6 RW
          refine hK.out _ _ ⟨(below_of hb6 hHeld.1), (below_of hb6 hHeld.2.1), (below_step hHeld.2.2 hb6)⟩ (fun hHeld => ?_)
          clear hK K
          refine norm_ (a' := ?_) ?_ ?_
          rotate_left
          · show Act.put _ (some 7) _ = _
            simp only [Act.put, List.setIfInBounds_toArray, List.set_cons_zero, List.set_cons_succ, i64_w, i32_w]
            rfl
          refine one_ (i := 5) (N := some 48) #[true, true, true, true, true, true, true, true, false, false] rfl rfl (by kernel_rfl) (by decide) (fun K hK => ?_)
          refine goes_ Try.func21 (by kernel_rfl) rfl #[.agg #[.slice Aa k ca], .agg #[.int .i64 17, .int .i64 0, .int .i64 0, .int .u64 0, .int .u64 0, .int .u64 0, .int .u64 0, .int .i64 0, .int .i64 0, .int .i64 0, .int .i64 0, .bool false]] (by rfl) rfl rfl (by simp only [List.map_toArray, List.map_cons, List.map_nil]; rfl) ?_
          with_reducible refine (wrap_own Aa ca La LW k N2 hna.out hn9.out hN2.out 17 0 0 0 0 0 0 0 0 0 0 false hLW.out _ (HCa.out _ (below_step HB_3.out hHeld.2.2))).mono ?_
          rintro e X5 ⟨⟨v_, rfl, hoW⟩, hb5⟩
          refine ⟨_, rfl, ?_⟩
          obtain ⟨AW, cW, rfl, hleW, _⟩ := own_C (n := N2) hnW_ hmW_.out hoW
          replace hoW := own_weaken hoW (hHeld.2.2).size
          replace hoC := own_below hoC hb5
          replace RW := below_blk hb5 RW
          replace RC := below_blk hb5 RC
          refine hK.out _ _ ⟨(below_of hb5 hHeld.1), (below_of hb5 hHeld.2.1), (below_step hHeld.2.2 hb5)⟩ (fun hHeld => ?_)
          clear hK K
          refine norm_ (a' := ?_) ?_ ?_
          rotate_left
          · show Act.put _ (some 48) _ = _
            simp only [Act.put, List.setIfInBounds_toArray, List.set_cons_zero, List.set_cons_succ, i64_w, i32_w]
            rfl
          exact norm_ (by simp only [putAll, Act.put, List.setIfInBounds_toArray, List.set_cons_zero, List.set_cons_succ]) (hCont (X7.heap.size, X2.heap.size, (AC, cC), (AW, cW)) _ ⟨RC, RW, leC, leW, neW_C.symm, hoC, hoW, hleC, hleW, hHeld⟩)
    · skip
      refine value_ (w1 := ?_) (v := ?_) (by rfl) rfl ?_ ?_
      rotate_left 2
      · go_simp
        constructor
        · rfl
        · rfl
      refine letter_ ?_
      intro X6 hW
      have hb6 : Below w3.drew.heap.size w3.drew X6 := by rw [hW]; exact below1 _ _
      have RC : X6.heap[w3.drew.heap.size]? = some (.cells #[.slice none 0 0] 24 (0, 0)) := by rw [hW]; exact heap_alloc_new _ _
      have leC := (hHeld.2.2).size
      clear hW
      refine hK.out _ _ ⟨(below_of hb6 hHeld.1), (below_of hb6 hHeld.2.1), (below_step hHeld.2.2 hb6)⟩ (fun hHeld => ?_)
      clear hK K
      refine norm_ (a' := ?_) ?_ ?_
      rotate_left
      · show Act.put _ (some 7) _ = _
        simp only [Act.put, List.setIfInBounds_toArray, List.set_cons_zero, List.set_cons_succ, i64_w, i32_w]
        rfl
      refine two_ (i := 2) (j := 7) (Ni := some 45) (Nj := some 8) #[true, true, true, true, true, false, true, false, false, false] #[true, true, false, true, true, false, true, true, false, false] rfl rfl rfl rfl (by kernel_rfl) (by decide) (by decide) (fun K hK => ?_) (fun K hK => ?_)
      · skip
        refine goes_ Try.func22 (by kernel_rfl) rfl #[.agg #[.slice Aa k ca], .agg #[.slice Ab q cb], .int .i64 8] (by rfl) rfl rfl (by simp only [List.map_toArray, List.map_cons, List.map_nil]; rfl) ?_
        with_reducible refine (join_own Aa ca La Lb LC k q N hna.out Ab cb hnb.out hnm.out hN.out 8 hLC.out _ (HCa.out _ (below_step HB_3.out hHeld.2.2)) (HCb.out _ (below_step HB_3.out hHeld.2.2))).mono ?_
        rintro e X2 ⟨⟨v_, rfl, hoC⟩, hb2⟩
        refine ⟨_, rfl, ?_⟩
        obtain ⟨AC, cC, rfl, hleC, _⟩ := own_C (n := N) hnC_ hmC_.out hoC
        replace hoC := own_weaken hoC (hHeld.2.2).size
        replace RC := below_blk hb2 RC
        refine hK.out _ _ ⟨(below_of hb2 hHeld.1), (below_of hb2 hHeld.2.1), (below_step hHeld.2.2 hb2)⟩ (fun hHeld => ?_)
        clear hK K
        refine norm_ (a' := ?_) ?_ ?_
        rotate_left
        · show Act.put _ (some 45) _ = _
          simp only [Act.put, List.setIfInBounds_toArray, List.set_cons_zero, List.set_cons_succ, i64_w, i32_w]
          rfl
        refine two_ (i := 5) (j := 7) (Ni := some 48) (Nj := some 8) #[true, true, true, true, true, true, true, false, false, false] #[true, true, true, true, true, false, true, true, false, false] rfl rfl rfl rfl (by kernel_rfl) (by decide) (by decide) (fun K hK => ?_) (fun K hK => ?_)
        · skip
          refine goes_ Try.func21 (by kernel_rfl) rfl #[.agg #[.slice Aa k ca], .agg #[.int .i64 17, .int .i64 0, .int .i64 0, .int .u64 0, .int .u64 0, .int .u64 0, .int .u64 0, .int .i64 0, .int .i64 0, .int .i64 0, .int .i64 0, .bool false]] (by rfl) rfl rfl (by simp only [List.map_toArray, List.map_cons, List.map_nil]; rfl) ?_
          with_reducible refine (wrap_own Aa ca La LW k N2 hna.out hn9.out hN2.out 17 0 0 0 0 0 0 0 0 0 0 false hLW.out _ (HCa.out _ (below_step HB_3.out hHeld.2.2))).mono ?_
          rintro e X5 ⟨⟨v_, rfl, hoW⟩, hb5⟩
          refine ⟨_, rfl, ?_⟩
          obtain ⟨AW, cW, rfl, hleW, _⟩ := own_C (n := N2) hnW_ hmW_.out hoW
          replace hoW := own_weaken hoW (hHeld.2.2).size
          replace RC := below_blk hb5 RC
          replace hoC := own_below hoC hb5
          refine hK.out _ _ ⟨(below_of hb5 hHeld.1), (below_of hb5 hHeld.2.1), (below_step hHeld.2.2 hb5)⟩ (fun hHeld => ?_)
          clear hK K
          refine norm_ (a' := ?_) ?_ ?_
          rotate_left
          · show Act.put _ (some 48) _ = _
            simp only [Act.put, List.setIfInBounds_toArray, List.set_cons_zero, List.set_cons_succ, i64_w, i32_w]
            rfl
          refine one_ (i := 7) (N := some 8) #[true, true, true, true, true, true, true, true, false, false] rfl rfl (by kernel_rfl) (by decide) (fun K hK => ?_)
          refine value_ (w1 := ?_) (v := ?_) (by rfl) rfl ?_ ?_
          rotate_left 2
          · go_simp
            constructor
            · rfl
            · rfl
          refine letter_ ?_
          intro X7 hW
          have hb7 : Below X5.heap.size X5 X7 := by rw [hW]; exact below1 _ _
          have RW : X7.heap[X5.heap.size]? = some (.cells #[.slice none 0 0] 24 (0, 0)) := by rw [hW]; exact heap_alloc_new _ _
          have leW := (hHeld.2.2).size
          have neC_W := Nat.ne_of_lt (lt_of_blk RC)
          clear hW
          replace RC := below_blk hb7 RC
          replace hoC := own_below hoC hb7
          replace hoW := own_below hoW hb7
          refine hK.out _ _ ⟨(below_of hb7 hHeld.1), (below_of hb7 hHeld.2.1), (below_step hHeld.2.2 hb7)⟩ (fun hHeld => ?_)
          clear hK K
          refine norm_ (a' := ?_) ?_ ?_
          rotate_left
          · show Act.put _ (some 8) _ = _
            simp only [Act.put, List.setIfInBounds_toArray, List.set_cons_zero, List.set_cons_succ, i64_w, i32_w]
            rfl
          exact norm_ (by simp only [putAll, Act.put, List.setIfInBounds_toArray, List.set_cons_zero, List.set_cons_succ]) (hCont (w3.heap.size, X5.heap.size, (AC, cC), (AW, cW)) _ ⟨RC, RW, leC, leW, neC_W, hoC, hoW, hleC, hleW, hHeld⟩)
        · skip
          refine value_ (w1 := ?_) (v := ?_) (by rfl) rfl ?_ ?_
          rotate_left 2
          · go_simp
            constructor
            · rfl
            · rfl
          refine letter_ ?_
          intro X7 hW
          have hb7 : Below X2.heap.size X2 X7 := by rw [hW]; exact below1 _ _
          have RW : X7.heap[X2.heap.size]? = some (.cells #[.slice none 0 0] 24 (0, 0)) := by rw [hW]; exact heap_alloc_new _ _
          have leW := (hHeld.2.2).size
          have neC_W := Nat.ne_of_lt (lt_of_blk RC)
          clear hW
          replace RC := below_blk hb7 RC
          replace hoC := own_below hoC hb7
          refine hK.out _ _ ⟨(below_of hb7 hHeld.1), (below_of hb7 hHeld.2.1), (below_step hHeld.2.2 hb7)⟩ (fun hHeld => ?_)
          clear hK K
          refine norm_ (a' := ?_) ?_ ?_
          rotate_left
          · show Act.put _ (some 8) _ = _
            simp only [Act.put, List.setIfInBounds_toArray, List.set_cons_zero, List.set_cons_succ, i64_w, i32_w]
            rfl
          refine one_ (i := 5) (N := some 48) #[true, true, true, true, true, true, true, true, false, false] rfl rfl (by kernel_rfl) (by decide) (fun K hK => ?_)
          refine goes_ Try.func21 (by kernel_rfl) rfl #[.agg #[.slice Aa k ca], .agg #[.int .i64 17, .int .i64 0, .int .i64 0, .int .u64 0, .int .u64 0, .int .u64 0, .int .u64 0, .int .i64 0, .int .i64 0, .int .i64 0, .int .i64 0, .bool false]] (by rfl) rfl rfl (by simp only [List.map_toArray, List.map_cons, List.map_nil]; rfl) ?_
          with_reducible refine (wrap_own Aa ca La LW k N2 hna.out hn9.out hN2.out 17 0 0 0 0 0 0 0 0 0 0 false hLW.out _ (HCa.out _ (below_step HB_3.out hHeld.2.2))).mono ?_
          rintro e X5 ⟨⟨v_, rfl, hoW⟩, hb5⟩
          refine ⟨_, rfl, ?_⟩
          obtain ⟨AW, cW, rfl, hleW, _⟩ := own_C (n := N2) hnW_ hmW_.out hoW
          replace hoW := own_weaken hoW (hHeld.2.2).size
          replace RC := below_blk hb5 RC
          replace hoC := own_below hoC hb5
          replace RW := below_blk hb5 RW
          refine hK.out _ _ ⟨(below_of hb5 hHeld.1), (below_of hb5 hHeld.2.1), (below_step hHeld.2.2 hb5)⟩ (fun hHeld => ?_)
          clear hK K
          refine norm_ (a' := ?_) ?_ ?_
          rotate_left
          · show Act.put _ (some 48) _ = _
            simp only [Act.put, List.setIfInBounds_toArray, List.set_cons_zero, List.set_cons_succ, i64_w, i32_w]
            rfl
          exact norm_ (by simp only [putAll, Act.put, List.setIfInBounds_toArray, List.set_cons_zero, List.set_cons_succ]) (hCont (w3.heap.size, X2.heap.size, (AC, cC), (AW, cW)) _ ⟨RC, RW, leC, leW, neC_W, hoC, hoW, hleC, hleW, hHeld⟩)
      · skip
        refine value_ (w1 := ?_) (v := ?_) (by rfl) rfl ?_ ?_
        rotate_left 2
        · go_simp
          constructor
          · rfl
          · rfl
        refine letter_ ?_
        intro X7 hW
        have hb7 : Below X6.heap.size X6 X7 := by rw [hW]; exact below1 _ _
        have RW : X7.heap[X6.heap.size]? = some (.cells #[.slice none 0 0] 24 (0, 0)) := by rw [hW]; exact heap_alloc_new _ _
        have leW := (hHeld.2.2).size
        have neC_W := Nat.ne_of_lt (lt_of_blk RC)
        clear hW
        replace RC := below_blk hb7 RC
        refine hK.out _ _ ⟨(below_of hb7 hHeld.1), (below_of hb7 hHeld.2.1), (below_step hHeld.2.2 hb7)⟩ (fun hHeld => ?_)
        clear hK K
        refine norm_ (a' := ?_) ?_ ?_
        rotate_left
        · show Act.put _ (some 8) _ = _
          simp only [Act.put, List.setIfInBounds_toArray, List.set_cons_zero, List.set_cons_succ, i64_w, i32_w]
          rfl
        refine one_ (i := 2) (N := some 45) #[true, true, true, true, true, false, true, true, false, false] rfl rfl (by kernel_rfl) (by decide) (fun K hK => ?_)
        refine goes_ Try.func22 (by kernel_rfl) rfl #[.agg #[.slice Aa k ca], .agg #[.slice Ab q cb], .int .i64 8] (by rfl) rfl rfl (by simp only [List.map_toArray, List.map_cons, List.map_nil]; rfl) ?_
        with_reducible refine (join_own Aa ca La Lb LC k q N hna.out Ab cb hnb.out hnm.out hN.out 8 hLC.out _ (HCa.out _ (below_step HB_3.out hHeld.2.2)) (HCb.out _ (below_step HB_3.out hHeld.2.2))).mono ?_
        rintro e X2 ⟨⟨v_, rfl, hoC⟩, hb2⟩
        refine ⟨_, rfl, ?_⟩
        obtain ⟨AC, cC, rfl, hleC, _⟩ := own_C (n := N) hnC_ hmC_.out hoC
        replace hoC := own_weaken hoC (hHeld.2.2).size
        replace RC := below_blk hb2 RC
        replace RW := below_blk hb2 RW
        refine hK.out _ _ ⟨(below_of hb2 hHeld.1), (below_of hb2 hHeld.2.1), (below_step hHeld.2.2 hb2)⟩ (fun hHeld => ?_)
        clear hK K
        refine norm_ (a' := ?_) ?_ ?_
        rotate_left
        · show Act.put _ (some 45) _ = _
          simp only [Act.put, List.setIfInBounds_toArray, List.set_cons_zero, List.set_cons_succ, i64_w, i32_w]
          rfl
        refine one_ (i := 5) (N := some 48) #[true, true, true, true, true, true, true, true, false, false] rfl rfl (by kernel_rfl) (by decide) (fun K hK => ?_)
        refine goes_ Try.func21 (by kernel_rfl) rfl #[.agg #[.slice Aa k ca], .agg #[.int .i64 17, .int .i64 0, .int .i64 0, .int .u64 0, .int .u64 0, .int .u64 0, .int .u64 0, .int .i64 0, .int .i64 0, .int .i64 0, .int .i64 0, .bool false]] (by rfl) rfl rfl (by simp only [List.map_toArray, List.map_cons, List.map_nil]; rfl) ?_
        with_reducible refine (wrap_own Aa ca La LW k N2 hna.out hn9.out hN2.out 17 0 0 0 0 0 0 0 0 0 0 false hLW.out _ (HCa.out _ (below_step HB_3.out hHeld.2.2))).mono ?_
        rintro e X5 ⟨⟨v_, rfl, hoW⟩, hb5⟩
        refine ⟨_, rfl, ?_⟩
        obtain ⟨AW, cW, rfl, hleW, _⟩ := own_C (n := N2) hnW_ hmW_.out hoW
        replace hoW := own_weaken hoW (hHeld.2.2).size
        replace RC := below_blk hb5 RC
        replace RW := below_blk hb5 RW
        replace hoC := own_below hoC hb5
        refine hK.out _ _ ⟨(below_of hb5 hHeld.1), (below_of hb5 hHeld.2.1), (below_step hHeld.2.2 hb5)⟩ (fun hHeld => ?_)
        clear hK K
        refine norm_ (a' := ?_) ?_ ?_
        rotate_left
        · show Act.put _ (some 48) _ = _
          simp only [Act.put, List.setIfInBounds_toArray, List.set_cons_zero, List.set_cons_succ, i64_w, i32_w]
          rfl
        exact norm_ (by simp only [putAll, Act.put, List.setIfInBounds_toArray, List.set_cons_zero, List.set_cons_succ]) (hCont (w3.heap.size, X6.heap.size, (AC, cC), (AW, cW)) _ ⟨RC, RW, leC, leW, neC_W, hoC, hoW, hleC, hleW, hHeld⟩)
    · skip
      refine value_ (w1 := ?_) (v := ?_) (by rfl) rfl ?_ ?_
      rotate_left 2
      · go_simp
        constructor
        · rfl
        · rfl
      refine letter_ ?_
      intro X7 hW
      have hb7 : Below w3.drew.heap.size w3.drew X7 := by rw [hW]; exact below1 _ _
      have RW : X7.heap[w3.drew.heap.size]? = some (.cells #[.slice none 0 0] 24 (0, 0)) := by rw [hW]; exact heap_alloc_new _ _
      have leW := (hHeld.2.2).size
      clear hW
      refine hK.out _ _ ⟨(below_of hb7 hHeld.1), (below_of hb7 hHeld.2.1), (below_step hHeld.2.2 hb7)⟩ (fun hHeld => ?_)
      clear hK K
      refine norm_ (a' := ?_) ?_ ?_
      rotate_left
      · show Act.put _ (some 8) _ = _
        simp only [Act.put, List.setIfInBounds_toArray, List.set_cons_zero, List.set_cons_succ, i64_w, i32_w]
        rfl
      refine two_ (i := 2) (j := 6) (Ni := some 45) (Nj := some 7) #[true, true, true, true, true, false, false, true, false, false] #[true, true, false, true, true, false, true, true, false, false] rfl rfl rfl rfl (by kernel_rfl) (by decide) (by decide) (fun K hK => ?_) (fun K hK => ?_)
      · skip
        refine goes_ Try.func22 (by kernel_rfl) rfl #[.agg #[.slice Aa k ca], .agg #[.slice Ab q cb], .int .i64 8] (by rfl) rfl rfl (by simp only [List.map_toArray, List.map_cons, List.map_nil]; rfl) ?_
        with_reducible refine (join_own Aa ca La Lb LC k q N hna.out Ab cb hnb.out hnm.out hN.out 8 hLC.out _ (HCa.out _ (below_step HB_3.out hHeld.2.2)) (HCb.out _ (below_step HB_3.out hHeld.2.2))).mono ?_
        rintro e X2 ⟨⟨v_, rfl, hoC⟩, hb2⟩
        refine ⟨_, rfl, ?_⟩
        obtain ⟨AC, cC, rfl, hleC, _⟩ := own_C (n := N) hnC_ hmC_.out hoC
        replace hoC := own_weaken hoC (hHeld.2.2).size
        replace RW := below_blk hb2 RW
        refine hK.out _ _ ⟨(below_of hb2 hHeld.1), (below_of hb2 hHeld.2.1), (below_step hHeld.2.2 hb2)⟩ (fun hHeld => ?_)
        clear hK K
        refine norm_ (a' := ?_) ?_ ?_
        rotate_left
        · show Act.put _ (some 45) _ = _
          simp only [Act.put, List.setIfInBounds_toArray, List.set_cons_zero, List.set_cons_succ, i64_w, i32_w]
          rfl
        refine two_ (i := 5) (j := 6) (Ni := some 48) (Nj := some 7) #[true, true, true, true, true, true, false, true, false, false] #[true, true, true, true, true, false, true, true, false, false] rfl rfl rfl rfl (by kernel_rfl) (by decide) (by decide) (fun K hK => ?_) (fun K hK => ?_)
        · skip
          refine goes_ Try.func21 (by kernel_rfl) rfl #[.agg #[.slice Aa k ca], .agg #[.int .i64 17, .int .i64 0, .int .i64 0, .int .u64 0, .int .u64 0, .int .u64 0, .int .u64 0, .int .i64 0, .int .i64 0, .int .i64 0, .int .i64 0, .bool false]] (by rfl) rfl rfl (by simp only [List.map_toArray, List.map_cons, List.map_nil]; rfl) ?_
          with_reducible refine (wrap_own Aa ca La LW k N2 hna.out hn9.out hN2.out 17 0 0 0 0 0 0 0 0 0 0 false hLW.out _ (HCa.out _ (below_step HB_3.out hHeld.2.2))).mono ?_
          rintro e X5 ⟨⟨v_, rfl, hoW⟩, hb5⟩
          refine ⟨_, rfl, ?_⟩
          obtain ⟨AW, cW, rfl, hleW, _⟩ := own_C (n := N2) hnW_ hmW_.out hoW
          replace hoW := own_weaken hoW (hHeld.2.2).size
          replace RW := below_blk hb5 RW
          replace hoC := own_below hoC hb5
          refine hK.out _ _ ⟨(below_of hb5 hHeld.1), (below_of hb5 hHeld.2.1), (below_step hHeld.2.2 hb5)⟩ (fun hHeld => ?_)
          clear hK K
          refine norm_ (a' := ?_) ?_ ?_
          rotate_left
          · show Act.put _ (some 48) _ = _
            simp only [Act.put, List.setIfInBounds_toArray, List.set_cons_zero, List.set_cons_succ, i64_w, i32_w]
            rfl
          refine one_ (i := 6) (N := some 7) #[true, true, true, true, true, true, true, true, false, false] rfl rfl (by kernel_rfl) (by decide) (fun K hK => ?_)
          refine value_ (w1 := ?_) (v := ?_) (by rfl) rfl ?_ ?_
          rotate_left 2
          · go_simp
            constructor
            · rfl
            · rfl
          refine letter_ ?_
          intro X6 hW
          have hb6 : Below X5.heap.size X5 X6 := by rw [hW]; exact below1 _ _
          have RC : X6.heap[X5.heap.size]? = some (.cells #[.slice none 0 0] 24 (0, 0)) := by rw [hW]; exact heap_alloc_new _ _
          have leC := (hHeld.2.2).size
          have neW_C := Nat.ne_of_lt (lt_of_blk RW)
          clear hW
          replace RW := below_blk hb6 RW
          replace hoC := own_below hoC hb6
          replace hoW := own_below hoW hb6
          refine hK.out _ _ ⟨(below_of hb6 hHeld.1), (below_of hb6 hHeld.2.1), (below_step hHeld.2.2 hb6)⟩ (fun hHeld => ?_)
          clear hK K
          refine norm_ (a' := ?_) ?_ ?_
          rotate_left
          · show Act.put _ (some 7) _ = _
            simp only [Act.put, List.setIfInBounds_toArray, List.set_cons_zero, List.set_cons_succ, i64_w, i32_w]
            rfl
          exact norm_ (by simp only [putAll, Act.put, List.setIfInBounds_toArray, List.set_cons_zero, List.set_cons_succ]) (hCont (X5.heap.size, w3.heap.size, (AC, cC), (AW, cW)) _ ⟨RC, RW, leC, leW, neW_C.symm, hoC, hoW, hleC, hleW, hHeld⟩)
        · skip
          refine value_ (w1 := ?_) (v := ?_) (by rfl) rfl ?_ ?_
          rotate_left 2
          · go_simp
            constructor
            · rfl
            · rfl
          refine letter_ ?_
          intro X6 hW
          have hb6 : Below X2.heap.size X2 X6 := by rw [hW]; exact below1 _ _
          have RC : X6.heap[X2.heap.size]? = some (.cells #[.slice none 0 0] 24 (0, 0)) := by rw [hW]; exact heap_alloc_new _ _
          have leC := (hHeld.2.2).size
          have neW_C := Nat.ne_of_lt (lt_of_blk RW)
          clear hW
          replace RW := below_blk hb6 RW
          replace hoC := own_below hoC hb6
          refine hK.out _ _ ⟨(below_of hb6 hHeld.1), (below_of hb6 hHeld.2.1), (below_step hHeld.2.2 hb6)⟩ (fun hHeld => ?_)
          clear hK K
          refine norm_ (a' := ?_) ?_ ?_
          rotate_left
          · show Act.put _ (some 7) _ = _
            simp only [Act.put, List.setIfInBounds_toArray, List.set_cons_zero, List.set_cons_succ, i64_w, i32_w]
            rfl
          refine one_ (i := 5) (N := some 48) #[true, true, true, true, true, true, true, true, false, false] rfl rfl (by kernel_rfl) (by decide) (fun K hK => ?_)
          refine goes_ Try.func21 (by kernel_rfl) rfl #[.agg #[.slice Aa k ca], .agg #[.int .i64 17, .int .i64 0, .int .i64 0, .int .u64 0, .int .u64 0, .int .u64 0, .int .u64 0, .int .i64 0, .int .i64 0, .int .i64 0, .int .i64 0, .bool false]] (by rfl) rfl rfl (by simp only [List.map_toArray, List.map_cons, List.map_nil]; rfl) ?_
          with_reducible refine (wrap_own Aa ca La LW k N2 hna.out hn9.out hN2.out 17 0 0 0 0 0 0 0 0 0 0 false hLW.out _ (HCa.out _ (below_step HB_3.out hHeld.2.2))).mono ?_
          rintro e X5 ⟨⟨v_, rfl, hoW⟩, hb5⟩
          refine ⟨_, rfl, ?_⟩
          obtain ⟨AW, cW, rfl, hleW, _⟩ := own_C (n := N2) hnW_ hmW_.out hoW
          replace hoW := own_weaken hoW (hHeld.2.2).size
          replace RW := below_blk hb5 RW
          replace hoC := own_below hoC hb5
          replace RC := below_blk hb5 RC
          refine hK.out _ _ ⟨(below_of hb5 hHeld.1), (below_of hb5 hHeld.2.1), (below_step hHeld.2.2 hb5)⟩ (fun hHeld => ?_)
          clear hK K
          refine norm_ (a' := ?_) ?_ ?_
          rotate_left
          · show Act.put _ (some 48) _ = _
            simp only [Act.put, List.setIfInBounds_toArray, List.set_cons_zero, List.set_cons_succ, i64_w, i32_w]
            rfl
          exact norm_ (by simp only [putAll, Act.put, List.setIfInBounds_toArray, List.set_cons_zero, List.set_cons_succ]) (hCont (X2.heap.size, w3.heap.size, (AC, cC), (AW, cW)) _ ⟨RC, RW, leC, leW, neW_C.symm, hoC, hoW, hleC, hleW, hHeld⟩)
      · skip
        refine value_ (w1 := ?_) (v := ?_) (by rfl) rfl ?_ ?_
        rotate_left 2
        · go_simp
          constructor
          · rfl
          · rfl
        refine letter_ ?_
        intro X6 hW
        have hb6 : Below X7.heap.size X7 X6 := by rw [hW]; exact below1 _ _
        have RC : X6.heap[X7.heap.size]? = some (.cells #[.slice none 0 0] 24 (0, 0)) := by rw [hW]; exact heap_alloc_new _ _
        have leC := (hHeld.2.2).size
        have neW_C := Nat.ne_of_lt (lt_of_blk RW)
        clear hW
        replace RW := below_blk hb6 RW
        refine hK.out _ _ ⟨(below_of hb6 hHeld.1), (below_of hb6 hHeld.2.1), (below_step hHeld.2.2 hb6)⟩ (fun hHeld => ?_)
        clear hK K
        refine norm_ (a' := ?_) ?_ ?_
        rotate_left
        · show Act.put _ (some 7) _ = _
          simp only [Act.put, List.setIfInBounds_toArray, List.set_cons_zero, List.set_cons_succ, i64_w, i32_w]
          rfl
        refine one_ (i := 2) (N := some 45) #[true, true, true, true, true, false, true, true, false, false] rfl rfl (by kernel_rfl) (by decide) (fun K hK => ?_)
        refine goes_ Try.func22 (by kernel_rfl) rfl #[.agg #[.slice Aa k ca], .agg #[.slice Ab q cb], .int .i64 8] (by rfl) rfl rfl (by simp only [List.map_toArray, List.map_cons, List.map_nil]; rfl) ?_
        with_reducible refine (join_own Aa ca La Lb LC k q N hna.out Ab cb hnb.out hnm.out hN.out 8 hLC.out _ (HCa.out _ (below_step HB_3.out hHeld.2.2)) (HCb.out _ (below_step HB_3.out hHeld.2.2))).mono ?_
        rintro e X2 ⟨⟨v_, rfl, hoC⟩, hb2⟩
        refine ⟨_, rfl, ?_⟩
        obtain ⟨AC, cC, rfl, hleC, _⟩ := own_C (n := N) hnC_ hmC_.out hoC
        replace hoC := own_weaken hoC (hHeld.2.2).size
        replace RW := below_blk hb2 RW
        replace RC := below_blk hb2 RC
        refine hK.out _ _ ⟨(below_of hb2 hHeld.1), (below_of hb2 hHeld.2.1), (below_step hHeld.2.2 hb2)⟩ (fun hHeld => ?_)
        clear hK K
        refine norm_ (a' := ?_) ?_ ?_
        rotate_left
        · show Act.put _ (some 45) _ = _
          simp only [Act.put, List.setIfInBounds_toArray, List.set_cons_zero, List.set_cons_succ, i64_w, i32_w]
          rfl
        refine one_ (i := 5) (N := some 48) #[true, true, true, true, true, true, true, true, false, false] rfl rfl (by kernel_rfl) (by decide) (fun K hK => ?_)
        refine goes_ Try.func21 (by kernel_rfl) rfl #[.agg #[.slice Aa k ca], .agg #[.int .i64 17, .int .i64 0, .int .i64 0, .int .u64 0, .int .u64 0, .int .u64 0, .int .u64 0, .int .i64 0, .int .i64 0, .int .i64 0, .int .i64 0, .bool false]] (by rfl) rfl rfl (by simp only [List.map_toArray, List.map_cons, List.map_nil]; rfl) ?_
        with_reducible refine (wrap_own Aa ca La LW k N2 hna.out hn9.out hN2.out 17 0 0 0 0 0 0 0 0 0 0 false hLW.out _ (HCa.out _ (below_step HB_3.out hHeld.2.2))).mono ?_
        rintro e X5 ⟨⟨v_, rfl, hoW⟩, hb5⟩
        refine ⟨_, rfl, ?_⟩
        obtain ⟨AW, cW, rfl, hleW, _⟩ := own_C (n := N2) hnW_ hmW_.out hoW
        replace hoW := own_weaken hoW (hHeld.2.2).size
        replace RW := below_blk hb5 RW
        replace RC := below_blk hb5 RC
        replace hoC := own_below hoC hb5
        refine hK.out _ _ ⟨(below_of hb5 hHeld.1), (below_of hb5 hHeld.2.1), (below_step hHeld.2.2 hb5)⟩ (fun hHeld => ?_)
        clear hK K
        refine norm_ (a' := ?_) ?_ ?_
        rotate_left
        · show Act.put _ (some 48) _ = _
          simp only [Act.put, List.setIfInBounds_toArray, List.set_cons_zero, List.set_cons_succ, i64_w, i32_w]
          rfl
        exact norm_ (by simp only [putAll, Act.put, List.setIfInBounds_toArray, List.set_cons_zero, List.set_cons_succ]) (hCont (X7.heap.size, w3.heap.size, (AC, cC), (AW, cW)) _ ⟨RC, RW, leC, leW, neW_C.symm, hoC, hoW, hleC, hleW, hHeld⟩)
  rintro ⟨PC, PW, ⟨AC, cC⟩, ⟨AW, cW⟩⟩ W4 ⟨RC, RW, leC, leW, neC_W, hoC, hoW, hleC, hleW, hHeld⟩
  simp only [] at RC RW leC leW hoC hoW hleC hleW
  refine norm_ (a' := ?_) ?_ ?_
  rotate_left
  · simp only [putAll, Act.put, List.setIfInBounds_toArray, List.set_cons_zero, List.set_cons_succ]
    rfl
  refine last_ (i := 8) (N := none) #[true, true, true, true, true, true, true, true, true, false] rfl rfl (by kernel_rfl) (by decide) (fun K hK => ?_)
  have c8 := blk_cell RC 0 (.slice none 0 0) rfl
  have f8 := blk_free RC 0
  refine skip_ (w1 := ?_) (by rfl) rfl ?_ ?_
  rotate_left
  · go_simp
    rfl
  refine hK.out _ _ ?_
  clear hK K
  refine last_ (i := 9) (N := none) #[true, true, true, true, true, true, true, true, true, true] rfl rfl (by kernel_rfl) (by decide) (fun K hK => ?_)
  have RW2 := set_other (c := PC) (i := 0) (v := .slice AC N cC) RW neC_W.symm
  have c9 := blk_cell RW2 0 (.slice none 0 0) rfl
  have f9 := blk_free RW2 0
  refine skip_ (w1 := ?_) (by rfl) rfl ?_ ?_
  rotate_left
  · go_simp
    rfl
  refine hK.out _ _ ?_
  clear hK K
  refine done_ (by kernel_rfl) ?_
  obtain ⟨_, _, hbz⟩ := hHeld
  have hb := CMem.below_set (b := PW) (i := 0) (CMem.below_set (b := PC) (i := 0) hbz leC (.slice AC N cC)) leW (.slice AW N2 cW)
  have BC_4 := Lib.hid (set_other (c := PW) (i := 0) (v := .slice AW N2 cW) (set_blk (i := 0) RC (.slice AC N cC)) neC_W)
  have BW_4 := Lib.hid (set_blk (i := 0) RW2 (.slice AW N2 cW))
  have CC_4 := Lib.hid (own_Cs hnC_.out hmC_.out (own_set (val := .slice AW N2 cW) (own_set (val := .slice AC N cC) hoC RC) RW2))
  have CW_4 := Lib.hid (own_Cs hnW_.out hmW_.out (own_set (val := .slice AW N2 cW) (own_set (val := .slice AC N cC) hoW RC) RW2))
  have LC_4 := blk_cell BC_4.out 0 (.slice AC N cC) rfl
  have LW_4 := blk_cell BW_4.out 0 (.slice AW N2 cW) rfl
  have HHC := Lib.hid hleC
  have HHW := Lib.hid hleW
  clear c8 f8 c9 f9 RC RW RW2 hoC hoW leC leW neC_W hleC hleW hbz hZ
  have Ba_4 := Lib.hid (below_blk hb Ba_3.out)
  have La_4 := blk_cell Ba_4.out 0 (.slice Aa k ca) rfl
  have Bb_4 := Lib.hid (below_blk hb Bb_3.out)
  have Lb_4 := blk_cell Bb_4.out 0 (.slice Ab q cb) rfl
  have HB_4 := Lib.hid (below_step HB_3.out hb)
  clear hb HB_3 Ba_3 La_3 Bb_3 Lb_3
  generalize hW : (W4.setCell ⟨PC, 0, none⟩ (.slice AC N cC)).setCell ⟨PW, 0, none⟩ (.slice AW N2 cW) = v4 at *
  clear hW
  go_wp2_with fail
  obtain ⟨z, D, E, G, ga, gb, S, I1, I2, I3, hz1, hz2, hD, hE, hG, hS1, hS2, hI1, hI2, hI3, P1, P2, hga, hgb, P3, P4⟩ := plain La Lb LC LW k q N N2 x y hna.out hnb.out HK.out.1 HK.out.2 HX.out HY.out hx0.out hy0.out hN.out hN2.out hLC.out hLW.out
  replace hga := Lib.hid hga
  replace hgb := Lib.hid hgb
  replace P1 := Lib.hid P1
  replace P2 := Lib.hid P2
  replace P3 := Lib.hid P3
  replace P4 := Lib.hid P4
  replace hI1 := Lib.hid hI1
  replace hI2 := Lib.hid hI2
  replace hI3 := Lib.hid hI3
  have hN5 : Hid (N ≤ 500) := Lib.hid (by have := HK.out; have := hN.out; omega)
  have hN25 : Hid (N2 ≤ 500) := Lib.hid (by have := HK.out; have := hN2.out; omega)
  have hZ := Lib.hid (Below.refl v4.heap.size v4)
  refine start_ (n := 38) (S := fun w' => w'.cell? ⟨w.heap.size, 0, none⟩ = some (.slice Aa k ca) ∧ w'.cell? ⟨w.heap.size + 1, 0, none⟩ = some (.slice Ab q cb) ∧ w'.cell? ⟨PC, 0, none⟩ = some (.slice AC N cC) ∧ w'.cell? ⟨PW, 0, none⟩ = some (.slice AW N2 cW) ∧ Below v4.heap.size v4 w') (ds := []) #[false, false, false, false, false, false, false, false, false, false, false, false, false, false, false, false, false, false, false, false, false, false, false, false, false, false, false, false, false, false, false, false, false, false, false, false, false, false] (by kernel_rfl) rfl rfl ⟨La_4, Lb_4, LC_4, LW_4, hZ.out.drew⟩ (fun hHeld => ?_)
  refine pure_ (i := 2) (N := some 51) (v := ?_) (a' := ?_) #[false, false, true, false, false, false, false, false, false, false, false, false, false, false, false, false, false, false, false, false, false, false, false, false, false, false, false, false, false, false, false, false, false, false, false, false, false, false] rfl rfl (by kernel_rfl) (fun _ _ _ h => h) (Or.inl ⟨by rfl, ?_⟩) ?_ ?_
  rotate_left
  · intro w'
    go_simp
    with_reducible rfl
  rotate_left
  · simp only [Act.put, List.setIfInBounds_toArray, List.set_cons_zero, List.set_cons_succ, i64_w, i32_w]
    rfl
  refine pure_ (i := 3) (N := some 52) (v := ?_) (a' := ?_) #[false, false, true, true, false, false, false, false, false, false, false, false, false, false, false, false, false, false, false, false, false, false, false, false, false, false, false, false, false, false, false, false, false, false, false, false, false, false] rfl rfl (by kernel_rfl) (fun _ _ _ h => h) (Or.inl ⟨by rfl, ?_⟩) ?_ ?_
  rotate_left
  · intro w'
    go_simp
    with_reducible rfl
  rotate_left
  · simp only [Act.put, List.setIfInBounds_toArray, List.set_cons_zero, List.set_cons_succ, i64_w, i32_w]
    rfl
  refine pure_ (i := 4) (N := some 53) (v := ?_) (a' := ?_) #[false, false, true, true, true, false, false, false, false, false, false, false, false, false, false, false, false, false, false, false, false, false, false, false, false, false, false, false, false, false, false, false, false, false, false, false, false, false] rfl rfl (by kernel_rfl) (fun _ _ _ h => h) (Or.inl ⟨by rfl, ?_⟩) ?_ ?_
  rotate_left
  · intro w'
    go_simp
    with_reducible rfl
  rotate_left
  · simp only [Act.put, List.setIfInBounds_toArray, List.set_cons_zero, List.set_cons_succ, i64_w, i32_w]
    rfl
  refine pure_ (i := 5) (N := some 54) (v := ?_) (a' := ?_) #[false, false, true, true, true, true, false, false, false, false, false, false, false, false, false, false, false, false, false, false, false, false, false, false, false, false, false, false, false, false, false, false, false, false, false, false, false, false] rfl rfl (by kernel_rfl) (fun _ _ _ h => h) (Or.inl ⟨by rfl, ?_⟩) ?_ ?_
  rotate_left
  · intro w'
    go_simp
    with_reducible rfl
  rotate_left
  · simp only [Act.put, List.setIfInBounds_toArray, List.set_cons_zero, List.set_cons_succ, i64_w, i32_w]
    rfl
  refine take_ (i := 0) (N := some 49) (v := ?_) (a' := ?_) #[true, false, true, true, true, true, false, false, false, false, false, false, false, false, false, false, false, false, false, false, false, false, false, false, false, false, false, false, false, false, false, false, false, false, false, false, false, false] rfl rfl (by kernel_rfl) (fun _ _ _ h => h) (Or.inl ⟨by rfl, ?_⟩) hHeld ?_ ?_
  rotate_left
  · rintro w' ⟨s0, s1, s2, s3, s4⟩
    go_simp
    with_reducible rfl
  rotate_left
  · simp only [Act.put, List.setIfInBounds_toArray, List.set_cons_zero, List.set_cons_succ, i64_w, i32_w]
    rfl
  refine one_ (i := 1) (N := some 50) #[true, true, true, true, true, true, false, false, false, false, false, false, false, false, false, false, false, false, false, false, false, false, false, false, false, false, false, false, false, false, false, false, false, false, false, false, false, false] rfl rfl (by kernel_rfl) (by decide) (fun K hK => ?_)
  refine goes_ Try.func16 (by kernel_rfl) rfl #[.agg #[.slice AC N cC]] (by rfl) rfl rfl (by simp only [List.map_toArray, List.map_cons, List.map_nil]; rfl) ?_
  with_reducible refine (deep_tree AC cC LC N D hnC_.out hN5.out P1.out _ (Kd.C_below CC_4.out hHeld.2.2.2.2)).mono ?_
  rintro e x0 ⟨rfl, hbq0⟩
  refine ⟨_, rfl, ?_⟩
  refine hK.out _ _ ⟨(below_of hbq0 hHeld.1), (below_of hbq0 hHeld.2.1), (below_of hbq0 hHeld.2.2.1), (below_of hbq0 hHeld.2.2.2.1), (below_step hHeld.2.2.2.2 hbq0)⟩ (fun hHeld => ?_)
  clear hK K
  refine norm_ (a' := ?_) ?_ ?_
  rotate_left
  · show Act.put _ (some 50) _ = _
    simp only [Act.put, List.setIfInBounds_toArray, List.set_cons_zero, List.set_cons_succ, i64_w, i32_w]
    rfl
  refine pure_ (i := 6) (N := some 55) (v := ?_) (a' := ?_) #[true, true, true, true, true, true, true, false, false, false, false, false, false, false, false, false, false, false, false, false, false, false, false, false, false, false, false, false, false, false, false, false, false, false, false, false, false, false] rfl rfl (by kernel_rfl) (fun _ _ _ h => h) (Or.inl ⟨by rfl, ?_⟩) ?_ ?_
  rotate_left
  · intro w'
    go_simp
    with_reducible rfl
  rotate_left
  · simp only [Act.put, List.setIfInBounds_toArray, List.set_cons_zero, List.set_cons_succ, i64_w, i32_w]
    rfl
  refine pure_ (i := 7) (N := some 56) (v := ?_) (a' := ?_) #[true, true, true, true, true, true, true, true, false, false, false, false, false, false, false, false, false, false, false, false, false, false, false, false, false, false, false, false, false, false, false, false, false, false, false, false, false, false] rfl rfl (by kernel_rfl) (fun _ _ _ h => h) (Or.inl ⟨by rfl, ?_⟩) ?_ ?_
  rotate_left
  · intro w'
    go_simp
    with_reducible rfl
  rotate_left
  · simp only [Act.put, List.setIfInBounds_toArray, List.set_cons_zero, List.set_cons_succ, i64_w, i32_w]
    rfl
  refine pure_ (i := 10) (N := some 59) (v := ?_) (a' := ?_) #[true, true, true, true, true, true, true, true, false, false, true, false, false, false, false, false, false, false, false, false, false, false, false, false, false, false, false, false, false, false, false, false, false, false, false, false, false, false] rfl rfl (by kernel_rfl) (fun _ _ _ h => h) (Or.inl ⟨by rfl, ?_⟩) ?_ ?_
  rotate_left
  · intro w'
    go_simp
    with_reducible rfl
  rotate_left
  · simp only [Act.put, List.setIfInBounds_toArray, List.set_cons_zero, List.set_cons_succ, i64_w, i32_w]
    rfl
  refine pure_ (i := 11) (N := some 60) (v := ?_) (a' := ?_) #[true, true, true, true, true, true, true, true, false, false, true, true, false, false, false, false, false, false, false, false, false, false, false, false, false, false, false, false, false, false, false, false, false, false, false, false, false, false] rfl rfl (by kernel_rfl) (fun _ _ _ h => h) (Or.inl ⟨by rfl, ?_⟩) ?_ ?_
  rotate_left
  · intro w'
    go_simp
    with_reducible rfl
  rotate_left
  · simp only [Act.put, List.setIfInBounds_toArray, List.set_cons_zero, List.set_cons_succ, i64_w, i32_w]
    rfl
  refine take_ (i := 8) (N := some 57) (v := ?_) (a' := ?_) #[true, true, true, true, true, true, true, true, true, false, true, true, false, false, false, false, false, false, false, false, false, false, false, false, false, false, false, false, false, false, false, false, false, false, false, false, false, false] rfl rfl (by kernel_rfl) (fun _ _ _ h => h) (Or.inl ⟨by rfl, ?_⟩) hHeld ?_ ?_
  rotate_left
  · rintro w' ⟨s0, s1, s2, s3, s4⟩
    go_simp
    with_reducible rfl
  rotate_left
  · simp only [Act.put, List.setIfInBounds_toArray, List.set_cons_zero, List.set_cons_succ, i64_w, i32_w]
    rfl
  refine one_ (i := 9) (N := some 58) #[true, true, true, true, true, true, true, true, true, true, true, true, false, false, false, false, false, false, false, false, false, false, false, false, false, false, false, false, false, false, false, false, false, false, false, false, false, false] rfl rfl (by kernel_rfl) (by decide) (fun K hK => ?_)
  refine goes_ Try.func16 (by kernel_rfl) rfl #[.agg #[.slice AW N2 cW]] (by rfl) rfl rfl (by simp only [List.map_toArray, List.map_cons, List.map_nil]; rfl) ?_
  with_reducible refine (deep_tree AW cW LW N2 E hnW_.out hN25.out P2.out _ (Kd.C_below CW_4.out hHeld.2.2.2.2)).mono ?_
  rintro e x1 ⟨rfl, hbq1⟩
  refine ⟨_, rfl, ?_⟩
  refine hK.out _ _ ⟨(below_of hbq1 hHeld.1), (below_of hbq1 hHeld.2.1), (below_of hbq1 hHeld.2.2.1), (below_of hbq1 hHeld.2.2.2.1), (below_step hHeld.2.2.2.2 hbq1)⟩ (fun hHeld => ?_)
  clear hK K
  refine norm_ (a' := ?_) ?_ ?_
  rotate_left
  · show Act.put _ (some 58) _ = _
    simp only [Act.put, List.setIfInBounds_toArray, List.set_cons_zero, List.set_cons_succ, i64_w, i32_w]
    rfl
  refine pure_ (i := 12) (N := some 61) (v := ?_) (a' := ?_) #[true, true, true, true, true, true, true, true, true, true, true, true, true, false, false, false, false, false, false, false, false, false, false, false, false, false, false, false, false, false, false, false, false, false, false, false, false, false] rfl rfl (by kernel_rfl) (fun _ _ _ h => h) (Or.inl ⟨by rfl, ?_⟩) ?_ ?_
  rotate_left
  · intro w'
    go_simp
    with_reducible rfl
  rotate_left
  · simp only [Act.put, List.setIfInBounds_toArray, List.set_cons_zero, List.set_cons_succ, i64_w, i32_w]
    rfl
  refine pure_ (i := 13) (N := some 62) (v := ?_) (a' := ?_) #[true, true, true, true, true, true, true, true, true, true, true, true, true, true, false, false, false, false, false, false, false, false, false, false, false, false, false, false, false, false, false, false, false, false, false, false, false, false] rfl rfl (by kernel_rfl) (fun _ _ _ h => h) (Or.inl ⟨by rfl, ?_⟩) ?_ ?_
  rotate_left
  · intro w'
    go_simp
    with_reducible rfl
  rotate_left
  · simp only [Act.put, List.setIfInBounds_toArray, List.set_cons_zero, List.set_cons_succ, i64_w, i32_w]
    rfl
  refine pure_ (i := 14) (N := some 63) (v := ?_) (a' := ?_) #[true, true, true, true, true, true, true, true, true, true, true, true, true, true, true, false, false, false, false, false, false, false, false, false, false, false, false, false, false, false, false, false, false, false, false, false, false, false] rfl rfl (by kernel_rfl) (fun _ _ _ h => h) (Or.inl ⟨by rfl, ?_⟩) ?_ ?_
  rotate_left
  · intro w'
    go_simp
    with_reducible rfl
  rotate_left
  · simp only [Act.put, List.setIfInBounds_toArray, List.set_cons_zero, List.set_cons_succ, i64_w, i32_w]
    rfl
  refine take_ (i := 15) (N := some 64) (v := ?_) (a' := ?_) #[true, true, true, true, true, true, true, true, true, true, true, true, true, true, true, true, false, false, false, false, false, false, false, false, false, false, false, false, false, false, false, false, false, false, false, false, false, false] rfl rfl (by kernel_rfl) (fun _ _ _ h => h) (Or.inl ⟨by rfl, ?_⟩) hHeld ?_ ?_
  rotate_left
  · rintro w' ⟨s0, s1, s2, s3, s4⟩
    go_simp
    with_reducible rfl
  rotate_left
  · simp only [Act.put, List.setIfInBounds_toArray, List.set_cons_zero, List.set_cons_succ, i64_w, i32_w]
    rfl
  refine take_ (i := 17) (N := some 66) (v := ?_) (a' := ?_) #[true, true, true, true, true, true, true, true, true, true, true, true, true, true, true, true, false, true, false, false, false, false, false, false, false, false, false, false, false, false, false, false, false, false, false, false, false, false] rfl rfl (by kernel_rfl) (fun _ _ _ h => h) (Or.inl ⟨by rfl, ?_⟩) hHeld ?_ ?_
  rotate_left
  · rintro w' ⟨s0, s1, s2, s3, s4⟩
    go_simp
    with_reducible rfl
  rotate_left
  · simp only [Act.put, List.setIfInBounds_toArray, List.set_cons_zero, List.set_cons_succ, i64_w, i32_w]
    rfl
  refine take_ (i := 19) (N := some 68) (v := ?_) (a' := ?_) #[true, true, true, true, true, true, true, true, true, true, true, true, true, true, true, true, false, true, false, true, false, false, false, false, false, false, false, false, false, false, false, false, false, false, false, false, false, false] rfl rfl (by kernel_rfl) (fun _ _ _ h => h) (Or.inl ⟨by rfl, ?_⟩) hHeld ?_ ?_
  rotate_left
  · rintro w' ⟨s0, s1, s2, s3, s4⟩
    go_simp
    with_reducible rfl
  rotate_left
  · simp only [Act.put, List.setIfInBounds_toArray, List.set_cons_zero, List.set_cons_succ, i64_w, i32_w]
    rfl
  refine one_ (i := 16) (N := some 65) #[true, true, true, true, true, true, true, true, true, true, true, true, true, true, true, true, true, true, false, true, false, false, false, false, false, false, false, false, false, false, false, false, false, false, false, false, false, false] rfl rfl (by kernel_rfl) (by decide) (fun K hK => ?_)
  refine goes_ Try.func18 (by kernel_rfl) rfl #[.agg #[.slice AC N cC]] (by rfl) rfl rfl (by simp only [List.map_toArray, List.map_cons, List.map_nil]; rfl) ?_
  with_reducible refine (groups_tree AC cC LC N G hnC_.out hN5.out HHC.out P3.out _ (Kd.C_below CC_4.out hHeld.2.2.2.2)).mono ?_
  rintro e x2 ⟨rfl, hbq2⟩
  refine ⟨_, rfl, ?_⟩
  refine hK.out _ _ ⟨(below_of hbq2 hHeld.1), (below_of hbq2 hHeld.2.1), (below_of hbq2 hHeld.2.2.1), (below_of hbq2 hHeld.2.2.2.1), (below_step hHeld.2.2.2.2 hbq2)⟩ (fun hHeld => ?_)
  clear hK K
  refine norm_ (a' := ?_) ?_ ?_
  rotate_left
  · show Act.put _ (some 65) _ = _
    simp only [Act.put, List.setIfInBounds_toArray, List.set_cons_zero, List.set_cons_succ, i64_w, i32_w]
    rfl
  refine one_ (i := 18) (N := some 67) #[true, true, true, true, true, true, true, true, true, true, true, true, true, true, true, true, true, true, true, true, false, false, false, false, false, false, false, false, false, false, false, false, false, false, false, false, false, false] rfl rfl (by kernel_rfl) (by decide) (fun K hK => ?_)
  refine goes_ Try.func18 (by kernel_rfl) rfl #[.agg #[.slice Aa k ca]] (by rfl) rfl rfl (by simp only [List.map_toArray, List.map_cons, List.map_nil]; rfl) ?_
  with_reducible refine (groups_tree Aa ca La k ga hna.out hk6.out HHa.out hga.out _ (HCa.out _ (below_step HB_4.out hHeld.2.2.2.2))).mono ?_
  rintro e x3 ⟨rfl, hbq3⟩
  refine ⟨_, rfl, ?_⟩
  refine hK.out _ _ ⟨(below_of hbq3 hHeld.1), (below_of hbq3 hHeld.2.1), (below_of hbq3 hHeld.2.2.1), (below_of hbq3 hHeld.2.2.2.1), (below_step hHeld.2.2.2.2 hbq3)⟩ (fun hHeld => ?_)
  clear hK K
  refine norm_ (a' := ?_) ?_ ?_
  rotate_left
  · show Act.put _ (some 67) _ = _
    simp only [Act.put, List.setIfInBounds_toArray, List.set_cons_zero, List.set_cons_succ, i64_w, i32_w]
    rfl
  refine one_ (i := 20) (N := some 69) #[true, true, true, true, true, true, true, true, true, true, true, true, true, true, true, true, true, true, true, true, true, false, false, false, false, false, false, false, false, false, false, false, false, false, false, false, false, false] rfl rfl (by kernel_rfl) (by decide) (fun K hK => ?_)
  refine goes_ Try.func18 (by kernel_rfl) rfl #[.agg #[.slice Ab q cb]] (by rfl) rfl rfl (by simp only [List.map_toArray, List.map_cons, List.map_nil]; rfl) ?_
  with_reducible refine (groups_tree Ab cb Lb q gb hnb.out hq6.out HHb.out hgb.out _ (HCb.out _ (below_step HB_4.out hHeld.2.2.2.2))).mono ?_
  rintro e w5 ⟨rfl, hbq4⟩
  refine ⟨_, rfl, ?_⟩
  refine hK.out _ _ ⟨(below_of hbq4 hHeld.1), (below_of hbq4 hHeld.2.1), (below_of hbq4 hHeld.2.2.1), (below_of hbq4 hHeld.2.2.2.1), (below_step hHeld.2.2.2.2 hbq4)⟩ (fun hHeld => ?_)
  clear hK K
  refine norm_ (a' := ?_) ?_ ?_
  rotate_left
  · show Act.put _ (some 69) _ = _
    simp only [Act.put, List.setIfInBounds_toArray, List.set_cons_zero, List.set_cons_succ, i64_w, i32_w]
    rfl
  refine pure_ (i := 21) (N := some 70) (v := ?_) (a' := ?_) #[true, true, true, true, true, true, true, true, true, true, true, true, true, true, true, true, true, true, true, true, true, true, false, false, false, false, false, false, false, false, false, false, false, false, false, false, false, false] rfl rfl (by kernel_rfl) (fun _ _ _ h => h) (Or.inl ⟨by rfl, ?_⟩) ?_ ?_
  rotate_left
  · intro w'
    go_simp
    with_reducible rfl
  rotate_left
  · simp only [Act.put, List.setIfInBounds_toArray, List.set_cons_zero, List.set_cons_succ, i64_w, i32_w]
    rfl
  refine pure_ (i := 22) (N := some 71) (v := ?_) (a' := ?_) #[true, true, true, true, true, true, true, true, true, true, true, true, true, true, true, true, true, true, true, true, true, true, true, false, false, false, false, false, false, false, false, false, false, false, false, false, false, false] rfl rfl (by kernel_rfl) (fun _ _ _ h => h) (Or.inl ⟨by rfl, ?_⟩) ?_ ?_
  rotate_left
  · intro w'
    go_simp
    with_reducible rfl
  rotate_left
  · simp only [Act.put, List.setIfInBounds_toArray, List.set_cons_zero, List.set_cons_succ, i64_w, i32_w]
    rfl
  refine pure_ (i := 23) (N := some 72) (v := ?_) (a' := ?_) #[true, true, true, true, true, true, true, true, true, true, true, true, true, true, true, true, true, true, true, true, true, true, true, true, false, false, false, false, false, false, false, false, false, false, false, false, false, false] rfl rfl (by kernel_rfl) (fun _ _ _ h => h) (Or.inl ⟨by rfl, ?_⟩) ?_ ?_
  rotate_left
  · intro w'
    go_simp
    with_reducible rfl
  rotate_left
  · simp only [Act.put, List.setIfInBounds_toArray, List.set_cons_zero, List.set_cons_succ, i64_w, i32_w]
    rfl
  refine pure_ (i := 24) (N := some 73) (v := ?_) (a' := ?_) #[true, true, true, true, true, true, true, true, true, true, true, true, true, true, true, true, true, true, true, true, true, true, true, true, true, false, false, false, false, false, false, false, false, false, false, false, false, false] rfl rfl (by kernel_rfl) (fun _ _ _ h => h) (Or.inl ⟨by rfl, ?_⟩) ?_ ?_
  rotate_left
  · intro w'
    go_simp
    with_reducible rfl
  rotate_left
  · simp only [Act.put, List.setIfInBounds_toArray, List.set_cons_zero, List.set_cons_succ, i64_w, i32_w]
    rfl
  refine pure_ (i := 25) (N := some 74) (v := ?_) (a' := ?_) #[true, true, true, true, true, true, true, true, true, true, true, true, true, true, true, true, true, true, true, true, true, true, true, true, true, true, false, false, false, false, false, false, false, false, false, false, false, false] rfl rfl (by kernel_rfl) (fun _ _ _ h => h) (Or.inl ⟨by rfl, ?_⟩) ?_ ?_
  rotate_left
  · intro w'
    go_simp
    with_reducible rfl
  rotate_left
  · simp only [Act.put, List.setIfInBounds_toArray, List.set_cons_zero, List.set_cons_succ, i64_w, i32_w]
    rfl
  refine pure_ (i := 28) (N := some 77) (v := ?_) (a' := ?_) #[true, true, true, true, true, true, true, true, true, true, true, true, true, true, true, true, true, true, true, true, true, true, true, true, true, true, false, false, true, false, false, false, false, false, false, false, false, false] rfl rfl (by kernel_rfl) (fun _ _ _ h => h) (Or.inl ⟨by rfl, ?_⟩) ?_ ?_
  rotate_left
  · intro w'
    go_simp
    with_reducible rfl
  rotate_left
  · simp only [Act.put, List.setIfInBounds_toArray, List.set_cons_zero, List.set_cons_succ, i64_w, i32_w]
    rfl
  refine pure_ (i := 31) (N := some 80) (v := ?_) (a' := ?_) #[true, true, true, true, true, true, true, true, true, true, true, true, true, true, true, true, true, true, true, true, true, true, true, true, true, true, false, false, true, false, false, true, false, false, false, false, false, false] rfl rfl (by kernel_rfl) (fun _ _ _ h => h) (Or.inl ⟨by rfl, ?_⟩) ?_ ?_
  rotate_left
  · intro w'
    go_simp
    with_reducible rfl
  rotate_left
  · simp only [Act.put, List.setIfInBounds_toArray, List.set_cons_zero, List.set_cons_succ, i64_w, i32_w]
    rfl
  refine take_ (i := 26) (N := some 75) (v := ?_) (a' := ?_) #[true, true, true, true, true, true, true, true, true, true, true, true, true, true, true, true, true, true, true, true, true, true, true, true, true, true, true, false, true, false, false, true, false, false, false, false, false, false] rfl rfl (by kernel_rfl) (fun _ _ _ h => h) (Or.inl ⟨by rfl, ?_⟩) hHeld ?_ ?_
  rotate_left
  · rintro w' ⟨s0, s1, s2, s3, s4⟩
    go_simp
    with_reducible rfl
  rotate_left
  · simp only [Act.put, List.setIfInBounds_toArray, List.set_cons_zero, List.set_cons_succ, i64_w, i32_w]
    rfl
  refine pure_ (i := 27) (N := some 76) (v := ?_) (a' := ?_) #[true, true, true, true, true, true, true, true, true, true, true, true, true, true, true, true, true, true, true, true, true, true, true, true, true, true, true, true, true, false, false, true, false, false, false, false, false, false] rfl rfl (by kernel_rfl) (fun _ _ _ h => h) (Or.inl ⟨by rfl, ?_⟩) ?_ ?_
  rotate_left
  · intro w'
    go_simp
    with_reducible rfl
  rotate_left
  · simp only [Act.put, List.setIfInBounds_toArray, List.set_cons_zero, List.set_cons_succ, i64_w, i32_w]
    rfl
  refine take_ (i := 29) (N := some 78) (v := ?_) (a' := ?_) #[true, true, true, true, true, true, true, true, true, true, true, true, true, true, true, true, true, true, true, true, true, true, true, true, true, true, true, true, true, true, false, true, false, false, false, false, false, false] rfl rfl (by kernel_rfl) (fun _ _ _ h => h) (Or.inl ⟨by rfl, ?_⟩) hHeld ?_ ?_
  rotate_left
  · rintro w' ⟨s0, s1, s2, s3, s4⟩
    go_simp
    with_reducible rfl
  rotate_left
  · simp only [Act.put, List.setIfInBounds_toArray, List.set_cons_zero, List.set_cons_succ, i64_w, i32_w]
    rfl
  refine pure_ (i := 30) (N := some 79) (v := ?_) (a' := ?_) #[true, true, true, true, true, true, true, true, true, true, true, true, true, true, true, true, true, true, true, true, true, true, true, true, true, true, true, true, true, true, true, true, false, false, false, false, false, false] rfl rfl (by kernel_rfl) (fun _ _ _ h => h) (Or.inl ⟨by rfl, ?_⟩) ?_ ?_
  rotate_left
  · intro w'
    go_simp
    with_reducible rfl
  rotate_left
  · simp only [Act.put, List.setIfInBounds_toArray, List.set_cons_zero, List.set_cons_succ, i64_w, i32_w]
    rfl
  refine take_ (i := 32) (N := some 81) (v := ?_) (a' := ?_) #[true, true, true, true, true, true, true, true, true, true, true, true, true, true, true, true, true, true, true, true, true, true, true, true, true, true, true, true, true, true, true, true, true, false, false, false, false, false] rfl rfl (by kernel_rfl) (fun _ _ _ h => h) (Or.inl ⟨by rfl, ?_⟩) hHeld ?_ ?_
  rotate_left
  · rintro w' ⟨s0, s1, s2, s3, s4⟩
    go_simp
    with_reducible rfl
  rotate_left
  · simp only [Act.put, List.setIfInBounds_toArray, List.set_cons_zero, List.set_cons_succ, i64_w, i32_w]
    rfl
  refine pure_ (i := 33) (N := some 82) (v := ?_) (a' := ?_) #[true, true, true, true, true, true, true, true, true, true, true, true, true, true, true, true, true, true, true, true, true, true, true, true, true, true, true, true, true, true, true, true, true, true, false, false, false, false] rfl rfl (by kernel_rfl) (fun _ _ _ h => h) (Or.inl ⟨by rfl, ?_⟩) ?_ ?_
  rotate_left
  · intro w'
    go_simp
    with_reducible rfl
  rotate_left
  · simp only [Act.put, List.setIfInBounds_toArray, List.set_cons_zero, List.set_cons_succ, i64_w, i32_w]
    rfl
  refine pure_ (i := 34) (N := some 83) (v := ?_) (a' := ?_) #[true, true, true, true, true, true, true, true, true, true, true, true, true, true, true, true, true, true, true, true, true, true, true, true, true, true, true, true, true, true, true, true, true, true, true, false, false, false] rfl rfl (by kernel_rfl) (fun _ _ _ h => h) (Or.inl ⟨by rfl, ?_⟩) ?_ ?_
  rotate_left
  · intro w'
    go_simp
    with_reducible rfl
  rotate_left
  · simp only [Act.put, List.setIfInBounds_toArray, List.set_cons_zero, List.set_cons_succ, i64_w, i32_w]
    rfl
  refine pure_ (i := 35) (N := some 84) (v := ?_) (a' := ?_) #[true, true, true, true, true, true, true, true, true, true, true, true, true, true, true, true, true, true, true, true, true, true, true, true, true, true, true, true, true, true, true, true, true, true, true, true, false, false] rfl rfl (by kernel_rfl) (fun _ _ _ h => h) (Or.inl ⟨by rfl, ?_⟩) ?_ ?_
  rotate_left
  · intro w'
    go_simp
    with_reducible rfl
  rotate_left
  · simp only [Act.put, List.setIfInBounds_toArray, List.set_cons_zero, List.set_cons_succ, i64_w, i32_w]
    rfl
  refine pure_ (i := 36) (N := some 85) (v := ?_) (a' := ?_) #[true, true, true, true, true, true, true, true, true, true, true, true, true, true, true, true, true, true, true, true, true, true, true, true, true, true, true, true, true, true, true, true, true, true, true, true, true, false] rfl rfl (by kernel_rfl) (fun _ _ _ h => h) (Or.inl ⟨by rfl, ?_⟩) ?_ ?_
  rotate_left
  · intro w'
    go_simp
    with_reducible rfl
  rotate_left
  · simp only [Act.put, List.setIfInBounds_toArray, List.set_cons_zero, List.set_cons_succ, i64_w, i32_w]
    rfl
  refine pure_ (i := 37) (N := some 86) (v := ?_) (a' := ?_) #[true, true, true, true, true, true, true, true, true, true, true, true, true, true, true, true, true, true, true, true, true, true, true, true, true, true, true, true, true, true, true, true, true, true, true, true, true, true] rfl rfl (by kernel_rfl) (fun _ _ _ h => h) (Or.inl ⟨by rfl, ?_⟩) ?_ ?_
  rotate_left
  · intro w'
    go_simp
    with_reducible rfl
  rotate_left
  · simp only [Act.put, List.setIfInBounds_toArray, List.set_cons_zero, List.set_cons_succ, i64_w, i32_w]
    rfl
  refine done_ (by kernel_rfl) ?_
  have hb := below_step (below_step (below_step (below_step (below_step hZ.out.drew hbq0) hbq1) hbq2) hbq3) hbq4
  clear hHeld hZ hbq0 hbq1 hbq2 hbq3 hbq4 hz2 hD hE hG hS1 hS2
  have CC_5 := Lib.hid (Kd.C_below CC_4.out hb)
  have Ba_5 := Lib.hid (below_blk hb Ba_4.out)
  have La_5 := blk_cell Ba_5.out 0 (.slice Aa k ca) rfl
  have Bb_5 := Lib.hid (below_blk hb Bb_4.out)
  have Lb_5 := blk_cell Bb_5.out 0 (.slice Ab q cb) rfl
  have BC_5 := Lib.hid (below_blk hb BC_4.out)
  have LC_5 := blk_cell BC_5.out 0 (.slice AC N cC) rfl
  have HB_5 := Lib.hid (below_step HB_4.out hb)
  clear hb HB_4 CC_4 Ba_4 La_4 Bb_4 Lb_4 BC_4 LC_4
  clear BW_4 LW_4 CW_4
  replace hI1 := hI1.out
  replace hI2 := hI2.out
  replace hI3 := hI3.out
  rcases Decidable.em (40 ≤ z) with hz4 | hz4
  · have hz5 : decide (40 ≤ z) = true := by simpa using hz4
    go_wp2_with fail
    refine (fixed_calls _).mono ?_
    rintro e w6 ⟨rfl, hb⟩
    have CC_6 := Lib.hid (Kd.C_below CC_5.out hb)
    have Ba_6 := Lib.hid (below_blk hb Ba_5.out)
    have La_6 := blk_cell Ba_6.out 0 (.slice Aa k ca) rfl
    have Bb_6 := Lib.hid (below_blk hb Bb_5.out)
    have Lb_6 := blk_cell Bb_6.out 0 (.slice Ab q cb) rfl
    have BC_6 := Lib.hid (below_blk hb BC_5.out)
    have LC_6 := blk_cell BC_6.out 0 (.slice AC N cC) rfl
    have HB_6 := Lib.hid (below_step HB_5.out hb)
    clear hb HB_5 CC_5 Ba_5 La_5 Bb_5 Lb_5 BC_5 LC_5
    go_wp2
    go_ret
    exact ⟨rfl, HB_6.out⟩
  · have hz5 : decide (40 ≤ z) = false := by simpa using hz4
    obtain ⟨i, j, u, v, hbi, hbj, hbu, hbv, hl1, hl2, hl3⟩ := P4.out (by omega)
    replace hl1 := Lib.hid hl1
    replace hl2 := Lib.hid hl2
    replace hl3 := Lib.hid hl3
    replace hbi := Lib.hid hbi
    replace hbj := Lib.hid hbj
    replace hbu := Lib.hid hbu
    replace hbv := Lib.hid hbv
    clear P4
    have hz6 : z < 40 := by omega
    go_wp2_with fail
    clear hz4 hz5 hz6
    refine (len_tree Aa ca La k I1 i j 0 hna.out hk6.out hl1.out _ (HCa.out _ HB_5.out)).mono ?_
    rintro e w6 ⟨rfl, hb⟩
    have CC_6 := Lib.hid (Kd.C_below CC_5.out hb)
    have Ba_6 := Lib.hid (below_blk hb Ba_5.out)
    have La_6 := blk_cell Ba_6.out 0 (.slice Aa k ca) rfl
    have Bb_6 := Lib.hid (below_blk hb Bb_5.out)
    have Lb_6 := blk_cell Bb_6.out 0 (.slice Ab q cb) rfl
    have BC_6 := Lib.hid (below_blk hb BC_5.out)
    have LC_6 := blk_cell BC_6.out 0 (.slice AC N cC) rfl
    have HB_6 := Lib.hid (below_step HB_5.out hb)
    clear hb HB_5 CC_5 Ba_5 La_5 Bb_5 Lb_5 BC_5 LC_5
    go_wp2_with fail
    refine (len_tree Ab cb Lb q I2 u v 0 hnb.out hq6.out hl2.out _ (HCb.out _ HB_6.out)).mono ?_
    rintro e w7 ⟨rfl, hb⟩
    have CC_7 := Lib.hid (Kd.C_below CC_6.out hb)
    have Ba_7 := Lib.hid (below_blk hb Ba_6.out)
    have La_7 := blk_cell Ba_7.out 0 (.slice Aa k ca) rfl
    have Bb_7 := Lib.hid (below_blk hb Bb_6.out)
    have Lb_7 := blk_cell Bb_7.out 0 (.slice Ab q cb) rfl
    have BC_7 := Lib.hid (below_blk hb BC_6.out)
    have LC_7 := blk_cell BC_7.out 0 (.slice AC N cC) rfl
    have HB_7 := Lib.hid (below_step HB_6.out hb)
    clear hb HB_6 CC_6 Ba_6 La_6 Bb_6 Lb_6 BC_6 LC_6
    go_wp2_with fail
    refine (len_tree AC cC LC N I3 (pl i u) (pl j v) 0 hnC_.out hN5.out hl3.out _ CC_7.out).mono ?_
    rintro e w8 ⟨rfl, hb⟩
    have CC_8 := Lib.hid (Kd.C_below CC_7.out hb)
    have Ba_8 := Lib.hid (below_blk hb Ba_7.out)
    have La_8 := blk_cell Ba_8.out 0 (.slice Aa k ca) rfl
    have Bb_8 := Lib.hid (below_blk hb Bb_7.out)
    have Lb_8 := blk_cell Bb_8.out 0 (.slice Ab q cb) rfl
    have BC_8 := Lib.hid (below_blk hb BC_7.out)
    have LC_8 := blk_cell BC_8.out 0 (.slice AC N cC) rfl
    have HB_8 := Lib.hid (below_step HB_7.out hb)
    clear hb HB_7 CC_7 Ba_7 La_7 Bb_7 Lb_7 BC_7 LC_7
    go_wp2_with fail
    refine (clewref05_Plus.calls i u (pl i u) _ (plus_f i u hbi.out hbu.out)).mono ?_
    rintro e w9 ⟨rfl, hb⟩
    have CC_9 := Lib.hid (Kd.C_below CC_8.out hb)
    have Ba_9 := Lib.hid (below_blk hb Ba_8.out)
    have La_9 := blk_cell Ba_9.out 0 (.slice Aa k ca) rfl
    have Bb_9 := Lib.hid (below_blk hb Bb_8.out)
    have Lb_9 := blk_cell Bb_9.out 0 (.slice Ab q cb) rfl
    have BC_9 := Lib.hid (below_blk hb BC_8.out)
    have LC_9 := blk_cell BC_9.out 0 (.slice AC N cC) rfl
    have HB_9 := Lib.hid (below_step HB_8.out hb)
    clear hb HB_8 CC_8 Ba_8 La_8 Bb_8 Lb_8 BC_8 LC_8
    go_wp2_with fail
    refine (clewref05_Plus.calls j v (pl j v) _ (plus_f j v hbj.out hbv.out)).mono ?_
    rintro e w10 ⟨rfl, hb⟩
    have CC_10 := Lib.hid (Kd.C_below CC_9.out hb)
    have Ba_10 := Lib.hid (below_blk hb Ba_9.out)
    have La_10 := blk_cell Ba_10.out 0 (.slice Aa k ca) rfl
    have Bb_10 := Lib.hid (below_blk hb Bb_9.out)
    have Lb_10 := blk_cell Bb_10.out 0 (.slice Ab q cb) rfl
    have BC_10 := Lib.hid (below_blk hb BC_9.out)
    have LC_10 := blk_cell BC_10.out 0 (.slice AC N cC) rfl
    have HB_10 := Lib.hid (below_step HB_9.out hb)
    clear hb HB_9 CC_9 Ba_9 La_9 Bb_9 Lb_9 BC_9 LC_9
    go_wp2_with fail
    refine (fixed_calls _).mono ?_
    rintro e w11 ⟨rfl, hb⟩
    have CC_11 := Lib.hid (Kd.C_below CC_10.out hb)
    have Ba_11 := Lib.hid (below_blk hb Ba_10.out)
    have La_11 := blk_cell Ba_11.out 0 (.slice Aa k ca) rfl
    have Bb_11 := Lib.hid (below_blk hb Bb_10.out)
    have Lb_11 := blk_cell Bb_11.out 0 (.slice Ab q cb) rfl
    have BC_11 := Lib.hid (below_blk hb BC_10.out)
    have LC_11 := blk_cell BC_11.out 0 (.slice AC N cC) rfl
    have HB_11 := Lib.hid (below_step HB_10.out hb)
    clear hb HB_10 CC_10 Ba_10 La_10 Bb_10 Lb_10 BC_10 LC_10
    go_wp2
    go_ret
    exact ⟨rfl, HB_11.out⟩
theorem astGrows_row (za zb : TreeArg) (w : World) (hza : TreeIn w za) (hzb : TreeIn w zb) :
    Calls Try.prog 5 #[.agg #[.slice za.A za.n za.c], .agg #[.slice zb.A zb.n zb.c]] w fun e w' => e = .returned (.bool true) ∧ Below w.heap.size w w' :=
  walk za zb w hza hzb
end Go.Proofs.Ytjeoiebdchlilaa.LAstGrows
