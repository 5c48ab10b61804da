/- AstLens: no tree has more bytes at least than at most; what repeats it once more has at least as many; what keeps it together has as many. -/
import Derived.Test.YtjeoiebdchlilaaZ2
import Derived.Test.YtjeoiebdchlilaaZ1
import Derived.Test.YtjeoiebdchlilaaDAlgB
import Derived.Test.YtjeoiebdchlilaaDForkK
import Derived.Test.YtjeoiebdchlilaaDLenP
namespace Go.Proofs.Ytjeoiebdchlilaa.LAstLens
open Go.RowKit CMem DRow DDeep DSizes DFits DLens DSpec DGrp DCon DOdd DRowN DWrap DJoin DGrouped DRight DRJoin DRFits DRef DRefB DCut DTree DKit DFix DFixed DArg DAlg DAlgB DForkK DLenP Q Go.Proofs.YtjeoiebdchlilaaW.PrintWords Go.Proofs.YtjeoiebdchlilaaW.PrintLast Go.Proofs.YtjeoiebdchlilaaW.PrintMore
set_option linter.unusedVariables false
set_option linter.unusedSimpArgs false
set_option maxRecDepth 100000
set_option maxHeartbeats 12800000 in
theorem walk (z : TreeArg) (kk : Int) (w : World) (hz : TreeIn w z) (hk0 : 0 ≤ kk) (hk1 : kk < 256) :
    Calls Try.prog 6 #[.agg #[.slice z.A z.n z.c], .int .u8 kk] w fun e w' => e = .returned (.bool true) ∧ Below w.heap.size w w' := by
  obtain ⟨At, n, c, L⟩ := z
  obtain ⟨h1, hlet, hcapt, hC⟩ := hz
  simp only [] at h1 hlet hcapt hC ⊢
  obtain ⟨k, hkt⟩ : ∃ k, k = min n 60 := ⟨_, rfl⟩
  obtain ⟨Lt, hLt⟩ : ∃ l, L.take k = l := ⟨_, rfl⟩
  have hnt : Lt.length = k := by rw [← hLt, List.length_take]; omega
  have hk5 : k ≤ 60 := by omega
  have hk6 : k ≤ 500 := by omega
  have HCt := Lib.hid (fun W (hb : Below w.heap.size w W) => (hLt ▸ C_take (Kd.C_below (w1 := W) hC hb) (show k ≤ n by omega) : Kd.C k43 W At k Lt))
  obtain ⟨x, hx⟩ : ∃ r, dep Lt = r := ⟨_, rfl⟩
  obtain ⟨I0, a, b, e, hI0, hl0, P0, P1⟩ := first_len Lt k hnt hk5
  obtain ⟨g, hg⟩ : ∃ g, (wrap64 kk).tmod 100 = g := ⟨_, rfl⟩
  obtain ⟨N, hN⟩ : ∃ r, k + 1 = r := ⟨_, rfl⟩
  have HX := Lib.hid hx
  replace hl0 := Lib.hid hl0
  replace P0 := Lib.hid P0
  replace P1 := Lib.hid P1
  have hg0 : 0 ≤ g ∧ g ≤ 99 := by rw [← hg, show wrap64 kk = kk by unfold wrap64; omega, Int.tmod_eq_emod_of_nonneg hk0]; omega
  have HK := Lib.hid (And.intro hk5 (And.intro hg0 hg))
  have hN5 : Hid (N ≤ 500) := Lib.hid (by omega)
  have hmN_ : Hid (N ≤ 1001) := Lib.hid (by omega)
  have hn9 : Hid (k ≤ 999) := Lib.hid (by omega)
  have hmt : Hid (k ≤ 1000) := Lib.hid (by omega)
  clear hx hC h1 hLt hk5 hk0 hk1 hg0 hg
  replace hkt := Lib.hid hkt
  replace hlet := Lib.hid hlet
  replace hcapt := Lib.hid hcapt
  replace hnt := Lib.hid hnt
  replace hk6 := Lib.hid hk6
  replace hN := Lib.hid hN
  have Q0_0 := Lib.hid (heap_alloc_new w (.cells #[.slice At n c] 24))
  have HB_0 := Lib.hid (below1 w (.cells #[.slice At n c] 24))
  have M0_0 := blk_cell Q0_0.out 0 (.slice At n c) rfl
  go_enter Try.func6, Try.ntmps6
  go_wp2_with fail
  generalize hW : w.alloc (.cells #[.slice At n c] 24) = v0 at *
  clear hW
  refine (cut_calls At c n k 60 hkt.out hlet.out hcapt.out (by decide) _).mono ?_
  -- cut
  rintro e w1 ⟨⟨ct, rfl, hct⟩, hb⟩
  have R_ := below_blk hb Q0_0.out
  have q_ := blk_cell R_ 0 (.slice At n c) rfl
  have f_ := blk_free R_ 0
  have Q0_1 := Lib.hid (set_blk (i := 0) R_ (.slice At k ct))
  have HB_1 := Lib.hid (CMem.below_set (b := w.heap.size) (i := 0) (below_step HB_0.out hb) (by omega) (.slice At k ct))
  have HHt := Lib.hid hct
  clear hb R_ hct HB_0 Q0_0 M0_0
  have M0_1 := blk_cell Q0_1.out 0 (.slice At k ct) rfl
  go_wp2_with fail
  generalize hW : w1.setCell ⟨w.heap.size, 0, none⟩ (.slice At k ct) = v1 at *
  clear hW q_ f_
  have Bt_1 := Q0_1
  have Lt_1 := M0_1
  clear Q0_1 M0_1
  refine (len_tree At ct Lt k I0 a b e hnt.out hk6.out hl0.out _ (HCt.out _ HB_1.out)).mono ?_
  rintro e w2 ⟨rfl, hb⟩
  have Bt_2 := Lib.hid (below_blk hb Bt_1.out)
  have Lt_2 := blk_cell Bt_2.out 0 (.slice At k ct) rfl
  have HB_2 := Lib.hid (below_step HB_1.out hb)
  clear hb HB_1 Bt_1 Lt_1
  rcases Decidable.em (¬ e = 0) with he | he
  · obtain ⟨rfl, rfl⟩ := P0.out he
    have he2 : (e != 0) = true := by simpa using he
    have he3 : (e == 0) = false := by simpa using he
    go_wp2_with fail
    refine (fixed_calls _).mono ?_
    rintro e w3 ⟨rfl, hb⟩
    have Bt_3 := Lib.hid (below_blk hb Bt_2.out)
    have Lt_3 := blk_cell Bt_3.out 0 (.slice At k ct) rfl
    have HB_3 := Lib.hid (below_step HB_2.out hb)
    clear hb HB_2 Bt_2 Lt_2
    go_wp2
    go_ret
    exact ⟨rfl, HB_3.out⟩
  replace he := Decidable.not_not.1 he
  subst he
  go_wp2_with fail
  refine (deep_tree At ct Lt k x hnt.out hk6.out HX.out _ (HCt.out _ HB_2.out)).mono ?_
  rintro e w3 ⟨rfl, hb⟩
  have Bt_3 := Lib.hid (below_blk hb Bt_2.out)
  have Lt_3 := blk_cell Bt_3.out 0 (.slice At k ct) rfl
  have HB_3 := Lib.hid (below_step HB_2.out hb)
  clear hb HB_2 Bt_2 Lt_2
  rcases Decidable.em (39 ≤ x) with hx9 | hx9
  · have hx5 : decide (39 ≤ x) = true := by simpa using hx9
    go_wp2_with fail
    refine (fixed_calls _).mono ?_
    rintro e w4 ⟨rfl, hb⟩
    have Bt_4 := Lib.hid (below_blk hb Bt_3.out)
    have Lt_4 := blk_cell Bt_4.out 0 (.slice At k ct) rfl
    have HB_4 := Lib.hid (below_step HB_3.out hb)
    clear hb HB_3 Bt_3 Lt_3
    go_wp2
    go_ret
    exact ⟨rfl, HB_4.out⟩
  have hx5 : decide (39 ≤ x) = false := by simpa using hx9
  have hx6 : x < 39 := by omega
  have hg := HK.out.2.2
  obtain ⟨g1, hg1⟩ : ∃ g1, wrap64 (g + 1) = g1 := ⟨_, rfl⟩
  have hg2 : g1 = g + 1 := by have := HK.out.2.1; rw [← hg1]; unfold wrap64; omega
  replace hg2 := Lib.hid hg2
  go_wp2_with fail
  obtain ⟨LU, hLU⟩ : ∃ r, Lt ++ [⟨10, (k : Int) - 1, 0, ⟨⟨0, 0, 0, 0⟩⟩, g, g, 0, 0, false⟩] = r := ⟨_, rfl⟩
  obtain ⟨LV, hLV⟩ : ∃ r, Lt ++ [⟨10, (k : Int) - 1, 0, ⟨⟨0, 0, 0, 0⟩⟩, g1, -1, 0, 0, false⟩] = r := ⟨_, rfl⟩
  obtain ⟨LY, hLY⟩ : ∃ r, Lt ++ [⟨17, (k : Int) - 1, 0, ⟨⟨0, 0, 0, 0⟩⟩, 0, 0, 0, 0, false⟩] = r := ⟨_, rfl⟩
  have hnU_ : LU.length = N := by rw [← hLU, ← hN.out]; simp [hnt.out]
  have hnV_ : LV.length = N := by rw [← hLV, ← hN.out]; simp [hnt.out]
  have hnY_ : LY.length = N := by rw [← hLY, ← hN.out]; simp [hnt.out]
  obtain ⟨I, c1, d1, u1, v1_, hI, hl1, hl2, hl3, q1, q2, q3, q4⟩ := wraps_len Lt LU LV LY k N a b g g1 hnt.out HK.out.1 (P1.out trivial).1 (by rw [HX.out]; exact hx6) (P1.out trivial).2 HK.out.2.1.1 HK.out.2.1.2 hg2.out hN.out hLU hLV hLY
  replace hI := Lib.hid hI
  replace hl1 := Lib.hid hl1
  replace hl2 := Lib.hid hl2
  replace hl3 := Lib.hid hl3
  replace q1 := Lib.hid q1
  replace q2 := Lib.hid q2
  replace q3 := Lib.hid q3
  replace q4 := Lib.hid q4
  have hmU_ : Hid (N ≤ 1001) := hmN_
  have hmV_ : Hid (N ≤ 1001) := hmN_
  replace hLU := Lib.hid hLU
  replace hLV := Lib.hid hLV
  replace hLY := Lib.hid hLY
  replace hnU_ := Lib.hid hnU_
  replace hnV_ := Lib.hid hnV_
  replace hnY_ := Lib.hid hnY_
  clear hx5 hx6 hx9 P0 P1 hg
  have hZ := Lib.hid (Below.refl w3.heap.size w3)
  refine start_ (n := 14) (S := fun w' => w'.cell? ⟨w.heap.size, 0, none⟩ = some (.slice At k ct) ∧ Below w3.heap.size w3 w') (ds := [12, 13]) #[false, false, false, false, false, false, false, false, false, false, false, false, false, false] (by kernel_rfl) rfl rfl ⟨Lt_3, hZ.out.drew⟩ (fun hHeld => ?_)
  refine pure_ (i := 1) (N := some 57) (v := ?_) (a' := ?_) #[false, true, false, false, false, false, false, false, false, false, false, false, false, false] rfl rfl (by kernel_rfl) (fun _ _ _ h => h) (Or.inl ⟨by rfl, ?_⟩) ?_ ?_
  rotate_left
  · intro w'
    go_simp
    with_reducible rfl
  rotate_left
  · simp only [Act.put, List.setIfInBounds_toArray, List.set_cons_zero, List.set_cons_succ, i64_w, i32_w]
    rfl
  refine pure_ (i := 2) (N := some 58) (v := ?_) (a' := ?_) #[false, true, true, false, false, false, false, false, false, false, false, false, false, false] rfl rfl (by kernel_rfl) (fun _ _ _ h => h) (Or.inl ⟨by rfl, ?_⟩) ?_ ?_
  rotate_left
  · intro w'
    go_simp
    with_reducible rfl
  rotate_left
  · simp only [Act.put, List.setIfInBounds_toArray, List.set_cons_zero, List.set_cons_succ, i64_w, i32_w]
    rfl
  refine pure_ (i := 3) (N := some 59) (v := ?_) (a' := ?_) #[false, true, true, true, false, false, false, false, false, false, false, false, false, false] rfl rfl (by kernel_rfl) (fun _ _ _ h => h) (Or.inl ⟨by rfl, ?_⟩) ?_ ?_
  rotate_left
  · intro w'
    go_simp
    with_reducible rfl
  rotate_left
  · simp only [Act.put, List.setIfInBounds_toArray, List.set_cons_zero, List.set_cons_succ, i64_w, i32_w]
    rfl
  refine pure_ (i := 6) (N := some 62) (v := ?_) (a' := ?_) #[false, true, true, true, false, false, true, false, false, false, false, false, false, false] rfl rfl (by kernel_rfl) (fun _ _ _ h => h) (Or.inl ⟨by rfl, ?_⟩) ?_ ?_
  rotate_left
  · intro w'
    go_simp
    with_reducible rfl
  rotate_left
  · simp only [Act.put, List.setIfInBounds_toArray, List.set_cons_zero, List.set_cons_succ, i64_w, i32_w]
    rfl
  refine pure_ (i := 7) (N := some 63) (v := ?_) (a' := ?_) #[false, true, true, true, false, false, true, true, false, false, false, false, false, false] rfl rfl (by kernel_rfl) (fun _ _ _ h => h) (Or.inl ⟨by rfl, ?_⟩) ?_ ?_
  rotate_left
  · intro w'
    go_simp
    with_reducible rfl
  rotate_left
  · simp only [Act.put, List.setIfInBounds_toArray, List.set_cons_zero, List.set_cons_succ, i64_w, i32_w]
    rfl
  refine pure_ (i := 8) (N := some 64) (v := ?_) (a' := ?_) #[false, true, true, true, false, false, true, true, true, false, false, false, false, false] rfl rfl (by kernel_rfl) (fun _ _ _ h => h) (Or.inl ⟨by rfl, ?_⟩) ?_ ?_
  rotate_left
  · intro w'
    go_simp
    with_reducible rfl
  rotate_left
  · simp only [Act.put, List.setIfInBounds_toArray, List.set_cons_zero, List.set_cons_succ, i64_w, i32_w]
    rfl
  refine take_ (i := 0) (N := some 56) (v := ?_) (a' := ?_) #[true, true, true, true, false, false, true, true, true, false, false, false, false, false] rfl rfl (by kernel_rfl) (fun _ _ _ h => h) (Or.inl ⟨by rfl, ?_⟩) hHeld ?_ ?_
  rotate_left
  · rintro w' ⟨s0, s1⟩
    go_simp
    with_reducible rfl
  rotate_left
  · simp only [Act.put, List.setIfInBounds_toArray, List.set_cons_zero, List.set_cons_succ, i64_w, i32_w]
    rfl
  refine take_ (i := 5) (N := some 61) (v := ?_) (a' := ?_) #[true, true, true, true, false, true, true, true, true, false, false, false, false, false] rfl rfl (by kernel_rfl) (fun _ _ _ h => h) (Or.inl ⟨by rfl, ?_⟩) hHeld ?_ ?_
  rotate_left
  · rintro w' ⟨s0, s1⟩
    go_simp
    with_reducible rfl
  rotate_left
  · simp only [Act.put, List.setIfInBounds_toArray, List.set_cons_zero, List.set_cons_succ, i64_w, i32_w]
    rfl
  refine join_ (σ := Nat × Nat × (Option Addr × Nat) × (Option Addr × Nat)) 2 #[true, true, true, true, true, true, true, true, true, true, true, true, false, false] (fun s => [(60, .agg #[.slice s.2.2.1.1 N s.2.2.1.2]), (65, .agg #[.slice s.2.2.2.1 N s.2.2.2.2]), (9, .pointer (some ⟨s.1, 0, none⟩)), (10, .pointer (some ⟨s.2.1, 0, none⟩))]) (fun s w' => w'.heap[s.1]? = some (.cells #[.slice none 0 0] 24 (0, 0)) ∧ w'.heap[s.2.1]? = some (.cells #[.slice none 0 0] 24 (0, 0)) ∧ w3.heap.size ≤ s.1 ∧ w3.heap.size ≤ s.2.1 ∧ s.1 ≠ s.2.1 ∧ w'.ownsRow w3.heap.size 43 12 (.slice s.2.2.1.1 N s.2.2.1.2) N (ra LU) ∧ w'.ownsRow w3.heap.size 43 12 (.slice s.2.2.2.1 N s.2.2.2.2) N (ra LV) ∧ N ≤ s.2.2.1.2 ∧ N ≤ s.2.2.2.2 ∧ w'.cell? ⟨w.heap.size, 0, none⟩ = some (.slice At k ct) ∧ Below w3.heap.size w3 w') ?_ ?_
  rotate_left
  · intro hCont
    refine three_ (i := 4) (j := 10) (k := 11) (Ni := some 60) (Nj := some 9) (Nk := some 10) #[true, true, true, true, true, true, true, true, true, false, false, false, false, false] #[true, true, true, true, false, true, true, true, true, false, true, false, false, false] #[true, true, true, true, false, true, true, true, true, false, false, true, false, false] rfl rfl rfl rfl rfl rfl (by kernel_rfl) (by decide) (by decide) (by decide) (fun K hK => ?_) (fun K hK => ?_) (fun K hK => ?_)
    · skip
      refine goes_ Try.func21 (by kernel_rfl) rfl #[.agg #[.slice At k ct], .agg #[.int .i64 10, .int .i64 0, .int .i64 0, .int .u64 0, .int .u64 0, .int .u64 0, .int .u64 0, .int .i64 g, .int .i64 g, .int .i64 0, .int .i64 0, .bool false]] (by rfl) rfl rfl (by simp only [List.map_toArray, List.map_cons, List.map_nil]; rfl) ?_
      with_reducible refine (wrap_own At ct Lt LU k N hnt.out hn9.out hN.out 10 0 0 0 0 0 0 g g 0 0 false hLU.out _ (HCt.out _ (below_step HB_3.out hHeld.2))).mono ?_
      rintro e X4 ⟨⟨v_, rfl, hoU⟩, hb4⟩
      refine ⟨_, rfl, ?_⟩
      obtain ⟨AU, cU, rfl, hleU, _⟩ := own_C (n := N) hnU_ hmU_.out hoU
      replace hoU := own_weaken hoU (hHeld.2).size
      refine hK.out _ _ ⟨(below_of hb4 hHeld.1), (below_step hHeld.2 hb4)⟩ (fun hHeld => ?_)
      clear hK K
      refine norm_ (a' := ?_) ?_ ?_
      rotate_left
      · show Act.put _ (some 60) _ = _
        simp only [Act.put, List.setIfInBounds_toArray, List.set_cons_zero, List.set_cons_succ, i64_w, i32_w]
        rfl
      refine three_ (i := 9) (j := 10) (k := 11) (Ni := some 65) (Nj := some 9) (Nk := some 10) #[true, true, true, true, true, true, true, true, true, true, false, false, false, false] #[true, true, true, true, true, true, true, true, true, false, true, false, false, false] #[true, true, true, true, true, true, true, true, true, false, false, true, false, false] rfl rfl rfl rfl rfl rfl (by kernel_rfl) (by decide) (by decide) (by decide) (fun K hK => ?_) (fun K hK => ?_) (fun K hK => ?_)
      · skip
        refine goes_ Try.func21 (by kernel_rfl) rfl #[.agg #[.slice At k ct], .agg #[.int .i64 10, .int .i64 0, .int .i64 0, .int .u64 0, .int .u64 0, .int .u64 0, .int .u64 0, .int .i64 g1, .int .i64 (-1), .int .i64 0, .int .i64 0, .bool false]] (by rfl) rfl rfl (by simp only [List.map_toArray, List.map_cons, List.map_nil]; rfl) ?_
        with_reducible refine (wrap_own At ct Lt LV k N hnt.out hn9.out hN.out 10 0 0 0 0 0 0 g1 (-1) 0 0 false hLV.out _ (HCt.out _ (below_step HB_3.out hHeld.2))).mono ?_
        rintro e X9 ⟨⟨v_, rfl, hoV⟩, hb9⟩
        refine ⟨_, rfl, ?_⟩
        obtain ⟨AV, cV, rfl, hleV, _⟩ := own_C (n := N) hnV_ hmV_.out hoV
        replace hoV := own_weaken hoV (hHeld.2).size
        replace hoU := own_below hoU hb9
        refine hK.out _ _ ⟨(below_of hb9 hHeld.1), (below_step hHeld.2 hb9)⟩ (fun hHeld => ?_)
        clear hK K
        refine norm_ (a' := ?_) ?_ ?_
        rotate_left
        · show Act.put _ (some 65) _ = _
          simp only [Act.put, List.setIfInBounds_toArray, List.set_cons_zero, List.set_cons_succ, i64_w, i32_w]
          rfl
        refine two_ (i := 10) (j := 11) (Ni := some 9) (Nj := some 10) #[true, true, true, true, true, true, true, true, true, true, true, false, false, false] #[true, true, true, true, true, true, true, true, true, true, false, true, false, false] rfl rfl rfl rfl (by kernel_rfl) (by decide) (by decide) (fun K hK => ?_) (fun K hK => ?_)
        · skip
          refine value_ (w1 := ?_) (v := ?_) (by rfl) rfl ?_ ?_
          rotate_left 2
          · go_simp
            constructor
            · rfl
            · rfl
          refine letter_ ?_
          intro X10 hW
          have hb10 : Below X9.heap.size X9 X10 := by rw [hW]; exact below1 _ _
          have RU : X10.heap[X9.heap.size]? = some (.cells #[.slice none 0 0] 24 (0, 0)) := by rw [hW]; exact heap_alloc_new _ _
          have leU := (hHeld.2).size
          clear hW
          replace hoU := own_below hoU hb10
          replace hoV := own_below hoV hb10
          refine hK.out _ _ ⟨(below_of hb10 hHeld.1), (below_step hHeld.2 hb10)⟩ (fun hHeld => ?_)
          clear hK K
          refine norm_ (a' := ?_) ?_ ?_
          rotate_left
          · show Act.put _ (some 9) _ = _
            simp only [Act.put, List.setIfInBounds_toArray, List.set_cons_zero, List.set_cons_succ, i64_w, i32_w]
            rfl
          refine one_ (i := 11) (N := some 10) #[true, true, true, true, true, true, true, true, true, true, true, true, false, false] rfl rfl (by kernel_rfl) (by decide) (fun K hK => ?_)
          refine value_ (w1 := ?_) (v := ?_) (by rfl) rfl ?_ ?_
          rotate_left 2
          · go_simp
            constructor
            · rfl
            · rfl
          refine letter_ ?_
          intro X11 hW
          have hb11 : Below X10.heap.size X10 X11 := by rw [hW]; exact below1 _ _
          have RV : X11.heap[X10.heap.size]? = some (.cells #[.slice none 0 0] 24 (0, 0)) := by rw [hW]; exact heap_alloc_new _ _
          have leV := (hHeld.2).size
          have neU_V := Nat.ne_of_lt (lt_of_blk RU)
          clear hW
          replace hoU := own_below hoU hb11
          replace hoV := own_below hoV hb11
          replace RU := below_blk hb11 RU
          refine hK.out _ _ ⟨(below_of hb11 hHeld.1), (below_step hHeld.2 hb11)⟩ (fun hHeld => ?_)
          clear hK K
          refine norm_ (a' := ?_) ?_ ?_
          rotate_left
          · show Act.put _ (some 10) _ = _
            simp only [Act.put, List.setIfInBounds_toArray, List.set_cons_zero, List.set_cons_succ, i64_w, i32_w]
            rfl
          exact norm_ (by simp only [putAll, Act.put, List.setIfInBounds_toArray, List.set_cons_zero, List.set_cons_succ]) (hCont (X9.heap.size, X10.heap.size, (AU, cU), (AV, cV)) _ ⟨RU, RV, leU, leV, neU_V, hoU, hoV, hleU, hleV, hHeld⟩)
        · skip
          refine value_ (w1 := ?_) (v := ?_) (by rfl) rfl ?_ ?_
          rotate_left 2
          · go_simp
            constructor
            · rfl
            · rfl
          refine letter_ ?_
          intro X11 hW
          have hb11 : Below X9.heap.size X9 X11 := by rw [hW]; exact below1 _ _
          have RV : X11.heap[X9.heap.size]? = some (.cells #[.slice none 0 0] 24 (0, 0)) := by rw [hW]; exact heap_alloc_new _ _
          have leV := (hHeld.2).size
          clear hW
          replace hoU := own_below hoU hb11
          replace hoV := own_below hoV hb11
          refine hK.out _ _ ⟨(below_of hb11 hHeld.1), (below_step hHeld.2 hb11)⟩ (fun hHeld => ?_)
          clear hK K
          refine norm_ (a' := ?_) ?_ ?_
          rotate_left
          · show Act.put _ (some 10) _ = _
            simp only [Act.put, List.setIfInBounds_toArray, List.set_cons_zero, List.set_cons_succ, i64_w, i32_w]
            rfl
          refine one_ (i := 10) (N := some 9) #[true, true, true, true, true, true, true, true, true, true, true, true, false, false] rfl rfl (by kernel_rfl) (by decide) (fun K hK => ?_)
          refine value_ (w1 := ?_) (v := ?_) (by rfl) rfl ?_ ?_
          rotate_left 2
          · go_simp
            constructor
            · rfl
            · rfl
          refine letter_ ?_
          intro X10 hW
          have hb10 : Below X11.heap.size X11 X10 := by rw [hW]; exact below1 _ _
          have RU : X10.heap[X11.heap.size]? = some (.cells #[.slice none 0 0] 24 (0, 0)) := by rw [hW]; exact heap_alloc_new _ _
          have leU := (hHeld.2).size
          have neV_U := Nat.ne_of_lt (lt_of_blk RV)
          clear hW
          replace hoU := own_below hoU hb10
          replace hoV := own_below hoV hb10
          replace RV := below_blk hb10 RV
          refine hK.out _ _ ⟨(below_of hb10 hHeld.1), (below_step hHeld.2 hb10)⟩ (fun hHeld => ?_)
          clear hK K
          refine norm_ (a' := ?_) ?_ ?_
          rotate_left
          · show Act.put _ (some 9) _ = _
            simp only [Act.put, List.setIfInBounds_toArray, List.set_cons_zero, List.set_cons_succ, i64_w, i32_w]
            rfl
          exact norm_ (by simp only [putAll, Act.put, List.setIfInBounds_toArray, List.set_cons_zero, List.set_cons_succ]) (hCont (X11.heap.size, X9.heap.size, (AU, cU), (AV, cV)) _ ⟨RU, RV, leU, leV, neV_U.symm, hoU, hoV, hleU, hleV, hHeld⟩)
      · skip
        refine value_ (w1 := ?_) (v := ?_) (by rfl) rfl ?_ ?_
        rotate_left 2
        · go_simp
          constructor
          · rfl
          · rfl
        refine letter_ ?_
        intro X10 hW
        have hb10 : Below X4.heap.size X4 X10 := by rw [hW]; exact below1 _ _
        have RU : X10.heap[X4.heap.size]? = some (.cells #[.slice none 0 0] 24 (0, 0)) := by rw [hW]; exact heap_alloc_new _ _
        have leU := (hHeld.2).size
        clear hW
        replace hoU := own_below hoU hb10
        refine hK.out _ _ ⟨(below_of hb10 hHeld.1), (below_step hHeld.2 hb10)⟩ (fun hHeld => ?_)
        clear hK K
        refine norm_ (a' := ?_) ?_ ?_
        rotate_left
        · show Act.put _ (some 9) _ = _
          simp only [Act.put, List.setIfInBounds_toArray, List.set_cons_zero, List.set_cons_succ, i64_w, i32_w]
          rfl
        refine two_ (i := 9) (j := 11) (Ni := some 65) (Nj := some 10) #[true, true, true, true, true, true, true, true, true, true, true, false, false, false] #[true, true, true, true, true, true, true, true, true, false, true, true, false, false] rfl rfl rfl rfl (by kernel_rfl) (by decide) (by decide) (fun K hK => ?_) (fun K hK => ?_)
        · skip
          refine goes_ Try.func21 (by kernel_rfl) rfl #[.agg #[.slice At k ct], .agg #[.int .i64 10, .int .i64 0, .int .i64 0, .int .u64 0, .int .u64 0, .int .u64 0, .int .u64 0, .int .i64 g1, .int .i64 (-1), .int .i64 0, .int .i64 0, .bool false]] (by rfl) rfl rfl (by simp only [List.map_toArray, List.map_cons, List.map_nil]; rfl) ?_
          with_reducible refine (wrap_own At ct Lt LV k N hnt.out hn9.out hN.out 10 0 0 0 0 0 0 g1 (-1) 0 0 false hLV.out _ (HCt.out _ (below_step HB_3.out hHeld.2))).mono ?_
          rintro e X9 ⟨⟨v_, rfl, hoV⟩, hb9⟩
          refine ⟨_, rfl, ?_⟩
          obtain ⟨AV, cV, rfl, hleV, _⟩ := own_C (n := N) hnV_ hmV_.out hoV
          replace hoV := own_weaken hoV (hHeld.2).size
          replace hoU := own_below hoU hb9
          replace RU := below_blk hb9 RU
          refine hK.out _ _ ⟨(below_of hb9 hHeld.1), (below_step hHeld.2 hb9)⟩ (fun hHeld => ?_)
          clear hK K
          refine norm_ (a' := ?_) ?_ ?_
          rotate_left
          · show Act.put _ (some 65) _ = _
            simp only [Act.put, List.setIfInBounds_toArray, List.set_cons_zero, List.set_cons_succ, i64_w, i32_w]
            rfl
          refine one_ (i := 11) (N := some 10) #[true, true, true, true, true, true, true, true, true, true, true, true, false, false] rfl rfl (by kernel_rfl) (by decide) (fun K hK => ?_)
          refine value_ (w1 := ?_) (v := ?_) (by rfl) rfl ?_ ?_
          rotate_left 2
          · go_simp
            constructor
            · rfl
            · rfl
          refine letter_ ?_
          intro X11 hW
          have hb11 : Below X9.heap.size X9 X11 := by rw [hW]; exact below1 _ _
          have RV : X11.heap[X9.heap.size]? = some (.cells #[.slice none 0 0] 24 (0, 0)) := by rw [hW]; exact heap_alloc_new _ _
          have leV := (hHeld.2).size
          have neU_V := Nat.ne_of_lt (lt_of_blk RU)
          clear hW
          replace hoU := own_below hoU hb11
          replace RU := below_blk hb11 RU
          replace hoV := own_below hoV hb11
          refine hK.out _ _ ⟨(below_of hb11 hHeld.1), (below_step hHeld.2 hb11)⟩ (fun hHeld => ?_)
          clear hK K
          refine norm_ (a' := ?_) ?_ ?_
          rotate_left
          · show Act.put _ (some 10) _ = _
            simp only [Act.put, List.setIfInBounds_toArray, List.set_cons_zero, List.set_cons_succ, i64_w, i32_w]
            rfl
          exact norm_ (by simp only [putAll, Act.put, List.setIfInBounds_toArray, List.set_cons_zero, List.set_cons_succ]) (hCont (X4.heap.size, X9.heap.size, (AU, cU), (AV, cV)) _ ⟨RU, RV, leU, leV, neU_V, hoU, hoV, hleU, hleV, hHeld⟩)
        · skip
          refine value_ (w1 := ?_) (v := ?_) (by rfl) rfl ?_ ?_
          rotate_left 2
          · go_simp
            constructor
            · rfl
            · rfl
          refine letter_ ?_
          intro X11 hW
          have hb11 : Below X10.heap.size X10 X11 := by rw [hW]; exact below1 _ _
          have RV : X11.heap[X10.heap.size]? = some (.cells #[.slice none 0 0] 24 (0, 0)) := by rw [hW]; exact heap_alloc_new _ _
          have leV := (hHeld.2).size
          have neU_V := Nat.ne_of_lt (lt_of_blk RU)
          clear hW
          replace hoU := own_below hoU hb11
          replace RU := below_blk hb11 RU
          refine hK.out _ _ ⟨(below_of hb11 hHeld.1), (below_step hHeld.2 hb11)⟩ (fun hHeld => ?_)
          clear hK K
          refine norm_ (a' := ?_) ?_ ?_
          rotate_left
          · show Act.put _ (some 10) _ = _
            simp only [Act.put, List.setIfInBounds_toArray, List.set_cons_zero, List.set_cons_succ, i64_w, i32_w]
            rfl
          refine one_ (i := 9) (N := some 65) #[true, true, true, true, true, true, true, true, true, true, true, true, false, false] rfl rfl (by kernel_rfl) (by decide) (fun K hK => ?_)
          refine goes_ Try.func21 (by kernel_rfl) rfl #[.agg #[.slice At k ct], .agg #[.int .i64 10, .int .i64 0, .int .i64 0, .int .u64 0, .int .u64 0, .int .u64 0, .int .u64 0, .int .i64 g1, .int .i64 (-1), .int .i64 0, .int .i64 0, .bool false]] (by rfl) rfl rfl (by simp only [List.map_toArray, List.map_cons, List.map_nil]; rfl) ?_
          with_reducible refine (wrap_own At ct Lt LV k N hnt.out hn9.out hN.out 10 0 0 0 0 0 0 g1 (-1) 0 0 false hLV.out _ (HCt.out _ (below_step HB_3.out hHeld.2))).mono ?_
          rintro e X9 ⟨⟨v_, rfl, hoV⟩, hb9⟩
          refine ⟨_, rfl, ?_⟩
          obtain ⟨AV, cV, rfl, hleV, _⟩ := own_C (n := N) hnV_ hmV_.out hoV
          replace hoV := own_weaken hoV (hHeld.2).size
          replace hoU := own_below hoU hb9
          replace RU := below_blk hb9 RU
          replace RV := below_blk hb9 RV
          refine hK.out _ _ ⟨(below_of hb9 hHeld.1), (below_step hHeld.2 hb9)⟩ (fun hHeld => ?_)
          clear hK K
          refine norm_ (a' := ?_) ?_ ?_
          rotate_left
          · show Act.put _ (some 65) _ = _
            simp only [Act.put, List.setIfInBounds_toArray, List.set_cons_zero, List.set_cons_succ, i64_w, i32_w]
            rfl
          exact norm_ (by simp only [putAll, Act.put, List.setIfInBounds_toArray, List.set_cons_zero, List.set_cons_succ]) (hCont (X4.heap.size, X10.heap.size, (AU, cU), (AV, cV)) _ ⟨RU, RV, leU, leV, neU_V, hoU, hoV, hleU, hleV, hHeld⟩)
      · skip
        refine value_ (w1 := ?_) (v := ?_) (by rfl) rfl ?_ ?_
        rotate_left 2
        · go_simp
          constructor
          · rfl
          · rfl
        refine letter_ ?_
        intro X11 hW
        have hb11 : Below X4.heap.size X4 X11 := by rw [hW]; exact below1 _ _
        have RV : X11.heap[X4.heap.size]? = some (.cells #[.slice none 0 0] 24 (0, 0)) := by rw [hW]; exact heap_alloc_new _ _
        have leV := (hHeld.2).size
        clear hW
        replace hoU := own_below hoU hb11
        refine hK.out _ _ ⟨(below_of hb11 hHeld.1), (below_step hHeld.2 hb11)⟩ (fun hHeld => ?_)
        clear hK K
        refine norm_ (a' := ?_) ?_ ?_
        rotate_left
        · show Act.put _ (some 10) _ = _
          simp only [Act.put, List.setIfInBounds_toArray, List.set_cons_zero, List.set_cons_succ, i64_w, i32_w]
          rfl
        refine two_ (i := 9) (j := 10) (Ni := some 65) (Nj := some 9) #[true, true, true, true, true, true, true, true, true, true, false, true, false, false] #[true, true, true, true, true, true, true, true, true, false, true, true, false, false] rfl rfl rfl rfl (by kernel_rfl) (by decide) (by decide) (fun K hK => ?_) (fun K hK => ?_)
        · skip
          refine goes_ Try.func21 (by kernel_rfl) rfl #[.agg #[.slice At k ct], .agg #[.int .i64 10, .int .i64 0, .int .i64 0, .int .u64 0, .int .u64 0, .int .u64 0, .int .u64 0, .int .i64 g1, .int .i64 (-1), .int .i64 0, .int .i64 0, .bool false]] (by rfl) rfl rfl (by simp only [List.map_toArray, List.map_cons, List.map_nil]; rfl) ?_
          with_reducible refine (wrap_own At ct Lt LV k N hnt.out hn9.out hN.out 10 0 0 0 0 0 0 g1 (-1) 0 0 false hLV.out _ (HCt.out _ (below_step HB_3.out hHeld.2))).mono ?_
          rintro e X9 ⟨⟨v_, rfl, hoV⟩, hb9⟩
          refine ⟨_, rfl, ?_⟩
          obtain ⟨AV, cV, rfl, hleV, _⟩ := own_C (n := N) hnV_ hmV_.out hoV
          replace hoV := own_weaken hoV (hHeld.2).size
          replace hoU := own_below hoU hb9
          replace RV := below_blk hb9 RV
          refine hK.out _ _ ⟨(below_of hb9 hHeld.1), (below_step hHeld.2 hb9)⟩ (fun hHeld => ?_)
          clear hK K
          refine norm_ (a' := ?_) ?_ ?_
          rotate_left
          · show Act.put _ (some 65) _ = _
            simp only [Act.put, List.setIfInBounds_toArray, List.set_cons_zero, List.set_cons_succ, i64_w, i32_w]
            rfl
          refine one_ (i := 10) (N := some 9) #[true, true, true, true, true, true, true, true, true, true, true, true, false, false] rfl rfl (by kernel_rfl) (by decide) (fun K hK => ?_)
          refine value_ (w1 := ?_) (v := ?_) (by rfl) rfl ?_ ?_
          rotate_left 2
          · go_simp
            constructor
            · rfl
            · rfl
          refine letter_ ?_
          intro X10 hW
          have hb10 : Below X9.heap.size X9 X10 := by rw [hW]; exact below1 _ _
          have RU : X10.heap[X9.heap.size]? = some (.cells #[.slice none 0 0] 24 (0, 0)) := by rw [hW]; exact heap_alloc_new _ _
          have leU := (hHeld.2).size
          have neV_U := Nat.ne_of_lt (lt_of_blk RV)
          clear hW
          replace hoU := own_below hoU hb10
          replace RV := below_blk hb10 RV
          replace hoV := own_below hoV hb10
          refine hK.out _ _ ⟨(below_of hb10 hHeld.1), (below_step hHeld.2 hb10)⟩ (fun hHeld => ?_)
          clear hK K
          refine norm_ (a' := ?_) ?_ ?_
          rotate_left
          · show Act.put _ (some 9) _ = _
            simp only [Act.put, List.setIfInBounds_toArray, List.set_cons_zero, List.set_cons_succ, i64_w, i32_w]
            rfl
          exact norm_ (by simp only [putAll, Act.put, List.setIfInBounds_toArray, List.set_cons_zero, List.set_cons_succ]) (hCont (X9.heap.size, X4.heap.size, (AU, cU), (AV, cV)) _ ⟨RU, RV, leU, leV, neV_U.symm, hoU, hoV, hleU, hleV, hHeld⟩)
        · skip
          refine value_ (w1 := ?_) (v := ?_) (by rfl) rfl ?_ ?_
          rotate_left 2
          · go_simp
            constructor
            · rfl
            · rfl
          refine letter_ ?_
          intro X10 hW
          have hb10 : Below X11.heap.size X11 X10 := by rw [hW]; exact below1 _ _
          have RU : X10.heap[X11.heap.size]? = some (.cells #[.slice none 0 0] 24 (0, 0)) := by rw [hW]; exact heap_alloc_new _ _
          have leU := (hHeld.2).size
          have neV_U := Nat.ne_of_lt (lt_of_blk RV)
          clear hW
          replace hoU := own_below hoU hb10
          replace RV := below_blk hb10 RV
          refine hK.out _ _ ⟨(below_of hb10 hHeld.1), (below_step hHeld.2 hb10)⟩ (fun hHeld => ?_)
          clear hK K
          refine norm_ (a' := ?_) ?_ ?_
          rotate_left
          · show Act.put _ (some 9) _ = _
            simp only [Act.put, List.setIfInBounds_toArray, List.set_cons_zero, List.set_cons_succ, i64_w, i32_w]
            rfl
          refine one_ (i := 9) (N := some 65) #[true, true, true, true, true, true, true, true, true, true, true, true, false, false] rfl rfl (by kernel_rfl) (by decide) (fun K hK => ?_)
          refine goes_ Try.func21 (by kernel_rfl) rfl #[.agg #[.slice At k ct], .agg #[.int .i64 10, .int .i64 0, .int .i64 0, .int .u64 0, .int .u64 0, .int .u64 0, .int .u64 0, .int .i64 g1, .int .i64 (-1), .int .i64 0, .int .i64 0, .bool false]] (by rfl) rfl rfl (by simp only [List.map_toArray, List.map_cons, List.map_nil]; rfl) ?_
          with_reducible refine (wrap_own At ct Lt LV k N hnt.out hn9.out hN.out 10 0 0 0 0 0 0 g1 (-1) 0 0 false hLV.out _ (HCt.out _ (below_step HB_3.out hHeld.2))).mono ?_
          rintro e X9 ⟨⟨v_, rfl, hoV⟩, hb9⟩
          refine ⟨_, rfl, ?_⟩
          obtain ⟨AV, cV, rfl, hleV, _⟩ := own_C (n := N) hnV_ hmV_.out hoV
          replace hoV := own_weaken hoV (hHeld.2).size
          replace hoU := own_below hoU hb9
          replace RV := below_blk hb9 RV
          replace RU := below_blk hb9 RU
          refine hK.out _ _ ⟨(below_of hb9 hHeld.1), (below_step hHeld.2 hb9)⟩ (fun hHeld => ?_)
          clear hK K
          refine norm_ (a' := ?_) ?_ ?_
          rotate_left
          · show Act.put _ (some 65) _ = _
            simp only [Act.put, List.setIfInBounds_toArray, List.set_cons_zero, List.set_cons_succ, i64_w, i32_w]
            rfl
          exact norm_ (by simp only [putAll, Act.put, List.setIfInBounds_toArray, List.set_cons_zero, List.set_cons_succ]) (hCont (X11.heap.size, X4.heap.size, (AU, cU), (AV, cV)) _ ⟨RU, RV, leU, leV, neV_U.symm, hoU, hoV, hleU, hleV, hHeld⟩)
    · skip
      refine value_ (w1 := ?_) (v := ?_) (by rfl) rfl ?_ ?_
      rotate_left 2
      · go_simp
        constructor
        · rfl
        · rfl
      refine letter_ ?_
      intro X10 hW
      have hb10 : Below w3.drew.heap.size w3.drew X10 := by rw [hW]; exact below1 _ _
      have RU : X10.heap[w3.drew.heap.size]? = some (.cells #[.slice none 0 0] 24 (0, 0)) := by rw [hW]; exact heap_alloc_new _ _
      have leU := (hHeld.2).size
      clear hW
      refine hK.out _ _ ⟨(below_of hb10 hHeld.1), (below_step hHeld.2 hb10)⟩ (fun hHeld => ?_)
      clear hK K
      refine norm_ (a' := ?_) ?_ ?_
      rotate_left
      · show Act.put _ (some 9) _ = _
        simp only [Act.put, List.setIfInBounds_toArray, List.set_cons_zero, List.set_cons_succ, i64_w, i32_w]
        rfl
      refine two_ (i := 4) (j := 11) (Ni := some 60) (Nj := some 10) #[true, true, true, true, true, true, true, true, true, false, true, false, false, false] #[true, true, true, true, false, true, true, true, true, false, true, true, false, false] rfl rfl rfl rfl (by kernel_rfl) (by decide) (by decide) (fun K hK => ?_) (fun K hK => ?_)
      · skip
        refine goes_ Try.func21 (by kernel_rfl) rfl #[.agg #[.slice At k ct], .agg #[.int .i64 10, .int .i64 0, .int .i64 0, .int .u64 0, .int .u64 0, .int .u64 0, .int .u64 0, .int .i64 g, .int .i64 g, .int .i64 0, .int .i64 0, .bool false]] (by rfl) rfl rfl (by simp only [List.map_toArray, List.map_cons, List.map_nil]; rfl) ?_
        with_reducible refine (wrap_own At ct Lt LU k N hnt.out hn9.out hN.out 10 0 0 0 0 0 0 g g 0 0 false hLU.out _ (HCt.out _ (below_step HB_3.out hHeld.2))).mono ?_
        rintro e X4 ⟨⟨v_, rfl, hoU⟩, hb4⟩
        refine ⟨_, rfl, ?_⟩
        obtain ⟨AU, cU, rfl, hleU, _⟩ := own_C (n := N) hnU_ hmU_.out hoU
        replace hoU := own_weaken hoU (hHeld.2).size
        replace RU := below_blk hb4 RU
        refine hK.out _ _ ⟨(below_of hb4 hHeld.1), (below_step hHeld.2 hb4)⟩ (fun hHeld => ?_)
        clear hK K
        refine norm_ (a' := ?_) ?_ ?_
        rotate_left
        · show Act.put _ (some 60) _ = _
          simp only [Act.put, List.setIfInBounds_toArray, List.set_cons_zero, List.set_cons_succ, i64_w, i32_w]
          rfl
        refine two_ (i := 9) (j := 11) (Ni := some 65) (Nj := some 10) #[true, true, true, true, true, true, true, true, true, true, true, false, false, false] #[true, true, true, true, true, true, true, true, true, false, true, true, false, false] rfl rfl rfl rfl (by kernel_rfl) (by decide) (by decide) (fun K hK => ?_) (fun K hK => ?_)
        · skip
          refine goes_ Try.func21 (by kernel_rfl) rfl #[.agg #[.slice At k ct], .agg #[.int .i64 10, .int .i64 0, .int .i64 0, .int .u64 0, .int .u64 0, .int .u64 0, .int .u64 0, .int .i64 g1, .int .i64 (-1), .int .i64 0, .int .i64 0, .bool false]] (by rfl) rfl rfl (by simp only [List.map_toArray, List.map_cons, List.map_nil]; rfl) ?_
          with_reducible refine (wrap_own At ct Lt LV k N hnt.out hn9.out hN.out 10 0 0 0 0 0 0 g1 (-1) 0 0 false hLV.out _ (HCt.out _ (below_step HB_3.out hHeld.2))).mono ?_
          rintro e X9 ⟨⟨v_, rfl, hoV⟩, hb9⟩
          refine ⟨_, rfl, ?_⟩
          obtain ⟨AV, cV, rfl, hleV, _⟩ := own_C (n := N) hnV_ hmV_.out hoV
          replace hoV := own_weaken hoV (hHeld.2).size
          replace RU := below_blk hb9 RU
          replace hoU := own_below hoU hb9
          refine hK.out _ _ ⟨(below_of hb9 hHeld.1), (below_step hHeld.2 hb9)⟩ (fun hHeld => ?_)
          clear hK K
          refine norm_ (a' := ?_) ?_ ?_
          rotate_left
          · show Act.put _ (some 65) _ = _
            simp only [Act.put, List.setIfInBounds_toArray, List.set_cons_zero, List.set_cons_succ, i64_w, i32_w]
            rfl
          refine one_ (i := 11) (N := some 10) #[true, true, true, true, true, true, true, true, true, true, true, true, false, false] rfl rfl (by kernel_rfl) (by decide) (fun K hK => ?_)
          refine value_ (w1 := ?_) (v := ?_) (by rfl) rfl ?_ ?_
          rotate_left 2
          · go_simp
            constructor
            · rfl
            · rfl
          refine letter_ ?_
          intro X11 hW
          have hb11 : Below X9.heap.size X9 X11 := by rw [hW]; exact below1 _ _
          have RV : X11.heap[X9.heap.size]? = some (.cells #[.slice none 0 0] 24 (0, 0)) := by rw [hW]; exact heap_alloc_new _ _
          have leV := (hHeld.2).size
          have neU_V := Nat.ne_of_lt (lt_of_blk RU)
          clear hW
          replace RU := below_blk hb11 RU
          replace hoU := own_below hoU hb11
          replace hoV := own_below hoV hb11
          refine hK.out _ _ ⟨(below_of hb11 hHeld.1), (below_step hHeld.2 hb11)⟩ (fun hHeld => ?_)
          clear hK K
          refine norm_ (a' := ?_) ?_ ?_
          rotate_left
          · show Act.put _ (some 10) _ = _
            simp only [Act.put, List.setIfInBounds_toArray, List.set_cons_zero, List.set_cons_succ, i64_w, i32_w]
            rfl
          exact norm_ (by simp only [putAll, Act.put, List.setIfInBounds_toArray, List.set_cons_zero, List.set_cons_succ]) (hCont (w3.heap.size, X9.heap.size, (AU, cU), (AV, cV)) _ ⟨RU, RV, leU, leV, neU_V, hoU, hoV, hleU, hleV, hHeld⟩)
        · skip
          refine value_ (w1 := ?_) (v := ?_) (by rfl) rfl ?_ ?_
          rotate_left 2
          · go_simp
            constructor
            · rfl
            · rfl
          refine letter_ ?_
          intro X11 hW
          have hb11 : Below X4.heap.size X4 X11 := by rw [hW]; exact below1 _ _
          have RV : X11.heap[X4.heap.size]? = some (.cells #[.slice none 0 0] 24 (0, 0)) := by rw [hW]; exact heap_alloc_new _ _
          have leV := (hHeld.2).size
          have neU_V := Nat.ne_of_lt (lt_of_blk RU)
          clear hW
          replace RU := below_blk hb11 RU
          replace hoU := own_below hoU hb11
          refine hK.out _ _ ⟨(below_of hb11 hHeld.1), (below_step hHeld.2 hb11)⟩ (fun hHeld => ?_)
          clear hK K
          refine norm_ (a' := ?_) ?_ ?_
          rotate_left
          · show Act.put _ (some 10) _ = _
            simp only [Act.put, List.setIfInBounds_toArray, List.set_cons_zero, List.set_cons_succ, i64_w, i32_w]
            rfl
          refine one_ (i := 9) (N := some 65) #[true, true, true, true, true, true, true, true, true, true, true, true, false, false] rfl rfl (by kernel_rfl) (by decide) (fun K hK => ?_)
          refine goes_ Try.func21 (by kernel_rfl) rfl #[.agg #[.slice At k ct], .agg #[.int .i64 10, .int .i64 0, .int .i64 0, .int .u64 0, .int .u64 0, .int .u64 0, .int .u64 0, .int .i64 g1, .int .i64 (-1), .int .i64 0, .int .i64 0, .bool false]] (by rfl) rfl rfl (by simp only [List.map_toArray, List.map_cons, List.map_nil]; rfl) ?_
          with_reducible refine (wrap_own At ct Lt LV k N hnt.out hn9.out hN.out 10 0 0 0 0 0 0 g1 (-1) 0 0 false hLV.out _ (HCt.out _ (below_step HB_3.out hHeld.2))).mono ?_
          rintro e X9 ⟨⟨v_, rfl, hoV⟩, hb9⟩
          refine ⟨_, rfl, ?_⟩
          obtain ⟨AV, cV, rfl, hleV, _⟩ := own_C (n := N) hnV_ hmV_.out hoV
          replace hoV := own_weaken hoV (hHeld.2).size
          replace RU := below_blk hb9 RU
          replace hoU := own_below hoU hb9
          replace RV := below_blk hb9 RV
          refine hK.out _ _ ⟨(below_of hb9 hHeld.1), (below_step hHeld.2 hb9)⟩ (fun hHeld => ?_)
          clear hK K
          refine norm_ (a' := ?_) ?_ ?_
          rotate_left
          · show Act.put _ (some 65) _ = _
            simp only [Act.put, List.setIfInBounds_toArray, List.set_cons_zero, List.set_cons_succ, i64_w, i32_w]
            rfl
          exact norm_ (by simp only [putAll, Act.put, List.setIfInBounds_toArray, List.set_cons_zero, List.set_cons_succ]) (hCont (w3.heap.size, X4.heap.size, (AU, cU), (AV, cV)) _ ⟨RU, RV, leU, leV, neU_V, hoU, hoV, hleU, hleV, hHeld⟩)
      · skip
        refine value_ (w1 := ?_) (v := ?_) (by rfl) rfl ?_ ?_
        rotate_left 2
        · go_simp
          constructor
          · rfl
          · rfl
        refine letter_ ?_
        intro X11 hW
        have hb11 : Below X10.heap.size X10 X11 := by rw [hW]; exact below1 _ _
        have RV : X11.heap[X10.heap.size]? = some (.cells #[.slice none 0 0] 24 (0, 0)) := by rw [hW]; exact heap_alloc_new _ _
        have leV := (hHeld.2).size
        have neU_V := Nat.ne_of_lt (lt_of_blk RU)
        clear hW
        replace RU := below_blk hb11 RU
        refine hK.out _ _ ⟨(below_of hb11 hHeld.1), (below_step hHeld.2 hb11)⟩ (fun hHeld => ?_)
        clear hK K
        refine norm_ (a' := ?_) ?_ ?_
        rotate_left
        · show Act.put _ (some 10) _ = _
          simp only [Act.put, List.setIfInBounds_toArray, List.set_cons_zero, List.set_cons_succ, i64_w, i32_w]
          rfl
        refine one_ (i := 4) (N := some 60) #[true, true, true, true, true, true, true, true, true, false, true, true, false, false] rfl rfl (by kernel_rfl) (by decide) (fun K hK => ?_)
        refine goes_ Try.func21 (by kernel_rfl) rfl #[.agg #[.slice At k ct], .agg #[.int .i64 10, .int .i64 0, .int .i64 0, .int .u64 0, .int .u64 0, .int .u64 0, .int .u64 0, .int .i64 g, .int .i64 g, .int .i64 0, .int .i64 0, .bool false]] (by rfl) rfl rfl (by simp only [List.map_toArray, List.map_cons, List.map_nil]; rfl) ?_
        with_reducible refine (wrap_own At ct Lt LU k N hnt.out hn9.out hN.out 10 0 0 0 0 0 0 g g 0 0 false hLU.out _ (HCt.out _ (below_step HB_3.out hHeld.2))).mono ?_
        rintro e X4 ⟨⟨v_, rfl, hoU⟩, hb4⟩
        refine ⟨_, rfl, ?_⟩
        obtain ⟨AU, cU, rfl, hleU, _⟩ := own_C (n := N) hnU_ hmU_.out hoU
        replace hoU := own_weaken hoU (hHeld.2).size
        replace RU := below_blk hb4 RU
        replace RV := below_blk hb4 RV
        refine hK.out _ _ ⟨(below_of hb4 hHeld.1), (below_step hHeld.2 hb4)⟩ (fun hHeld => ?_)
        clear hK K
        refine norm_ (a' := ?_) ?_ ?_
        rotate_left
        · show Act.put _ (some 60) _ = _
          simp only [Act.put, List.setIfInBounds_toArray, List.set_cons_zero, List.set_cons_succ, i64_w, i32_w]
          rfl
        refine one_ (i := 9) (N := some 65) #[true, true, true, true, true, true, true, true, true, true, true, true, false, false] rfl rfl (by kernel_rfl) (by decide) (fun K hK => ?_)
        refine goes_ Try.func21 (by kernel_rfl) rfl #[.agg #[.slice At k ct], .agg #[.int .i64 10, .int .i64 0, .int .i64 0, .int .u64 0, .int .u64 0, .int .u64 0, .int .u64 0, .int .i64 g1, .int .i64 (-1), .int .i64 0, .int .i64 0, .bool false]] (by rfl) rfl rfl (by simp only [List.map_toArray, List.map_cons, List.map_nil]; rfl) ?_
        with_reducible refine (wrap_own At ct Lt LV k N hnt.out hn9.out hN.out 10 0 0 0 0 0 0 g1 (-1) 0 0 false hLV.out _ (HCt.out _ (below_step HB_3.out hHeld.2))).mono ?_
        rintro e X9 ⟨⟨v_, rfl, hoV⟩, hb9⟩
        refine ⟨_, rfl, ?_⟩
        obtain ⟨AV, cV, rfl, hleV, _⟩ := own_C (n := N) hnV_ hmV_.out hoV
        replace hoV := own_weaken hoV (hHeld.2).size
        replace RU := below_blk hb9 RU
        replace RV := below_blk hb9 RV
        replace hoU := own_below hoU hb9
        refine hK.out _ _ ⟨(below_of hb9 hHeld.1), (below_step hHeld.2 hb9)⟩ (fun hHeld => ?_)
        clear hK K
        refine norm_ (a' := ?_) ?_ ?_
        rotate_left
        · show Act.put _ (some 65) _ = _
          simp only [Act.put, List.setIfInBounds_toArray, List.set_cons_zero, List.set_cons_succ, i64_w, i32_w]
          rfl
        exact norm_ (by simp only [putAll, Act.put, List.setIfInBounds_toArray, List.set_cons_zero, List.set_cons_succ]) (hCont (w3.heap.size, X10.heap.size, (AU, cU), (AV, cV)) _ ⟨RU, RV, leU, leV, neU_V, hoU, hoV, hleU, hleV, hHeld⟩)
    · skip
      refine value_ (w1 := ?_) (v := ?_) (by rfl) rfl ?_ ?_
      rotate_left 2
      · go_simp
        constructor
        · rfl
        · rfl
      refine letter_ ?_
      intro X11 hW
      have hb11 : Below w3.drew.heap.size w3.drew X11 := by rw [hW]; exact below1 _ _
      have RV : X11.heap[w3.drew.heap.size]? = some (.cells #[.slice none 0 0] 24 (0, 0)) := by rw [hW]; exact heap_alloc_new _ _
      have leV := (hHeld.2).size
      clear hW
      refine hK.out _ _ ⟨(below_of hb11 hHeld.1), (below_step hHeld.2 hb11)⟩ (fun hHeld => ?_)
      clear hK K
      refine norm_ (a' := ?_) ?_ ?_
      rotate_left
      · show Act.put _ (some 10) _ = _
        simp only [Act.put, List.setIfInBounds_toArray, List.set_cons_zero, List.set_cons_succ, i64_w, i32_w]
        rfl
      refine two_ (i := 4) (j := 10) (Ni := some 60) (Nj := some 9) #[true, true, true, true, true, true, true, true, true, false, false, true, false, false] #[true, true, true, true, false, true, true, true, true, false, true, true, false, false] rfl rfl rfl rfl (by kernel_rfl) (by decide) (by decide) (fun K hK => ?_) (fun K hK => ?_)
      · skip
        refine goes_ Try.func21 (by kernel_rfl) rfl #[.agg #[.slice At k ct], .agg #[.int .i64 10, .int .i64 0, .int .i64 0, .int .u64 0, .int .u64 0, .int .u64 0, .int .u64 0, .int .i64 g, .int .i64 g, .int .i64 0, .int .i64 0, .bool false]] (by rfl) rfl rfl (by simp only [List.map_toArray, List.map_cons, List.map_nil]; rfl) ?_
        with_reducible refine (wrap_own At ct Lt LU k N hnt.out hn9.out hN.out 10 0 0 0 0 0 0 g g 0 0 false hLU.out _ (HCt.out _ (below_step HB_3.out hHeld.2))).mono ?_
        rintro e X4 ⟨⟨v_, rfl, hoU⟩, hb4⟩
        refine ⟨_, rfl, ?_⟩
        obtain ⟨AU, cU, rfl, hleU, _⟩ := own_C (n := N) hnU_ hmU_.out hoU
        replace hoU := own_weaken hoU (hHeld.2).size
        replace RV := below_blk hb4 RV
        refine hK.out _ _ ⟨(below_of hb4 hHeld.1), (below_step hHeld.2 hb4)⟩ (fun hHeld => ?_)
        clear hK K
        refine norm_ (a' := ?_) ?_ ?_
        rotate_left
        · show Act.put _ (some 60) _ = _
          simp only [Act.put, List.setIfInBounds_toArray, List.set_cons_zero, List.set_cons_succ, i64_w, i32_w]
          rfl
        refine two_ (i := 9) (j := 10) (Ni := some 65) (Nj := some 9) #[true, true, true, true, true, true, true, true, true, true, false, true, false, false] #[true, true, true, true, true, true, true, true, true, false, true, true, false, false] rfl rfl rfl rfl (by kernel_rfl) (by decide) (by decide) (fun K hK => ?_) (fun K hK => ?_)
        · skip
          refine goes_ Try.func21 (by kernel_rfl) rfl #[.agg #[.slice At k ct], .agg #[.int .i64 10, .int .i64 0, .int .i64 0, .int .u64 0, .int .u64 0, .int .u64 0, .int .u64 0, .int .i64 g1, .int .i64 (-1), .int .i64 0, .int .i64 0, .bool false]] (by rfl) rfl rfl (by simp only [List.map_toArray, List.map_cons, List.map_nil]; rfl) ?_
          with_reducible refine (wrap_own At ct Lt LV k N hnt.out hn9.out hN.out 10 0 0 0 0 0 0 g1 (-1) 0 0 false hLV.out _ (HCt.out _ (below_step HB_3.out hHeld.2))).mono ?_
          rintro e X9 ⟨⟨v_, rfl, hoV⟩, hb9⟩
          refine ⟨_, rfl, ?_⟩
          obtain ⟨AV, cV, rfl, hleV, _⟩ := own_C (n := N) hnV_ hmV_.out hoV
          replace hoV := own_weaken hoV (hHeld.2).size
          replace RV := below_blk hb9 RV
          replace hoU := own_below hoU hb9
          refine hK.out _ _ ⟨(below_of hb9 hHeld.1), (below_step hHeld.2 hb9)⟩ (fun hHeld => ?_)
          clear hK K
          refine norm_ (a' := ?_) ?_ ?_
          rotate_left
          · show Act.put _ (some 65) _ = _
            simp only [Act.put, List.setIfInBounds_toArray, List.set_cons_zero, List.set_cons_succ, i64_w, i32_w]
            rfl
          refine one_ (i := 10) (N := some 9) #[true, true, true, true, true, true, true, true, true, true, true, true, false, false] rfl rfl (by kernel_rfl) (by decide) (fun K hK => ?_)
          refine value_ (w1 := ?_) (v := ?_) (by rfl) rfl ?_ ?_
          rotate_left 2
          · go_simp
            constructor
            · rfl
            · rfl
          refine letter_ ?_
          intro X10 hW
          have hb10 : Below X9.heap.size X9 X10 := by rw [hW]; exact below1 _ _
          have RU : X10.heap[X9.heap.size]? = some (.cells #[.slice none 0 0] 24 (0, 0)) := by rw [hW]; exact heap_alloc_new _ _
          have leU := (hHeld.2).size
          have neV_U := Nat.ne_of_lt (lt_of_blk RV)
          clear hW
          replace RV := below_blk hb10 RV
          replace hoU := own_below hoU hb10
          replace hoV := own_below hoV hb10
          refine hK.out _ _ ⟨(below_of hb10 hHeld.1), (below_step hHeld.2 hb10)⟩ (fun hHeld => ?_)
          clear hK K
          refine norm_ (a' := ?_) ?_ ?_
          rotate_left
          · show Act.put _ (some 9) _ = _
            simp only [Act.put, List.setIfInBounds_toArray, List.set_cons_zero, List.set_cons_succ, i64_w, i32_w]
            rfl
          exact norm_ (by simp only [putAll, Act.put, List.setIfInBounds_toArray, List.set_cons_zero, List.set_cons_succ]) (hCont (X9.heap.size, w3.heap.size, (AU, cU), (AV, cV)) _ ⟨RU, RV, leU, leV, neV_U.symm, hoU, hoV, hleU, hleV, hHeld⟩)
        · skip
          refine value_ (w1 := ?_) (v := ?_) (by rfl) rfl ?_ ?_
          rotate_left 2
          · go_simp
            constructor
            · rfl
            · rfl
          refine letter_ ?_
          intro X10 hW
          have hb10 : Below X4.heap.size X4 X10 := by rw [hW]; exact below1 _ _
          have RU : X10.heap[X4.heap.size]? = some (.cells #[.slice none 0 0] 24 (0, 0)) := by rw [hW]; exact heap_alloc_new _ _
          have leU := (hHeld.2).size
          have neV_U := Nat.ne_of_lt (lt_of_blk RV)
          clear hW
          replace RV := below_blk hb10 RV
          replace hoU := own_below hoU hb10
          refine hK.out _ _ ⟨(below_of hb10 hHeld.1), (below_step hHeld.2 hb10)⟩ (fun hHeld => ?_)
          clear hK K
          refine norm_ (a' := ?_) ?_ ?_
          rotate_left
          · show Act.put _ (some 9) _ = _
            simp only [Act.put, List.setIfInBounds_toArray, List.set_cons_zero, List.set_cons_succ, i64_w, i32_w]
            rfl
          refine one_ (i := 9) (N := some 65) #[true, true, true, true, true, true, true, true, true, true, true, true, false, false] rfl rfl (by kernel_rfl) (by decide) (fun K hK => ?_)
          refine goes_ Try.func21 (by kernel_rfl) rfl #[.agg #[.slice At k ct], .agg #[.int .i64 10, .int .i64 0, .int .i64 0, .int .u64 0, .int .u64 0, .int .u64 0, .int .u64 0, .int .i64 g1, .int .i64 (-1), .int .i64 0, .int .i64 0, .bool false]] (by rfl) rfl rfl (by simp only [List.map_toArray, List.map_cons, List.map_nil]; rfl) ?_
          with_reducible refine (wrap_own At ct Lt LV k N hnt.out hn9.out hN.out 10 0 0 0 0 0 0 g1 (-1) 0 0 false hLV.out _ (HCt.out _ (below_step HB_3.out hHeld.2))).mono ?_
          rintro e X9 ⟨⟨v_, rfl, hoV⟩, hb9⟩
          refine ⟨_, rfl, ?_⟩
          obtain ⟨AV, cV, rfl, hleV, _⟩ := own_C (n := N) hnV_ hmV_.out hoV
          replace hoV := own_weaken hoV (hHeld.2).size
          replace RV := below_blk hb9 RV
          replace hoU := own_below hoU hb9
          replace RU := below_blk hb9 RU
          refine hK.out _ _ ⟨(below_of hb9 hHeld.1), (below_step hHeld.2 hb9)⟩ (fun hHeld => ?_)
          clear hK K
          refine norm_ (a' := ?_) ?_ ?_
          rotate_left
          · show Act.put _ (some 65) _ = _
            simp only [Act.put, List.setIfInBounds_toArray, List.set_cons_zero, List.set_cons_succ, i64_w, i32_w]
            rfl
          exact norm_ (by simp only [putAll, Act.put, List.setIfInBounds_toArray, List.set_cons_zero, List.set_cons_succ]) (hCont (X4.heap.size, w3.heap.size, (AU, cU), (AV, cV)) _ ⟨RU, RV, leU, leV, neV_U.symm, hoU, hoV, hleU, hleV, hHeld⟩)
      · skip
        refine value_ (w1 := ?_) (v := ?_) (by rfl) rfl ?_ ?_
        rotate_left 2
        · go_simp
          constructor
          · rfl
          · rfl
        refine letter_ ?_
        intro X10 hW
        have hb10 : Below X11.heap.size X11 X10 := by rw [hW]; exact below1 _ _
        have RU : X10.heap[X11.heap.size]? = some (.cells #[.slice none 0 0] 24 (0, 0)) := by rw [hW]; exact heap_alloc_new _ _
        have leU := (hHeld.2).size
        have neV_U := Nat.ne_of_lt (lt_of_blk RV)
        clear hW
        replace RV := below_blk hb10 RV
        refine hK.out _ _ ⟨(below_of hb10 hHeld.1), (below_step hHeld.2 hb10)⟩ (fun hHeld => ?_)
        clear hK K
        refine norm_ (a' := ?_) ?_ ?_
        rotate_left
        · show Act.put _ (some 9) _ = _
          simp only [Act.put, List.setIfInBounds_toArray, List.set_cons_zero, List.set_cons_succ, i64_w, i32_w]
          rfl
        refine one_ (i := 4) (N := some 60) #[true, true, true, true, true, true, true, true, true, false, true, true, false, false] rfl rfl (by kernel_rfl) (by decide) (fun K hK => ?_)
        refine goes_ Try.func21 (by kernel_rfl) rfl #[.agg #[.slice At k ct], .agg #[.int .i64 10, .int .i64 0, .int .i64 0, .int .u64 0, .int .u64 0, .int .u64 0, .int .u64 0, .int .i64 g, .int .i64 g, .int .i64 0, .int .i64 0, .bool false]] (by rfl) rfl rfl (by simp only [List.map_toArray, List.map_cons, List.map_nil]; rfl) ?_
        with_reducible refine (wrap_own At ct Lt LU k N hnt.out hn9.out hN.out 10 0 0 0 0 0 0 g g 0 0 false hLU.out _ (HCt.out _ (below_step HB_3.out hHeld.2))).mono ?_
        rintro e X4 ⟨⟨v_, rfl, hoU⟩, hb4⟩
        refine ⟨_, rfl, ?_⟩
        obtain ⟨AU, cU, rfl, hleU, _⟩ := own_C (n := N) hnU_ hmU_.out hoU
        replace hoU := own_weaken hoU (hHeld.2).size
        replace RV := below_blk hb4 RV
        replace RU := below_blk hb4 RU
        refine hK.out _ _ ⟨(below_of hb4 hHeld.1), (below_step hHeld.2 hb4)⟩ (fun hHeld => ?_)
        clear hK K
        refine norm_ (a' := ?_) ?_ ?_
        rotate_left
        · show Act.put _ (some 60) _ = _
          simp only [Act.put, List.setIfInBounds_toArray, List.set_cons_zero, List.set_cons_succ, i64_w, i32_w]
          rfl
        refine one_ (i := 9) (N := some 65) #[true, true, true, true, true, true, true, true, true, true, true, true, false, false] rfl rfl (by kernel_rfl) (by decide) (fun K hK => ?_)
        refine goes_ Try.func21 (by kernel_rfl) rfl #[.agg #[.slice At k ct], .agg #[.int .i64 10, .int .i64 0, .int .i64 0, .int .u64 0, .int .u64 0, .int .u64 0, .int .u64 0, .int .i64 g1, .int .i64 (-1), .int .i64 0, .int .i64 0, .bool false]] (by rfl) rfl rfl (by simp only [List.map_toArray, List.map_cons, List.map_nil]; rfl) ?_
        with_reducible refine (wrap_own At ct Lt LV k N hnt.out hn9.out hN.out 10 0 0 0 0 0 0 g1 (-1) 0 0 false hLV.out _ (HCt.out _ (below_step HB_3.out hHeld.2))).mono ?_
        rintro e X9 ⟨⟨v_, rfl, hoV⟩, hb9⟩
        refine ⟨_, rfl, ?_⟩
        obtain ⟨AV, cV, rfl, hleV, _⟩ := own_C (n := N) hnV_ hmV_.out hoV
        replace hoV := own_weaken hoV (hHeld.2).size
        replace RV := below_blk hb9 RV
        replace RU := below_blk hb9 RU
        replace hoU := own_below hoU hb9
        refine hK.out _ _ ⟨(below_of hb9 hHeld.1), (below_step hHeld.2 hb9)⟩ (fun hHeld => ?_)
        clear hK K
        refine norm_ (a' := ?_) ?_ ?_
        rotate_left
        · show Act.put _ (some 65) _ = _
          simp only [Act.put, List.setIfInBounds_toArray, List.set_cons_zero, List.set_cons_succ, i64_w, i32_w]
          rfl
        exact norm_ (by simp only [putAll, Act.put, List.setIfInBounds_toArray, List.set_cons_zero, List.set_cons_succ]) (hCont (X11.heap.size, w3.heap.size, (AU, cU), (AV, cV)) _ ⟨RU, RV, leU, leV, neV_U.symm, hoU, hoV, hleU, hleV, hHeld⟩)
  rintro ⟨PU, PV, ⟨AU, cU⟩, ⟨AV, cV⟩⟩ W4 ⟨RU, RV, leU, leV, neU_V, hoU, hoV, hleU, hleV, hHeld⟩
  simp only [] at RU RV leU leV hoU hoV hleU hleV
  refine norm_ (a' := ?_) ?_ ?_
  rotate_left
  · simp only [putAll, Act.put, List.setIfInBounds_toArray, List.set_cons_zero, List.set_cons_succ]
    rfl
  refine last_ (i := 12) (N := none) #[true, true, true, true, true, true, true, true, true, true, true, true, true, false] rfl rfl (by kernel_rfl) (by decide) (fun K hK => ?_)
  have c8 := blk_cell RU 0 (.slice none 0 0) rfl
  have f8 := blk_free RU 0
  refine skip_ (w1 := ?_) (by rfl) rfl ?_ ?_
  rotate_left
  · go_simp
    rfl
  refine hK.out _ _ ?_
  clear hK K
  refine last_ (i := 13) (N := none) #[true, true, true, true, true, true, true, true, true, true, true, true, true, true] rfl rfl (by kernel_rfl) (by decide) (fun K hK => ?_)
  have RV2 := set_other (c := PU) (i := 0) (v := .slice AU N cU) RV neU_V.symm
  have c9 := blk_cell RV2 0 (.slice none 0 0) rfl
  have f9 := blk_free RV2 0
  refine skip_ (w1 := ?_) (by rfl) rfl ?_ ?_
  rotate_left
  · go_simp
    rfl
  refine hK.out _ _ ?_
  clear hK K
  refine done_ (by kernel_rfl) ?_
  obtain ⟨_, hbz⟩ := hHeld
  have hb := CMem.below_set (b := PV) (i := 0) (CMem.below_set (b := PU) (i := 0) hbz leU (.slice AU N cU)) leV (.slice AV N cV)
  have BU_4 := Lib.hid (set_other (c := PV) (i := 0) (v := .slice AV N cV) (set_blk (i := 0) RU (.slice AU N cU)) neU_V)
  have BV_4 := Lib.hid (set_blk (i := 0) RV2 (.slice AV N cV))
  have CU_4 := Lib.hid (own_Cs hnU_.out hmU_.out (own_set (val := .slice AV N cV) (own_set (val := .slice AU N cU) hoU RU) RV2))
  have CV_4 := Lib.hid (own_Cs hnV_.out hmV_.out (own_set (val := .slice AV N cV) (own_set (val := .slice AU N cU) hoV RU) RV2))
  have LU_4 := blk_cell BU_4.out 0 (.slice AU N cU) rfl
  have LV_4 := blk_cell BV_4.out 0 (.slice AV N cV) rfl
  clear c8 f8 c9 f9 RU RV RV2 hoU hoV leU leV neU_V hleU hleV hbz hZ hg1
  have Bt_4 := Lib.hid (below_blk hb Bt_3.out)
  have Lt_4 := blk_cell Bt_4.out 0 (.slice At k ct) rfl
  have HB_4 := Lib.hid (below_step HB_3.out hb)
  clear hb HB_3 Bt_3 Lt_3
  generalize hW : (W4.setCell ⟨PU, 0, none⟩ (.slice AU N cU)).setCell ⟨PV, 0, none⟩ (.slice AV N cV) = v4 at *
  clear hW
  replace hI := hI.out
  go_wp2_with fail
  refine (len_tree AU cU LU N I c1 d1 0 hnU_.out hN5.out hl1.out _ CU_4.out).mono ?_
  rintro e w5 ⟨rfl, hb⟩
  have CU_5 := Lib.hid (Kd.C_below CU_4.out hb)
  have CV_5 := Lib.hid (Kd.C_below CV_4.out hb)
  have Bt_5 := Lib.hid (below_blk hb Bt_4.out)
  have Lt_5 := blk_cell Bt_5.out 0 (.slice At k ct) rfl
  have BU_5 := Lib.hid (below_blk hb BU_4.out)
  have LU_5 := blk_cell BU_5.out 0 (.slice AU N cU) rfl
  have BV_5 := Lib.hid (below_blk hb BV_4.out)
  have LV_5 := blk_cell BV_5.out 0 (.slice AV N cV) rfl
  have HB_5 := Lib.hid (below_step HB_4.out hb)
  clear hb HB_4 CU_4 CV_4 Bt_4 Lt_4 BU_4 LU_4 BV_4 LV_4
  go_wp2_with fail
  refine (len_tree AV cV LV N I u1 v1_ 0 hnV_.out hN5.out hl2.out _ CV_5.out).mono ?_
  rintro e w6 ⟨rfl, hb⟩
  have CU_6 := Lib.hid (Kd.C_below CU_5.out hb)
  have CV_6 := Lib.hid (Kd.C_below CV_5.out hb)
  have Bt_6 := Lib.hid (below_blk hb Bt_5.out)
  have Lt_6 := blk_cell Bt_6.out 0 (.slice At k ct) rfl
  have BU_6 := Lib.hid (below_blk hb BU_5.out)
  have LU_6 := blk_cell BU_6.out 0 (.slice AU N cU) rfl
  have BV_6 := Lib.hid (below_blk hb BV_5.out)
  have LV_6 := blk_cell BV_6.out 0 (.slice AV N cV) rfl
  have HB_6 := Lib.hid (below_step HB_5.out hb)
  clear hb HB_5 CU_5 CV_5 Bt_5 Lt_5 BU_5 LU_5 BV_5 LV_5
  go_wp2_with fail
  refine (wrap_tree At ct Lt LY k N hnt.out hn9.out hN.out 17 0 0 0 0 0 0 0 0 0 0 false hLY.out _ (HCt.out _ HB_6.out)).mono ?_
  rintro e w7 ⟨⟨AY, cY, rfl, hle, C⟩, hb⟩
  have CU_7 := Lib.hid (Kd.C_below (Kd.C_below CU_6.out hb) (below1 _ (.cells #[.slice AY N cY] 24)))
  have CV_7 := Lib.hid (Kd.C_below (Kd.C_below CV_6.out hb) (below1 _ (.cells #[.slice AY N cY] 24)))
  have CY_7 := Lib.hid (Kd.C_below C (below1 _ (.cells #[.slice AY N cY] 24)))
  have HY := Lib.hid hle
  clear C hle
  have Bt_7 := Lib.hid (blk_alloc (below_blk hb Bt_6.out) (.cells #[.slice AY N cY] 24))
  have Lt_7 := blk_cell Bt_7.out 0 (.slice At k ct) rfl
  have BU_7 := Lib.hid (blk_alloc (below_blk hb BU_6.out) (.cells #[.slice AY N cY] 24))
  have LU_7 := blk_cell BU_7.out 0 (.slice AU N cU) rfl
  have BV_7 := Lib.hid (blk_alloc (below_blk hb BV_6.out) (.cells #[.slice AY N cY] 24))
  have LV_7 := blk_cell BV_7.out 0 (.slice AV N cV) rfl
  have BY_7 := Lib.hid (heap_alloc_new w7 (.cells #[.slice AY N cY] 24))
  have HB_7 := Lib.hid ((below_step HB_6.out hb).alloc (below_step HB_6.out hb).size (.cells #[.slice AY N cY] 24))
  clear hb HB_6 CU_6 CV_6 Bt_6 Lt_6 BU_6 LU_6 BV_6 LV_6
  go_wp2_with fail
  generalize hW : w7.alloc (.cells #[.slice AY N cY] 24) = v7 at *
  clear hW
  generalize hPY : w7.heap.size = PY at *
  clear hPY
  have LY_7 := blk_cell BY_7.out 0 (.slice AY N cY) rfl
  refine (len_tree AY cY LY N I a b 0 hnY_.out hN5.out hl3.out _ CY_7.out).mono ?_
  rintro e w8 ⟨rfl, hb⟩
  have CU_8 := Lib.hid (Kd.C_below CU_7.out hb)
  have CV_8 := Lib.hid (Kd.C_below CV_7.out hb)
  have CY_8 := Lib.hid (Kd.C_below CY_7.out hb)
  have Bt_8 := Lib.hid (below_blk hb Bt_7.out)
  have Lt_8 := blk_cell Bt_8.out 0 (.slice At k ct) rfl
  have BU_8 := Lib.hid (below_blk hb BU_7.out)
  have LU_8 := blk_cell BU_8.out 0 (.slice AU N cU) rfl
  have BV_8 := Lib.hid (below_blk hb BV_7.out)
  have LV_8 := blk_cell BV_8.out 0 (.slice AV N cV) rfl
  have BY_8 := Lib.hid (below_blk hb BY_7.out)
  have LY_8 := blk_cell BY_8.out 0 (.slice AY N cY) rfl
  have HB_8 := Lib.hid (below_step HB_7.out hb)
  clear hb HB_7 CU_7 CV_7 CY_7 Bt_7 Lt_7 BU_7 LU_7 BV_7 LV_7 BY_7 LY_7
  have r1 := q1.out
  have r2 := q2.out
  have r3 : decide (u1 < c1) = false := by have := q3.out; simp; omega
  have r3b : ¬ u1 < c1 := by have := q3.out; omega
  have r4 := q4.out
  clear q1 q2 q3 q4
  have hcase : b = 0 ∨ b > 0 ∨ b < 0 := by omega
  have hcase2 : 0 ≤ d1 ∨ d1 < 0 := by omega
  rcases hcase2 with hd | hd
  · have t1 : ¬ d1 < c1 := by omega
    have t2 : decide (d1 < c1) = false := by simp; omega
    have t3 : decide (0 ≤ d1) = true := by simp; omega
    rcases hcase with hbb | hbb | hbb
    · subst hbb
      rw [if_pos rfl] at r4
      subst r4
      have s1 : ¬ 0 < a := by omega
      have s2 : decide (0 < a) = false := by simp; omega
      clear r1 r2
      go_wp2_with fail
      refine (fixed_calls _).mono ?_
      rintro e w9 ⟨rfl, hb⟩
      have CU_9 := Lib.hid (Kd.C_below CU_8.out hb)
      have CV_9 := Lib.hid (Kd.C_below CV_8.out hb)
      have CY_9 := Lib.hid (Kd.C_below CY_8.out hb)
      have Bt_9 := Lib.hid (below_blk hb Bt_8.out)
      have Lt_9 := blk_cell Bt_9.out 0 (.slice At k ct) rfl
      have BU_9 := Lib.hid (below_blk hb BU_8.out)
      have LU_9 := blk_cell BU_9.out 0 (.slice AU N cU) rfl
      have BV_9 := Lib.hid (below_blk hb BV_8.out)
      have LV_9 := blk_cell BV_9.out 0 (.slice AV N cV) rfl
      have BY_9 := Lib.hid (below_blk hb BY_8.out)
      have LY_9 := blk_cell BY_9.out 0 (.slice AY N cY) rfl
      have HB_9 := Lib.hid (below_step HB_8.out hb)
      clear hb HB_8 CU_8 CV_8 CY_8 Bt_8 Lt_8 BU_8 LU_8 BV_8 LV_8 BY_8 LY_8
      go_wp2
      go_ret
      exact ⟨rfl, HB_9.out⟩
    · rw [if_neg (by omega)] at r4
      subst r4
      have s0 : 0 ≤ b := by omega
      have s1 : ¬ b < a := by omega
      have s2 : decide (b < a) = false := by simp; omega
      have s3 : (b == 0) = false := by simp; omega
      have s4 : (b != 0) = true := by simp; omega
      have s5 : decide (0 ≤ b) = true := by simp; omega
      clear r1 r2
      go_wp2_with fail
      refine (fixed_calls _).mono ?_
      rintro e w9 ⟨rfl, hb⟩
      have CU_9 := Lib.hid (Kd.C_below CU_8.out hb)
      have CV_9 := Lib.hid (Kd.C_below CV_8.out hb)
      have CY_9 := Lib.hid (Kd.C_below CY_8.out hb)
      have Bt_9 := Lib.hid (below_blk hb Bt_8.out)
      have Lt_9 := blk_cell Bt_9.out 0 (.slice At k ct) rfl
      have BU_9 := Lib.hid (below_blk hb BU_8.out)
      have LU_9 := blk_cell BU_9.out 0 (.slice AU N cU) rfl
      have BV_9 := Lib.hid (below_blk hb BV_8.out)
      have LV_9 := blk_cell BV_9.out 0 (.slice AV N cV) rfl
      have BY_9 := Lib.hid (below_blk hb BY_8.out)
      have LY_9 := blk_cell BY_9.out 0 (.slice AY N cY) rfl
      have HB_9 := Lib.hid (below_step HB_8.out hb)
      clear hb HB_8 CU_8 CV_8 CY_8 Bt_8 Lt_8 BU_8 LU_8 BV_8 LV_8 BY_8 LY_8
      go_wp2
      go_ret
      exact ⟨rfl, HB_9.out⟩
    · rw [if_neg (by omega)] at r4
      subst r4
      have s0 : ¬ 0 ≤ b := by omega
      have s3 : (b == 0) = false := by simp; omega
      have s4 : (b != 0) = true := by simp; omega
      have s5 : decide (0 ≤ b) = false := by simp; omega
      clear r1 r2
      go_wp2_with fail
      refine (fixed_calls _).mono ?_
      rintro e w9 ⟨rfl, hb⟩
      have CU_9 := Lib.hid (Kd.C_below CU_8.out hb)
      have CV_9 := Lib.hid (Kd.C_below CV_8.out hb)
      have CY_9 := Lib.hid (Kd.C_below CY_8.out hb)
      have Bt_9 := Lib.hid (below_blk hb Bt_8.out)
      have Lt_9 := blk_cell Bt_9.out 0 (.slice At k ct) rfl
      have BU_9 := Lib.hid (below_blk hb BU_8.out)
      have LU_9 := blk_cell BU_9.out 0 (.slice AU N cU) rfl
      have BV_9 := Lib.hid (below_blk hb BV_8.out)
      have LV_9 := blk_cell BV_9.out 0 (.slice AV N cV) rfl
      have BY_9 := Lib.hid (below_blk hb BY_8.out)
      have LY_9 := blk_cell BY_9.out 0 (.slice AY N cY) rfl
      have HB_9 := Lib.hid (below_step HB_8.out hb)
      clear hb HB_8 CU_8 CV_8 CY_8 Bt_8 Lt_8 BU_8 LU_8 BV_8 LV_8 BY_8 LY_8
      go_wp2
      go_ret
      exact ⟨rfl, HB_9.out⟩
  · have t1 : ¬ 0 ≤ d1 := by omega
    have t3 : decide (0 ≤ d1) = false := by simp; omega
    rcases hcase with hbb | hbb | hbb
    · subst hbb
      rw [if_pos rfl] at r4
      subst r4
      have s1 : ¬ 0 < a := by omega
      have s2 : decide (0 < a) = false := by simp; omega
      clear r1 r2
      go_wp2_with fail
      refine (fixed_calls _).mono ?_
      rintro e w9 ⟨rfl, hb⟩
      have CU_9 := Lib.hid (Kd.C_below CU_8.out hb)
      have CV_9 := Lib.hid (Kd.C_below CV_8.out hb)
      have CY_9 := Lib.hid (Kd.C_below CY_8.out hb)
      have Bt_9 := Lib.hid (below_blk hb Bt_8.out)
      have Lt_9 := blk_cell Bt_9.out 0 (.slice At k ct) rfl
      have BU_9 := Lib.hid (below_blk hb BU_8.out)
      have LU_9 := blk_cell BU_9.out 0 (.slice AU N cU) rfl
      have BV_9 := Lib.hid (below_blk hb BV_8.out)
      have LV_9 := blk_cell BV_9.out 0 (.slice AV N cV) rfl
      have BY_9 := Lib.hid (below_blk hb BY_8.out)
      have LY_9 := blk_cell BY_9.out 0 (.slice AY N cY) rfl
      have HB_9 := Lib.hid (below_step HB_8.out hb)
      clear hb HB_8 CU_8 CV_8 CY_8 Bt_8 Lt_8 BU_8 LU_8 BV_8 LV_8 BY_8 LY_8
      go_wp2
      go_ret
      exact ⟨rfl, HB_9.out⟩
    · rw [if_neg (by omega)] at r4
      subst r4
      have s0 : 0 ≤ b := by omega
      have s1 : ¬ b < a := by omega
      have s2 : decide (b < a) = false := by simp; omega
      have s3 : (b == 0) = false := by simp; omega
      have s4 : (b != 0) = true := by simp; omega
      have s5 : decide (0 ≤ b) = true := by simp; omega
      clear r1 r2
      go_wp2_with fail
      refine (fixed_calls _).mono ?_
      rintro e w9 ⟨rfl, hb⟩
      have CU_9 := Lib.hid (Kd.C_below CU_8.out hb)
      have CV_9 := Lib.hid (Kd.C_below CV_8.out hb)
      have CY_9 := Lib.hid (Kd.C_below CY_8.out hb)
      have Bt_9 := Lib.hid (below_blk hb Bt_8.out)
      have Lt_9 := blk_cell Bt_9.out 0 (.slice At k ct) rfl
      have BU_9 := Lib.hid (below_blk hb BU_8.out)
      have LU_9 := blk_cell BU_9.out 0 (.slice AU N cU) rfl
      have BV_9 := Lib.hid (below_blk hb BV_8.out)
      have LV_9 := blk_cell BV_9.out 0 (.slice AV N cV) rfl
      have BY_9 := Lib.hid (below_blk hb BY_8.out)
      have LY_9 := blk_cell BY_9.out 0 (.slice AY N cY) rfl
      have HB_9 := Lib.hid (below_step HB_8.out hb)
      clear hb HB_8 CU_8 CV_8 CY_8 Bt_8 Lt_8 BU_8 LU_8 BV_8 LV_8 BY_8 LY_8
      go_wp2
      go_ret
      exact ⟨rfl, HB_9.out⟩
    · rw [if_neg (by omega)] at r4
      subst r4
      have s0 : ¬ 0 ≤ b := by omega
      have s3 : (b == 0) = false := by simp; omega
      have s4 : (b != 0) = true := by simp; omega
      have s5 : decide (0 ≤ b) = false := by simp; omega
      clear r1 r2
      go_wp2_with fail
      refine (fixed_calls _).mono ?_
      rintro e w9 ⟨rfl, hb⟩
      have CU_9 := Lib.hid (Kd.C_below CU_8.out hb)
      have CV_9 := Lib.hid (Kd.C_below CV_8.out hb)
      have CY_9 := Lib.hid (Kd.C_below CY_8.out hb)
      have Bt_9 := Lib.hid (below_blk hb Bt_8.out)
      have Lt_9 := blk_cell Bt_9.out 0 (.slice At k ct) rfl
      have BU_9 := Lib.hid (below_blk hb BU_8.out)
      have LU_9 := blk_cell BU_9.out 0 (.slice AU N cU) rfl
      have BV_9 := Lib.hid (below_blk hb BV_8.out)
      have LV_9 := blk_cell BV_9.out 0 (.slice AV N cV) rfl
      have BY_9 := Lib.hid (below_blk hb BY_8.out)
      have LY_9 := blk_cell BY_9.out 0 (.slice AY N cY) rfl
      have HB_9 := Lib.hid (below_step HB_8.out hb)
      clear hb HB_8 CU_8 CV_8 CY_8 Bt_8 Lt_8 BU_8 LU_8 BV_8 LV_8 BY_8 LY_8
      go_wp2
      go_ret
      exact ⟨rfl, HB_9.out⟩
theorem astLens_row (z : TreeArg) (k : Int) (w : World) (hz : TreeIn w z) (hk : (Lit.int .u8 k).wf = true) :
    Calls Try.prog 6 #[.agg #[.slice z.A z.n z.c], .int .u8 k] w fun e w' => e = .returned (.bool true) ∧ Below w.heap.size w w' :=
  by
  have e1 : IntKind.u8.min = 0 := rfl
  have e2 : IntKind.u8.max = 255 := rfl
  simp [Lit.wf, e1, e2] at hk
  exact walk z k w hz (by omega) (by omega)
end Go.Proofs.Ytjeoiebdchlilaa.LAstLens
