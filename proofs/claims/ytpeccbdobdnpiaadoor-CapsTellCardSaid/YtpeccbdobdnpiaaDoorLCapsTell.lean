/- CapsTell. -/
import Derived.Test.YtpeccbdobdnpiaaDoorAFixW
import Derived.Test.YtpeccbdobdnpiaaDoorAEq
import Derived.Test.YtpeccbdobdnpiaaDoorARShow
import Derived.Test.YtpeccbdobdnpiaaDoorAArg
namespace Go.Proofs.YtpeccbdobdnpiaaDoor.LCapsTell
open Go.RowKit CMem ACap AGet AWith AText ASame AAgain AShow AFix AFixW ARef AEq ARShow Go.Proofs.YtpeccbdobdnpiaaDoorW.PrintWords Go.Proofs.YtpeccbdobdnpiaaDoorW.PrintLast Go.Proofs.YtpeccbdobdnpiaaDoorW.PrintMore
set_option linter.unusedVariables false
set_option linter.unusedSimpArgs false
set_option maxRecDepth 100000
theorem hload {b : Nat → Bool} {y : Nat → Int} {g : Nat} {t : TypeId} (W : World) (h : W.heap[g]? = some (.cells (cc b y) t (0, 0))) : (loadCells ⟨g, 0, none⟩ 27).run Tryd.prog W = .ok (cc b y) W := load27 h
set_option maxHeartbeats 12800000
attribute [-go_sem] Go.loadCells Go.run_eql_struct Go.run_neq_struct in
theorem tell_walk (b : Nat → Bool) (y : Nat → Int) (n0 n1 n2 n3 : Int) (s : ByteArray) (hy : in64 y) (w : World) (hT : Tab w) :
    Calls Tryd.prog 3 #[.agg (cc b y), .agg #[.int .i64 n0, .int .i64 n1, .int .i64 n2, .int .i64 n3], .string s] w fun e w' => e = .returned (.bool true) ∧ Below w.heap.size w w' := by
  obtain ⟨m, hm⟩ : ∃ m : Nat, min (s.size : Int) 60 = (m : Int) := ⟨(min (s.size : Int) 60).toNat, by omega⟩
  have hms : m ≤ s.size := by omega
  have hm60 : m ≤ 60 := by omega
  obtain ⟨t, ht⟩ : ∃ t, s.extract 0 m = t := ⟨_, rfl⟩
  have hts : t.size ≤ 60 := by rw [← ht, size_ext s (Nat.zero_le _) hms]; omega
  obtain ⟨j, hj⟩ : ∃ j : Nat, (n0 < 1 ∧ j = 0) ∨ (1 ≤ n0 ∧ n0 ≤ 9 ∧ n0 = (j : Int)) ∨ (9 < n0 ∧ j = 9) := by
    by_cases h1 : n0 < 1
    · exact ⟨0, .inl ⟨h1, rfl⟩⟩
    · by_cases h2 : n0 ≤ 9
      · exact ⟨n0.toNat, .inr (.inl ⟨by omega, h2, by omega⟩)⟩
      · exact ⟨9, .inr (.inr ⟨by omega, rfl⟩)⟩
  have k1 := ref_calls b y
  have k2 := with_calls b y n0 n1 n2
  have k3 := rwith_calls b y n0 n1 n2
  have k4 := get_calls b y n0
  have k5 := rget_calls b y n0
  have k6 := text_calls b y t n0
  have k7 := rtext_calls b y t n0
  have k8 := ref_calls (wb b n0 n1 n2) (wy y n0 n1 n2)
  have k9 := show_calls b y hy n0 j hj
  have kA := rshow_calls b y hy n0 j hj
  rw [told_eq] at kA
  have kB := again_calls b y t n0 n3 (decide (n2 < n1)) (by omega)
  have kC := ragain_calls b y t n0 n3 (decide (n2 < n1)) (by omega)
  have kD := fixed_calls
  have s1 := store_new b y 28
  have s2 := store_new (wb b n0 n1 n2) (wy y n0 n1 n2) 26
  have s3 := store_new (wb b n0 n1 n2) (wy y n0 n1 n2) 28
  have hne := fun W => r_neq (wb b n0 n1 n2) (wb b n0 n1 n2) (wy y n0 n1 n2) (wy y n0 n1 n2) W
  rw [same_self] at hne
  have hne : ∀ W, (binOp .neq 28 (.agg (cc (wb b n0 n1 n2) (wy y n0 n1 n2))) (.agg (cc (wb b n0 n1 n2) (wy y n0 n1 n2)))).run Tryd.prog W = .ok (.bool false) W := hne
  generalize wb b n0 n1 n2 = B at *
  generalize wy y n0 n1 n2 = Y at *
  generalize we n0 n1 n2 = ee at *
  generalize agn t (prt t (gi b n0) (gfr b y n0) (gto b y n0)) (pok t (gi b n0) (gfr b y n0) (gto b y n0)) n3 (decide (n2 < n1)) = an at *
  generalize agb t (prt t (gi b n0) (gfr b y n0) (gto b y n0)) (pok t (gi b n0) (gfr b y n0) (gto b y n0)) n3 (decide (n2 < n1)) = ab at *
  generalize prt t (gi b n0) (gfr b y n0) (gto b y n0) = tp at *
  generalize pok t (gi b n0) (gfr b y n0) (gto b y n0) = tk at *
  generalize gi b n0 = gk at *
  generalize gfr b y n0 = gp at *
  generalize gto b y n0 = gq at *
  generalize (⟨(shown (items b y j)).toArray⟩ : ByteArray) = sh at *
  have hs := cc_size
  have hz := zero_c
  have hzr := zero_r
  have HT_0 := Lib.hid ((hT.below (below1 w (.cells (cc b y) 26))).below (below1 _ (.cells #[.int .i64 n0, .int .i64 n1, .int .i64 n2, .int .i64 n3] 27)))
  have HB_0 := Lib.hid (below2 w (.cells (cc b y) 26) (.cells #[.int .i64 n0, .int .i64 n1, .int .i64 n2, .int .i64 n3] 27))
  have C_0 := Lib.hid (blk_alloc (heap_alloc_new w (.cells (cc b y) 26)) (.cells #[.int .i64 n0, .int .i64 n1, .int .i64 n2, .int .i64 n3] 27))
  have N_0 := Lib.hid (blk2 w (.cells (cc b y) 26) #[.int .i64 n0, .int .i64 n1, .int .i64 n2, .int .i64 n3] 27)
  have LC_0 := load27 C_0.out
  have LN0_0 := blk_cell N_0.out 0 (.int .i64 n0) rfl
  have LN1_0 := blk_cell N_0.out 1 (.int .i64 n1) rfl
  have LN2_0 := blk_cell N_0.out 2 (.int .i64 n2) rfl
  have LN3_0 := blk_cell N_0.out 3 (.int .i64 n3) rfl
  clear hT hy hj
  have K1 := Lib.hid k1
  clear k1
  have K2 := Lib.hid k2
  clear k2
  have K3 := Lib.hid k3
  clear k3
  have K4 := Lib.hid k4
  clear k4
  have K5 := Lib.hid k5
  clear k5
  have K6 := Lib.hid k6
  clear k6
  have K7 := Lib.hid k7
  clear k7
  have K8 := Lib.hid k8
  clear k8
  have K9 := Lib.hid k9
  clear k9
  have KA := Lib.hid kA
  clear kA
  have KB := Lib.hid kB
  clear kB
  have KC := Lib.hid kC
  clear kC
  have KD := Lib.hid kD
  clear kD
  go_enter Tryd.func3, Tryd.ntmps3
  go_wp2_with fail
  generalize hW : (w.alloc (.cells (cc b y) 26)).alloc (.cells #[.int .i64 n0, .int .i64 n1, .int .i64 n2, .int .i64 n3] 27) = v0 at *
  clear hW
  generalize hPN : w.heap.size + 1 = PN at *
  have HPN := Lib.hid hPN
  clear hPN
  refine (K1.out _).mono ?_
  rintro e w1 ⟨rfl, hb⟩
  have R_1 := Lib.hid (heap_alloc_new w1 (.cells (cc b y) 28))
  have LR_1 := load27 R_1.out
  have C_1 := Lib.hid (blk_alloc (below_blk hb C_0.out) (.cells (cc b y) 28))
  have LC_1 := load27 C_1.out
  have N_1 := Lib.hid (blk_alloc (below_blk hb N_0.out) (.cells (cc b y) 28))
  have LN0_1 := blk_cell N_1.out 0 (.int .i64 n0) rfl
  have LN1_1 := blk_cell N_1.out 1 (.int .i64 n1) rfl
  have LN2_1 := blk_cell N_1.out 2 (.int .i64 n2) rfl
  have LN3_1 := blk_cell N_1.out 3 (.int .i64 n3) rfl
  have HB_1 := Lib.hid ((below_step HB_0.out hb).alloc (Nat.le_trans (HB_0.out.size) hb.size) (.cells (cc b y) 28))
  have HT_1 := Lib.hid (Tab.below (HT_0.out.below hb) (below1 _ (.cells (cc b y) 28)))
  clear hb C_0 N_0 HB_0 HT_0 LC_0 LN0_0 LN1_0 LN2_0 LN3_0
  go_wp2_with fail
  generalize hW : w1.alloc (.cells (cc b y) 28) = v1 at *
  clear hW
  generalize w1.heap.size = PR at *
  refine (K2.out _).mono ?_
  rintro e w2 ⟨rfl, hb⟩
  have A_2 := Lib.hid (heap_alloc_new w2 (.cells (cc B Y) 26))
  have LA_2 := load27 A_2.out
  have C_2 := Lib.hid (blk_alloc (below_blk hb C_1.out) (.cells (cc B Y) 26))
  have LC_2 := load27 C_2.out
  have R_2 := Lib.hid (blk_alloc (below_blk hb R_1.out) (.cells (cc B Y) 26))
  have LR_2 := load27 R_2.out
  have N_2 := Lib.hid (blk_alloc (below_blk hb N_1.out) (.cells (cc B Y) 26))
  have LN0_2 := blk_cell N_2.out 0 (.int .i64 n0) rfl
  have LN1_2 := blk_cell N_2.out 1 (.int .i64 n1) rfl
  have LN2_2 := blk_cell N_2.out 2 (.int .i64 n2) rfl
  have LN3_2 := blk_cell N_2.out 3 (.int .i64 n3) rfl
  have HB_2 := Lib.hid ((below_step HB_1.out hb).alloc (Nat.le_trans (HB_1.out.size) hb.size) (.cells (cc B Y) 26))
  have HT_2 := Lib.hid (Tab.below (HT_1.out.below hb) (below1 _ (.cells (cc B Y) 26)))
  clear hb C_1 R_1 N_1 HB_1 HT_1 LC_1 LR_1 LN0_1 LN1_1 LN2_1 LN3_1
  go_wp2_with fail
  generalize hW : w2.alloc (.cells (cc B Y) 26) = v2 at *
  clear hW
  generalize w2.heap.size = PA at *
  refine (K3.out _).mono ?_
  rintro e w3 ⟨rfl, hb⟩
  have D_3 := Lib.hid (heap_alloc_new w3 (.cells (cc B Y) 28))
  have LD_3 := load27 D_3.out
  have C_3 := Lib.hid (blk_alloc (below_blk hb C_2.out) (.cells (cc B Y) 28))
  have LC_3 := load27 C_3.out
  have R_3 := Lib.hid (blk_alloc (below_blk hb R_2.out) (.cells (cc B Y) 28))
  have LR_3 := load27 R_3.out
  have A_3 := Lib.hid (blk_alloc (below_blk hb A_2.out) (.cells (cc B Y) 28))
  have LA_3 := load27 A_3.out
  have N_3 := Lib.hid (blk_alloc (below_blk hb N_2.out) (.cells (cc B Y) 28))
  have LN0_3 := blk_cell N_3.out 0 (.int .i64 n0) rfl
  have LN1_3 := blk_cell N_3.out 1 (.int .i64 n1) rfl
  have LN2_3 := blk_cell N_3.out 2 (.int .i64 n2) rfl
  have LN3_3 := blk_cell N_3.out 3 (.int .i64 n3) rfl
  have HB_3 := Lib.hid ((below_step HB_2.out hb).alloc (Nat.le_trans (HB_2.out.size) hb.size) (.cells (cc B Y) 28))
  have HT_3 := Lib.hid (Tab.below (HT_2.out.below hb) (below1 _ (.cells (cc B Y) 28)))
  clear hb C_2 R_2 A_2 N_2 HB_2 HT_2 LC_2 LR_2 LA_2 LN0_2 LN1_2 LN2_2 LN3_2
  go_wp2_with fail
  generalize hW : w3.alloc (.cells (cc B Y) 28) = v3 at *
  clear hW
  generalize w3.heap.size = PD at *
  refine (K4.out _).mono ?_
  rintro e w4 ⟨rfl, hb⟩
  have C_4 := Lib.hid (below_blk hb C_3.out)
  have LC_4 := load27 C_4.out
  have R_4 := Lib.hid (below_blk hb R_3.out)
  have LR_4 := load27 R_4.out
  have A_4 := Lib.hid (below_blk hb A_3.out)
  have LA_4 := load27 A_4.out
  have D_4 := Lib.hid (below_blk hb D_3.out)
  have LD_4 := load27 D_4.out
  have N_4 := Lib.hid (below_blk hb N_3.out)
  have LN0_4 := blk_cell N_4.out 0 (.int .i64 n0) rfl
  have LN1_4 := blk_cell N_4.out 1 (.int .i64 n1) rfl
  have LN2_4 := blk_cell N_4.out 2 (.int .i64 n2) rfl
  have LN3_4 := blk_cell N_4.out 3 (.int .i64 n3) rfl
  have HB_4 := Lib.hid (below_step HB_3.out hb)
  have HT_4 := Lib.hid (HT_3.out.below hb)
  clear hb C_3 R_3 A_3 D_3 N_3 HB_3 HT_3 LC_3 LR_3 LA_3 LD_3 LN0_3 LN1_3 LN2_3 LN3_3
  go_wp2_with fail
  refine (K5.out _).mono ?_
  rintro e w5 ⟨rfl, hb⟩
  have C_5 := Lib.hid (below_blk hb C_4.out)
  have LC_5 := load27 C_5.out
  have R_5 := Lib.hid (below_blk hb R_4.out)
  have LR_5 := load27 R_5.out
  have A_5 := Lib.hid (below_blk hb A_4.out)
  have LA_5 := load27 A_5.out
  have D_5 := Lib.hid (below_blk hb D_4.out)
  have LD_5 := load27 D_5.out
  have N_5 := Lib.hid (below_blk hb N_4.out)
  have LN0_5 := blk_cell N_5.out 0 (.int .i64 n0) rfl
  have LN1_5 := blk_cell N_5.out 1 (.int .i64 n1) rfl
  have LN2_5 := blk_cell N_5.out 2 (.int .i64 n2) rfl
  have LN3_5 := blk_cell N_5.out 3 (.int .i64 n3) rfl
  have HB_5 := Lib.hid (below_step HB_4.out hb)
  have HT_5 := Lib.hid (HT_4.out.below hb)
  clear hb C_4 R_4 A_4 D_4 N_4 HB_4 HT_4 LC_4 LR_4 LA_4 LD_4 LN0_4 LN1_4 LN2_4 LN3_4
  go_wp2_with fail
  refine (K6.out _).mono ?_
  rintro e w6 ⟨rfl, hb⟩
  have C_6 := Lib.hid (below_blk hb C_5.out)
  have LC_6 := load27 C_6.out
  have R_6 := Lib.hid (below_blk hb R_5.out)
  have LR_6 := load27 R_6.out
  have A_6 := Lib.hid (below_blk hb A_5.out)
  have LA_6 := load27 A_6.out
  have D_6 := Lib.hid (below_blk hb D_5.out)
  have LD_6 := load27 D_6.out
  have N_6 := Lib.hid (below_blk hb N_5.out)
  have LN0_6 := blk_cell N_6.out 0 (.int .i64 n0) rfl
  have LN1_6 := blk_cell N_6.out 1 (.int .i64 n1) rfl
  have LN2_6 := blk_cell N_6.out 2 (.int .i64 n2) rfl
  have LN3_6 := blk_cell N_6.out 3 (.int .i64 n3) rfl
  have HB_6 := Lib.hid (below_step HB_5.out hb)
  have HT_6 := Lib.hid (HT_5.out.below hb)
  clear hb C_5 R_5 A_5 D_5 N_5 HB_5 HT_5 LC_5 LR_5 LA_5 LD_5 LN0_5 LN1_5 LN2_5 LN3_5
  go_wp2_with fail
  refine (K7.out _).mono ?_
  rintro e w7 ⟨rfl, hb⟩
  have C_7 := Lib.hid (below_blk hb C_6.out)
  have LC_7 := load27 C_7.out
  have R_7 := Lib.hid (below_blk hb R_6.out)
  have LR_7 := load27 R_7.out
  have A_7 := Lib.hid (below_blk hb A_6.out)
  have LA_7 := load27 A_7.out
  have D_7 := Lib.hid (below_blk hb D_6.out)
  have LD_7 := load27 D_7.out
  have N_7 := Lib.hid (below_blk hb N_6.out)
  have LN0_7 := blk_cell N_7.out 0 (.int .i64 n0) rfl
  have LN1_7 := blk_cell N_7.out 1 (.int .i64 n1) rfl
  have LN2_7 := blk_cell N_7.out 2 (.int .i64 n2) rfl
  have LN3_7 := blk_cell N_7.out 3 (.int .i64 n3) rfl
  have HB_7 := Lib.hid (below_step HB_6.out hb)
  have HT_7 := Lib.hid (HT_6.out.below hb)
  clear hb C_6 R_6 A_6 D_6 N_6 HB_6 HT_6 LC_6 LR_6 LA_6 LD_6 LN0_6 LN1_6 LN2_6 LN3_6
  go_wp2_with fail
  have QC := @hload b y w.heap.size 26
  have QR := @hload b y PR 28
  have QA := @hload B Y PA 26
  have QD := @hload B Y PD 28
  clear LC_7 LR_7 LA_7 LD_7
  refine start_ (n := 45) (S := fun w' => w'.heap[w.heap.size]? = some (.cells (cc b y) 26 (0, 0)) ∧ w'.heap[PR]? = some (.cells (cc b y) 28 (0, 0)) ∧ w'.heap[PA]? = some (.cells (cc B Y) 26 (0, 0)) ∧ w'.heap[PD]? = some (.cells (cc B Y) 28 (0, 0)) ∧ w'.cell? ⟨PN, 0, none⟩ = some (.int .i64 n0) ∧ w'.cell? ⟨PN, 1, none⟩ = some (.int .i64 n1) ∧ w'.cell? ⟨PN, 2, none⟩ = some (.int .i64 n2) ∧ w'.cell? ⟨PN, 3, none⟩ = some (.int .i64 n3) ∧ Tab w' ∧ Below w.heap.size w w') (ds := []) #[false, false, false, false, false, false, false, false, false, false, false, false, false, false, false, false, false, false, false, false, false, false, false, false, false, false, false, false, false, false, false, false, false, false, false, false, false, false, false, false, false, false, false, false, false] (by kernel_rfl) rfl rfl ⟨C_7.out, R_7.out, A_7.out, D_7.out, LN0_7, LN1_7, LN2_7, LN3_7, (HT_7.out.below (Below.refl _ _).drew), HB_7.out.drew⟩ (fun hHeld => ?_)
  refine take_ (i := 0) (N := some 87) (v := ?_) (a' := ?_) #[true, false, false, false, false, false, false, false, false, false, false, false, false, false, false, false, false, false, false, false, false, false, false, false, false, false, false, false, false, false, false, false, false, false, false, false, false, false, false, false, false, false, false, false, false] rfl rfl (by kernel_rfl) (fun _ _ _ h => h) (Or.inl ⟨by rfl, ?_⟩) hHeld ?_ ?_
  rotate_left
  · rintro w' ⟨s0, s1, s2, s3, s4, s5, s6, s7, s8, s9⟩
    go_simp
    with_reducible rfl
  rotate_left
  · simp only [Act.put, List.setIfInBounds_toArray, List.set_cons_zero, List.set_cons_succ, i64_w, i32_w]
    rfl
  refine take_ (i := 2) (N := some 89) (v := ?_) (a' := ?_) #[true, false, true, false, false, false, false, false, false, false, false, false, false, false, false, false, false, false, false, false, false, false, false, false, false, false, false, false, false, false, false, false, false, false, false, false, false, false, false, false, false, false, false, false, false] rfl rfl (by kernel_rfl) (fun _ _ _ h => h) (Or.inl ⟨by rfl, ?_⟩) hHeld ?_ ?_
  rotate_left
  · rintro w' ⟨s0, s1, s2, s3, s4, s5, s6, s7, s8, s9⟩
    go_simp
    with_reducible rfl
  rotate_left
  · simp only [Act.put, List.setIfInBounds_toArray, List.set_cons_zero, List.set_cons_succ, i64_w, i32_w]
    rfl
  refine one_ (i := 1) (N := some 88) #[true, true, true, false, false, false, false, false, false, false, false, false, false, false, false, false, false, false, false, false, false, false, false, false, false, false, false, false, false, false, false, false, false, false, false, false, false, false, false, false, false, false, false, false, false] rfl rfl (by kernel_rfl) (by decide) (fun K hK => ?_)
  refine goes_ Tryd.func8 (by kernel_rfl) rfl #[.agg (cc B Y)] (by rfl) rfl rfl (by simp only [List.map_toArray, List.map_cons, List.map_nil]; rfl) ?_
  with_reducible refine (K8.out _).mono ?_
  rintro e X8 ⟨rfl, hb⟩
  refine ⟨_, rfl, ?_⟩
  refine hK.out _ _ ⟨(below_blk hb hHeld.1), (below_blk hb hHeld.2.1), (below_blk hb hHeld.2.2.1), (below_blk hb hHeld.2.2.2.1), (below_of hb hHeld.2.2.2.2.1), (below_of hb hHeld.2.2.2.2.2.1), (below_of hb hHeld.2.2.2.2.2.2.1), (below_of hb hHeld.2.2.2.2.2.2.2.1), (Tab.below hHeld.2.2.2.2.2.2.2.2.1 hb), (below_step hHeld.2.2.2.2.2.2.2.2.2 hb)⟩ (fun hHeld => ?_)
  clear hK K
  refine norm_ (a' := ?_) ?_ ?_
  rotate_left
  · show Act.put _ (some 88) _ = _
    simp only [Act.put, List.setIfInBounds_toArray, List.set_cons_zero, List.set_cons_succ, i64_w, i32_w]
    rfl
  refine pure_ (i := 3) (N := some 90) (v := ?_) (a' := ?_) #[true, true, true, true, false, false, false, false, false, false, false, false, false, false, false, false, false, false, false, false, false, false, false, false, false, false, false, false, false, false, false, false, false, false, false, false, false, false, false, false, false, false, false, false, false] rfl rfl (by kernel_rfl) (fun _ _ _ h => h) (Or.inl ⟨by rfl, ?_⟩) ?_ ?_
  rotate_left
  · intro w'
    go_simp
    with_reducible rfl
  rotate_left
  · simp only [Act.put, List.setIfInBounds_toArray, List.set_cons_zero, List.set_cons_succ, i64_w, i32_w]
    rfl
  refine pure_ (i := 4) (N := some 91) (v := ?_) (a' := ?_) #[true, true, true, true, true, false, false, false, false, false, false, false, false, false, false, false, false, false, false, false, false, false, false, false, false, false, false, false, false, false, false, false, false, false, false, false, false, false, false, false, false, false, false, false, false] rfl rfl (by kernel_rfl) (fun _ _ _ h => h) (Or.inl ⟨by rfl, ?_⟩) ?_ ?_
  rotate_left
  · intro w'
    go_simp
    with_reducible rfl
  rotate_left
  · simp only [Act.put, List.setIfInBounds_toArray, List.set_cons_zero, List.set_cons_succ, i64_w, i32_w]
    rfl
  refine pure_ (i := 5) (N := some 92) (v := ?_) (a' := ?_) #[true, true, true, true, true, true, false, false, false, false, false, false, false, false, false, false, false, false, false, false, false, false, false, false, false, false, false, false, false, false, false, false, false, false, false, false, false, false, false, false, false, false, false, false, false] rfl rfl (by kernel_rfl) (fun _ _ _ h => h) (Or.inl ⟨by rfl, ?_⟩) ?_ ?_
  rotate_left
  · intro w'
    go_simp
    with_reducible rfl
  rotate_left
  · simp only [Act.put, List.setIfInBounds_toArray, List.set_cons_zero, List.set_cons_succ, i64_w, i32_w]
    rfl
  refine pure_ (i := 6) (N := some 93) (v := ?_) (a' := ?_) #[true, true, true, true, true, true, true, false, false, false, false, false, false, false, false, false, false, false, false, false, false, false, false, false, false, false, false, false, false, false, false, false, false, false, false, false, false, false, false, false, false, false, false, false, false] rfl rfl (by kernel_rfl) (fun _ _ _ h => h) (Or.inl ⟨by rfl, ?_⟩) ?_ ?_
  rotate_left
  · intro w'
    go_simp
    with_reducible rfl
  rotate_left
  · simp only [Act.put, List.setIfInBounds_toArray, List.set_cons_zero, List.set_cons_succ, i64_w, i32_w]
    rfl
  refine pure_ (i := 7) (N := some 94) (v := ?_) (a' := ?_) #[true, true, true, true, true, true, true, true, false, false, false, false, false, false, false, false, false, false, false, false, false, false, false, false, false, false, false, false, false, false, false, false, false, false, false, false, false, false, false, false, false, false, false, false, false] rfl rfl (by kernel_rfl) (fun _ _ _ h => h) (Or.inl ⟨by rfl, ?_⟩) ?_ ?_
  rotate_left
  · intro w'
    go_simp
    with_reducible rfl
  rotate_left
  · simp only [Act.put, List.setIfInBounds_toArray, List.set_cons_zero, List.set_cons_succ, i64_w, i32_w]
    rfl
  refine pure_ (i := 8) (N := some 95) (v := ?_) (a' := ?_) #[true, true, true, true, true, true, true, true, true, false, false, false, false, false, false, false, false, false, false, false, false, false, false, false, false, false, false, false, false, false, false, false, false, false, false, false, false, false, false, false, false, false, false, false, false] rfl rfl (by kernel_rfl) (fun _ _ _ h => h) (Or.inl ⟨by rfl, ?_⟩) ?_ ?_
  rotate_left
  · intro w'
    go_simp
    with_reducible rfl
  rotate_left
  · simp only [Act.put, List.setIfInBounds_toArray, List.set_cons_zero, List.set_cons_succ, i64_w, i32_w]
    rfl
  refine pure_ (i := 9) (N := some 96) (v := ?_) (a' := ?_) #[true, true, true, true, true, true, true, true, true, true, false, false, false, false, false, false, false, false, false, false, false, false, false, false, false, false, false, false, false, false, false, false, false, false, false, false, false, false, false, false, false, false, false, false, false] rfl rfl (by kernel_rfl) (fun _ _ _ h => h) (Or.inl ⟨by rfl, ?_⟩) ?_ ?_
  rotate_left
  · intro w'
    go_simp
    with_reducible rfl
  rotate_left
  · simp only [Act.put, List.setIfInBounds_toArray, List.set_cons_zero, List.set_cons_succ, i64_w, i32_w]
    rfl
  refine pure_ (i := 10) (N := some 97) (v := ?_) (a' := ?_) #[true, true, true, true, true, true, true, true, true, true, true, false, false, false, false, false, false, false, false, false, false, false, false, false, false, false, false, false, false, false, false, false, false, false, false, false, false, false, false, false, false, false, false, false, false] rfl rfl (by kernel_rfl) (fun _ _ _ h => h) (Or.inl ⟨by rfl, ?_⟩) ?_ ?_
  rotate_left
  · intro w'
    go_simp
    with_reducible rfl
  rotate_left
  · simp only [Act.put, List.setIfInBounds_toArray, List.set_cons_zero, List.set_cons_succ, i64_w, i32_w]
    rfl
  refine pure_ (i := 11) (N := some 98) (v := ?_) (a' := ?_) #[true, true, true, true, true, true, true, true, true, true, true, true, false, false, false, false, false, false, false, false, false, false, false, false, false, false, false, false, false, false, false, false, false, false, false, false, false, false, false, false, false, false, false, false, false] rfl rfl (by kernel_rfl) (fun _ _ _ h => h) (Or.inl ⟨by rfl, ?_⟩) ?_ ?_
  rotate_left
  · intro w'
    go_simp
    with_reducible rfl
  rotate_left
  · simp only [Act.put, List.setIfInBounds_toArray, List.set_cons_zero, List.set_cons_succ, i64_w, i32_w]
    rfl
  refine pure_ (i := 12) (N := some 99) (v := ?_) (a' := ?_) #[true, true, true, true, true, true, true, true, true, true, true, true, true, false, false, false, false, false, false, false, false, false, false, false, false, false, false, false, false, false, false, false, false, false, false, false, false, false, false, false, false, false, false, false, false] rfl rfl (by kernel_rfl) (fun _ _ _ h => h) (Or.inl ⟨by rfl, ?_⟩) ?_ ?_
  rotate_left
  · intro w'
    go_simp
    with_reducible rfl
  rotate_left
  · simp only [Act.put, List.setIfInBounds_toArray, List.set_cons_zero, List.set_cons_succ, i64_w, i32_w]
    rfl
  refine pure_ (i := 13) (N := some 100) (v := ?_) (a' := ?_) #[true, true, true, true, true, true, true, true, true, true, true, true, true, true, false, false, false, false, false, false, false, false, false, false, false, false, false, false, false, false, false, false, false, false, false, false, false, false, false, false, false, false, false, false, false] rfl rfl (by kernel_rfl) (fun _ _ _ h => h) (Or.inl ⟨by rfl, ?_⟩) ?_ ?_
  rotate_left
  · intro w'
    go_simp
    with_reducible rfl
  rotate_left
  · simp only [Act.put, List.setIfInBounds_toArray, List.set_cons_zero, List.set_cons_succ, i64_w, i32_w]
    rfl
  refine pure_ (i := 14) (N := some 101) (v := ?_) (a' := ?_) #[true, true, true, true, true, true, true, true, true, true, true, true, true, true, true, false, false, false, false, false, false, false, false, false, false, false, false, false, false, false, false, false, false, false, false, false, false, false, false, false, false, false, false, false, false] rfl rfl (by kernel_rfl) (fun _ _ _ h => h) (Or.inl ⟨by rfl, ?_⟩) ?_ ?_
  rotate_left
  · intro w'
    go_simp
    with_reducible rfl
  rotate_left
  · simp only [Act.put, List.setIfInBounds_toArray, List.set_cons_zero, List.set_cons_succ, i64_w, i32_w]
    rfl
  refine pure_ (i := 15) (N := some 102) (v := ?_) (a' := ?_) #[true, true, true, true, true, true, true, true, true, true, true, true, true, true, true, true, false, false, false, false, false, false, false, false, false, false, false, false, false, false, false, false, false, false, false, false, false, false, false, false, false, false, false, false, false] rfl rfl (by kernel_rfl) (fun _ _ _ h => h) (Or.inl ⟨by rfl, ?_⟩) ?_ ?_
  rotate_left
  · intro w'
    go_simp
    with_reducible rfl
  rotate_left
  · simp only [Act.put, List.setIfInBounds_toArray, List.set_cons_zero, List.set_cons_succ, i64_w, i32_w]
    rfl
  refine pure_ (i := 16) (N := some 103) (v := ?_) (a' := ?_) #[true, true, true, true, true, true, true, true, true, true, true, true, true, true, true, true, true, false, false, false, false, false, false, false, false, false, false, false, false, false, false, false, false, false, false, false, false, false, false, false, false, false, false, false, false] rfl rfl (by kernel_rfl) (fun _ _ _ h => h) (Or.inl ⟨by rfl, ?_⟩) ?_ ?_
  rotate_left
  · intro w'
    go_simp
    with_reducible rfl
  rotate_left
  · simp only [Act.put, List.setIfInBounds_toArray, List.set_cons_zero, List.set_cons_succ, i64_w, i32_w]
    rfl
  refine pure_ (i := 17) (N := some 104) (v := ?_) (a' := ?_) #[true, true, true, true, true, true, true, true, true, true, true, true, true, true, true, true, true, true, false, false, false, false, false, false, false, false, false, false, false, false, false, false, false, false, false, false, false, false, false, false, false, false, false, false, false] rfl rfl (by kernel_rfl) (fun _ _ _ h => h) (Or.inl ⟨by rfl, ?_⟩) ?_ ?_
  rotate_left
  · intro w'
    go_simp
    with_reducible rfl
  rotate_left
  · simp only [Act.put, List.setIfInBounds_toArray, List.set_cons_zero, List.set_cons_succ, i64_w, i32_w]
    rfl
  refine pure_ (i := 18) (N := some 105) (v := ?_) (a' := ?_) #[true, true, true, true, true, true, true, true, true, true, true, true, true, true, true, true, true, true, true, false, false, false, false, false, false, false, false, false, false, false, false, false, false, false, false, false, false, false, false, false, false, false, false, false, false] rfl rfl (by kernel_rfl) (fun _ _ _ h => h) (Or.inl ⟨by rfl, ?_⟩) ?_ ?_
  rotate_left
  · intro w'
    go_simp
    with_reducible rfl
  rotate_left
  · simp only [Act.put, List.setIfInBounds_toArray, List.set_cons_zero, List.set_cons_succ, i64_w, i32_w]
    rfl
  refine pure_ (i := 19) (N := some 106) (v := ?_) (a' := ?_) #[true, true, true, true, true, true, true, true, true, true, true, true, true, true, true, true, true, true, true, true, false, false, false, false, false, false, false, false, false, false, false, false, false, false, false, false, false, false, false, false, false, false, false, false, false] rfl rfl (by kernel_rfl) (fun _ _ _ h => h) (Or.inl ⟨by rfl, ?_⟩) ?_ ?_
  rotate_left
  · intro w'
    go_simp
    with_reducible rfl
  rotate_left
  · simp only [Act.put, List.setIfInBounds_toArray, List.set_cons_zero, List.set_cons_succ, i64_w, i32_w]
    rfl
  refine pure_ (i := 20) (N := some 107) (v := ?_) (a' := ?_) #[true, true, true, true, true, true, true, true, true, true, true, true, true, true, true, true, true, true, true, true, true, false, false, false, false, false, false, false, false, false, false, false, false, false, false, false, false, false, false, false, false, false, false, false, false] rfl rfl (by kernel_rfl) (fun _ _ _ h => h) (Or.inl ⟨by rfl, ?_⟩) ?_ ?_
  rotate_left
  · intro w'
    go_simp
    with_reducible rfl
  rotate_left
  · simp only [Act.put, List.setIfInBounds_toArray, List.set_cons_zero, List.set_cons_succ, i64_w, i32_w]
    rfl
  refine pure_ (i := 21) (N := some 108) (v := ?_) (a' := ?_) #[true, true, true, true, true, true, true, true, true, true, true, true, true, true, true, true, true, true, true, true, true, true, false, false, false, false, false, false, false, false, false, false, false, false, false, false, false, false, false, false, false, false, false, false, false] rfl rfl (by kernel_rfl) (fun _ _ _ h => h) (Or.inl ⟨by rfl, ?_⟩) ?_ ?_
  rotate_left
  · intro w'
    go_simp
    with_reducible rfl
  rotate_left
  · simp only [Act.put, List.setIfInBounds_toArray, List.set_cons_zero, List.set_cons_succ, i64_w, i32_w]
    rfl
  refine pure_ (i := 22) (N := some 109) (v := ?_) (a' := ?_) #[true, true, true, true, true, true, true, true, true, true, true, true, true, true, true, true, true, true, true, true, true, true, true, false, false, false, false, false, false, false, false, false, false, false, false, false, false, false, false, false, false, false, false, false, false] rfl rfl (by kernel_rfl) (fun _ _ _ h => h) (Or.inl ⟨by rfl, ?_⟩) ?_ ?_
  rotate_left
  · intro w'
    go_simp
    with_reducible rfl
  rotate_left
  · simp only [Act.put, List.setIfInBounds_toArray, List.set_cons_zero, List.set_cons_succ, i64_w, i32_w]
    rfl
  refine pure_ (i := 23) (N := some 110) (v := ?_) (a' := ?_) #[true, true, true, true, true, true, true, true, true, true, true, true, true, true, true, true, true, true, true, true, true, true, true, true, false, false, false, false, false, false, false, false, false, false, false, false, false, false, false, false, false, false, false, false, false] rfl rfl (by kernel_rfl) (fun _ _ _ h => h) (Or.inl ⟨by rfl, ?_⟩) ?_ ?_
  rotate_left
  · intro w'
    go_simp
    with_reducible rfl
  rotate_left
  · simp only [Act.put, List.setIfInBounds_toArray, List.set_cons_zero, List.set_cons_succ, i64_w, i32_w]
    rfl
  refine pure_ (i := 24) (N := some 111) (v := ?_) (a' := ?_) #[true, true, true, true, true, true, true, true, true, true, true, true, true, true, true, true, true, true, true, true, true, true, true, true, true, false, false, false, false, false, false, false, false, false, false, false, false, false, false, false, false, false, false, false, false] rfl rfl (by kernel_rfl) (fun _ _ _ h => h) (Or.inl ⟨by rfl, ?_⟩) ?_ ?_
  rotate_left
  · intro w'
    go_simp
    with_reducible rfl
  rotate_left
  · simp only [Act.put, List.setIfInBounds_toArray, List.set_cons_zero, List.set_cons_succ, i64_w, i32_w]
    rfl
  refine pure_ (i := 25) (N := some 112) (v := ?_) (a' := ?_) #[true, true, true, true, true, true, true, true, true, true, true, true, true, true, true, true, true, true, true, true, true, true, true, true, true, true, false, false, false, false, false, false, false, false, false, false, false, false, false, false, false, false, false, false, false] rfl rfl (by kernel_rfl) (fun _ _ _ h => h) (Or.inl ⟨by rfl, ?_⟩) ?_ ?_
  rotate_left
  · intro w'
    go_simp
    with_reducible rfl
  rotate_left
  · simp only [Act.put, List.setIfInBounds_toArray, List.set_cons_zero, List.set_cons_succ, i64_w, i32_w]
    rfl
  refine pure_ (i := 26) (N := some 113) (v := ?_) (a' := ?_) #[true, true, true, true, true, true, true, true, true, true, true, true, true, true, true, true, true, true, true, true, true, true, true, true, true, true, true, false, false, false, false, false, false, false, false, false, false, false, false, false, false, false, false, false, false] rfl rfl (by kernel_rfl) (fun _ _ _ h => h) (Or.inl ⟨by rfl, ?_⟩) ?_ ?_
  rotate_left
  · intro w'
    go_simp
    with_reducible rfl
  rotate_left
  · simp only [Act.put, List.setIfInBounds_toArray, List.set_cons_zero, List.set_cons_succ, i64_w, i32_w]
    rfl
  refine pure_ (i := 27) (N := some 114) (v := ?_) (a' := ?_) #[true, true, true, true, true, true, true, true, true, true, true, true, true, true, true, true, true, true, true, true, true, true, true, true, true, true, true, true, false, false, false, false, false, false, false, false, false, false, false, false, false, false, false, false, false] rfl rfl (by kernel_rfl) (fun _ _ _ h => h) (Or.inl ⟨by rfl, ?_⟩) ?_ ?_
  rotate_left
  · intro w'
    go_simp
    with_reducible rfl
  rotate_left
  · simp only [Act.put, List.setIfInBounds_toArray, List.set_cons_zero, List.set_cons_succ, i64_w, i32_w]
    rfl
  refine pure_ (i := 28) (N := some 115) (v := ?_) (a' := ?_) #[true, true, true, true, true, true, true, true, true, true, true, true, true, true, true, true, true, true, true, true, true, true, true, true, true, true, true, true, true, false, false, false, false, false, false, false, false, false, false, false, false, false, false, false, false] rfl rfl (by kernel_rfl) (fun _ _ _ h => h) (Or.inl ⟨by rfl, ?_⟩) ?_ ?_
  rotate_left
  · intro w'
    go_simp
    with_reducible rfl
  rotate_left
  · simp only [Act.put, List.setIfInBounds_toArray, List.set_cons_zero, List.set_cons_succ, i64_w, i32_w]
    rfl
  refine pure_ (i := 29) (N := some 116) (v := ?_) (a' := ?_) #[true, true, true, true, true, true, true, true, true, true, true, true, true, true, true, true, true, true, true, true, true, true, true, true, true, true, true, true, true, true, false, false, false, false, false, false, false, false, false, false, false, false, false, false, false] rfl rfl (by kernel_rfl) (fun _ _ _ h => h) (Or.inl ⟨by rfl, ?_⟩) ?_ ?_
  rotate_left
  · intro w'
    go_simp
    with_reducible rfl
  rotate_left
  · simp only [Act.put, List.setIfInBounds_toArray, List.set_cons_zero, List.set_cons_succ, i64_w, i32_w]
    rfl
  refine pure_ (i := 30) (N := some 117) (v := ?_) (a' := ?_) #[true, true, true, true, true, true, true, true, true, true, true, true, true, true, true, true, true, true, true, true, true, true, true, true, true, true, true, true, true, true, true, false, false, false, false, false, false, false, false, false, false, false, false, false, false] rfl rfl (by kernel_rfl) (fun _ _ _ h => h) (Or.inl ⟨by rfl, ?_⟩) ?_ ?_
  rotate_left
  · intro w'
    go_simp
    with_reducible rfl
  rotate_left
  · simp only [Act.put, List.setIfInBounds_toArray, List.set_cons_zero, List.set_cons_succ, i64_w, i32_w]
    rfl
  refine pure_ (i := 31) (N := some 118) (v := ?_) (a' := ?_) #[true, true, true, true, true, true, true, true, true, true, true, true, true, true, true, true, true, true, true, true, true, true, true, true, true, true, true, true, true, true, true, true, false, false, false, false, false, false, false, false, false, false, false, false, false] rfl rfl (by kernel_rfl) (fun _ _ _ h => h) (Or.inl ⟨by rfl, ?_⟩) ?_ ?_
  rotate_left
  · intro w'
    go_simp
    with_reducible rfl
  rotate_left
  · simp only [Act.put, List.setIfInBounds_toArray, List.set_cons_zero, List.set_cons_succ, i64_w, i32_w]
    rfl
  refine pure_ (i := 32) (N := some 119) (v := ?_) (a' := ?_) #[true, true, true, true, true, true, true, true, true, true, true, true, true, true, true, true, true, true, true, true, true, true, true, true, true, true, true, true, true, true, true, true, true, false, false, false, false, false, false, false, false, false, false, false, false] rfl rfl (by kernel_rfl) (fun _ _ _ h => h) (Or.inl ⟨by rfl, ?_⟩) ?_ ?_
  rotate_left
  · intro w'
    go_simp
    with_reducible rfl
  rotate_left
  · simp only [Act.put, List.setIfInBounds_toArray, List.set_cons_zero, List.set_cons_succ, i64_w, i32_w]
    rfl
  refine pure_ (i := 33) (N := some 120) (v := ?_) (a' := ?_) #[true, true, true, true, true, true, true, true, true, true, true, true, true, true, true, true, true, true, true, true, true, true, true, true, true, true, true, true, true, true, true, true, true, true, false, false, false, false, false, false, false, false, false, false, false] rfl rfl (by kernel_rfl) (fun _ _ _ h => h) (Or.inl ⟨by rfl, ?_⟩) ?_ ?_
  rotate_left
  · intro w'
    go_simp
    with_reducible rfl
  rotate_left
  · simp only [Act.put, List.setIfInBounds_toArray, List.set_cons_zero, List.set_cons_succ, i64_w, i32_w]
    rfl
  refine pure_ (i := 34) (N := some 121) (v := ?_) (a' := ?_) #[true, true, true, true, true, true, true, true, true, true, true, true, true, true, true, true, true, true, true, true, true, true, true, true, true, true, true, true, true, true, true, true, true, true, true, false, false, false, false, false, false, false, false, false, false] rfl rfl (by kernel_rfl) (fun _ _ _ h => h) (Or.inl ⟨by rfl, ?_⟩) ?_ ?_
  rotate_left
  · intro w'
    go_simp
    with_reducible rfl
  rotate_left
  · simp only [Act.put, List.setIfInBounds_toArray, List.set_cons_zero, List.set_cons_succ, i64_w, i32_w]
    rfl
  refine pure_ (i := 36) (N := some 123) (v := ?_) (a' := ?_) #[true, true, true, true, true, true, true, true, true, true, true, true, true, true, true, true, true, true, true, true, true, true, true, true, true, true, true, true, true, true, true, true, true, true, true, false, true, false, false, false, false, false, false, false, false] rfl rfl (by kernel_rfl) (fun _ _ _ h => h) (Or.inl ⟨by rfl, ?_⟩) ?_ ?_
  rotate_left
  · intro w'
    go_simp
    with_reducible rfl
  rotate_left
  · simp only [Act.put, List.setIfInBounds_toArray, List.set_cons_zero, List.set_cons_succ, i64_w, i32_w]
    rfl
  refine pure_ (i := 40) (N := some 127) (v := ?_) (a' := ?_) #[true, true, true, true, true, true, true, true, true, true, true, true, true, true, true, true, true, true, true, true, true, true, true, true, true, true, true, true, true, true, true, true, true, true, true, false, true, false, false, false, true, false, false, false, false] rfl rfl (by kernel_rfl) (fun _ _ _ h => h) (Or.inl ⟨by rfl, ?_⟩) ?_ ?_
  rotate_left
  · intro w'
    go_simp
    with_reducible rfl
  rotate_left
  · simp only [Act.put, List.setIfInBounds_toArray, List.set_cons_zero, List.set_cons_succ, i64_w, i32_w]
    rfl
  refine take_ (i := 35) (N := some 122) (v := ?_) (a' := ?_) #[true, true, true, true, true, true, true, true, true, true, true, true, true, true, true, true, true, true, true, true, true, true, true, true, true, true, true, true, true, true, true, true, true, true, true, true, true, false, false, false, true, false, false, false, false] rfl rfl (by kernel_rfl) (fun _ _ _ h => h) (Or.inl ⟨by rfl, ?_⟩) hHeld ?_ ?_
  rotate_left
  · rintro w' ⟨s0, s1, s2, s3, s4, s5, s6, s7, s8, s9⟩
    go_simp
    with_reducible rfl
  rotate_left
  · simp only [Act.put, List.setIfInBounds_toArray, List.set_cons_zero, List.set_cons_succ, i64_w, i32_w]
    rfl
  refine take_ (i := 37) (N := some 124) (v := ?_) (a' := ?_) #[true, true, true, true, true, true, true, true, true, true, true, true, true, true, true, true, true, true, true, true, true, true, true, true, true, true, true, true, true, true, true, true, true, true, true, true, true, true, false, false, true, false, false, false, false] rfl rfl (by kernel_rfl) (fun _ _ _ h => h) (Or.inl ⟨by rfl, ?_⟩) hHeld ?_ ?_
  rotate_left
  · rintro w' ⟨s0, s1, s2, s3, s4, s5, s6, s7, s8, s9⟩
    go_simp
    with_reducible rfl
  rotate_left
  · simp only [Act.put, List.setIfInBounds_toArray, List.set_cons_zero, List.set_cons_succ, i64_w, i32_w]
    rfl
  refine take_ (i := 39) (N := some 126) (v := ?_) (a' := ?_) #[true, true, true, true, true, true, true, true, true, true, true, true, true, true, true, true, true, true, true, true, true, true, true, true, true, true, true, true, true, true, true, true, true, true, true, true, true, true, false, true, true, false, false, false, false] rfl rfl (by kernel_rfl) (fun _ _ _ h => h) (Or.inl ⟨by rfl, ?_⟩) hHeld ?_ ?_
  rotate_left
  · rintro w' ⟨s0, s1, s2, s3, s4, s5, s6, s7, s8, s9⟩
    go_simp
    with_reducible rfl
  rotate_left
  · simp only [Act.put, List.setIfInBounds_toArray, List.set_cons_zero, List.set_cons_succ, i64_w, i32_w]
    rfl
  refine take_ (i := 41) (N := some 128) (v := ?_) (a' := ?_) #[true, true, true, true, true, true, true, true, true, true, true, true, true, true, true, true, true, true, true, true, true, true, true, true, true, true, true, true, true, true, true, true, true, true, true, true, true, true, false, true, true, true, false, false, false] rfl rfl (by kernel_rfl) (fun _ _ _ h => h) (Or.inl ⟨by rfl, ?_⟩) hHeld ?_ ?_
  rotate_left
  · rintro w' ⟨s0, s1, s2, s3, s4, s5, s6, s7, s8, s9⟩
    go_simp
    with_reducible rfl
  rotate_left
  · simp only [Act.put, List.setIfInBounds_toArray, List.set_cons_zero, List.set_cons_succ, i64_w, i32_w]
    rfl
  refine one_ (i := 38) (N := some 125) #[true, true, true, true, true, true, true, true, true, true, true, true, true, true, true, true, true, true, true, true, true, true, true, true, true, true, true, true, true, true, true, true, true, true, true, true, true, true, true, true, true, true, false, false, false] rfl rfl (by kernel_rfl) (by decide) (fun K hK => ?_)
  refine goes_ Tryd.func15 (by kernel_rfl) rfl #[.agg (cc b y), .int .i64 n0] (by rfl) rfl rfl (by simp only [List.map_toArray, List.map_cons, List.map_nil]; rfl) ?_
  with_reducible refine (K9.out _ hHeld.2.2.2.2.2.2.2.2.1).mono ?_
  rintro e X9 ⟨rfl, hb⟩
  refine ⟨_, rfl, ?_⟩
  refine hK.out _ _ ⟨(below_blk hb hHeld.1), (below_blk hb hHeld.2.1), (below_blk hb hHeld.2.2.1), (below_blk hb hHeld.2.2.2.1), (below_of hb hHeld.2.2.2.2.1), (below_of hb hHeld.2.2.2.2.2.1), (below_of hb hHeld.2.2.2.2.2.2.1), (below_of hb hHeld.2.2.2.2.2.2.2.1), (Tab.below hHeld.2.2.2.2.2.2.2.2.1 hb), (below_step hHeld.2.2.2.2.2.2.2.2.2 hb)⟩ (fun hHeld => ?_)
  clear hK K
  refine norm_ (a' := ?_) ?_ ?_
  rotate_left
  · show Act.put _ (some 125) _ = _
    simp only [Act.put, List.setIfInBounds_toArray, List.set_cons_zero, List.set_cons_succ, i64_w, i32_w]
    rfl
  refine one_ (i := 42) (N := some 129) #[true, true, true, true, true, true, true, true, true, true, true, true, true, true, true, true, true, true, true, true, true, true, true, true, true, true, true, true, true, true, true, true, true, true, true, true, true, true, true, true, true, true, true, false, false] rfl rfl (by kernel_rfl) (by decide) (fun K hK => ?_)
  refine goes_ Tryd.func16 (by kernel_rfl) rfl #[.agg (cc b y), .int .i64 n0] (by rfl) rfl rfl (by simp only [List.map_toArray, List.map_cons, List.map_nil]; rfl) ?_
  with_reducible refine (KA.out _).mono ?_
  rintro e XA ⟨rfl, hb⟩
  refine ⟨_, rfl, ?_⟩
  refine hK.out _ _ ⟨(below_blk hb hHeld.1), (below_blk hb hHeld.2.1), (below_blk hb hHeld.2.2.1), (below_blk hb hHeld.2.2.2.1), (below_of hb hHeld.2.2.2.2.1), (below_of hb hHeld.2.2.2.2.2.1), (below_of hb hHeld.2.2.2.2.2.2.1), (below_of hb hHeld.2.2.2.2.2.2.2.1), (Tab.below hHeld.2.2.2.2.2.2.2.2.1 hb), (below_step hHeld.2.2.2.2.2.2.2.2.2 hb)⟩ (fun hHeld => ?_)
  clear hK K
  refine norm_ (a' := ?_) ?_ ?_
  rotate_left
  · show Act.put _ (some 129) _ = _
    simp only [Act.put, List.setIfInBounds_toArray, List.set_cons_zero, List.set_cons_succ, i64_w, i32_w]
    rfl
  refine pure_ (i := 43) (N := some 130) (v := ?_) (a' := ?_) #[true, true, true, true, true, true, true, true, true, true, true, true, true, true, true, true, true, true, true, true, true, true, true, true, true, true, true, true, true, true, true, true, true, true, true, true, true, true, true, true, true, true, true, true, false] rfl rfl (by kernel_rfl) (fun _ _ _ h => h) (Or.inl ⟨by rfl, ?_⟩) ?_ ?_
  rotate_left
  · intro w'
    go_simp
    with_reducible rfl
  rotate_left
  · simp only [Act.put, List.setIfInBounds_toArray, List.set_cons_zero, List.set_cons_succ, i64_w, i32_w]
    rfl
  refine pure_ (i := 44) (N := some 131) (v := ?_) (a' := ?_) #[true, true, true, true, true, true, true, true, true, true, true, true, true, true, true, true, true, true, true, true, true, true, true, true, true, true, true, true, true, true, true, true, true, true, true, true, true, true, true, true, true, true, true, true, true] rfl rfl (by kernel_rfl) (fun _ _ _ h => h) (Or.inl ⟨by rfl, ?_⟩) ?_ ?_
  rotate_left
  · intro w'
    go_simp
    with_reducible rfl
  rotate_left
  · simp only [Act.put, List.setIfInBounds_toArray, List.set_cons_zero, List.set_cons_succ, i64_w, i32_w]
    rfl
  refine done_ (by kernel_rfl) ?_
  obtain ⟨g0, g1, g2, g3, g4, g5, g6, g7, g8, g9⟩ := hHeld
  clear QC QR QA QD C_7 R_7 A_7 D_7 N_7 LN0_7 LN1_7 LN2_7 LN3_7 HB_7 HT_7
  have C_0 := Lib.hid g0
  have R_0 := Lib.hid g1
  have LC_0 := load27 g0
  have LR_0 := load27 g1
  have HT_0 := Lib.hid g8
  have HB_0 := Lib.hid g9
  have M0 := g4
  have M1 := g5
  have M2 := g6
  have M3 := g7
  clear g0 g1 g2 g3 g4 g5 g6 g7 g8 g9
  go_wp2_with (first | ((go_at_call 17); (with_reducible refine (KB.out _).mono ?_); (rintro e w1 ⟨rfl, hb⟩); (have C_1 := Lib.hid (below_blk hb C_0.out)); (have LC_1 := load27 C_1.out); (have R_1 := Lib.hid (below_blk hb R_0.out)); (have LR_1 := load27 R_1.out); (have HB_1 := Lib.hid (below_step HB_0.out hb)); (have HT_1 := Lib.hid (HT_0.out.below hb)); (have M0 := below_of hb M0); (have M1 := below_of hb M1); (have M2 := below_of hb M2); (have M3 := below_of hb M3); (clear hb C_0 R_0 HB_0 HT_0 LC_0 LR_0); (clear KB)) | ((go_at_call 18); (with_reducible refine (KC.out _).mono ?_); (rintro e w2 ⟨rfl, hb⟩); (have C_2 := Lib.hid (below_blk hb C_1.out)); (have LC_2 := load27 C_2.out); (have R_2 := Lib.hid (below_blk hb R_1.out)); (have LR_2 := load27 R_2.out); (have HB_2 := Lib.hid (below_step HB_1.out hb)); (have HT_2 := Lib.hid (HT_1.out.below hb)); (have M0 := below_of hb M0); (have M1 := below_of hb M1); (have M2 := below_of hb M2); (have M3 := below_of hb M3); (clear hb C_1 R_1 HB_1 HT_1 LC_1 LR_1); (clear KC)) | ((go_at_call 19); (with_reducible refine (KD.out _ HT_2.out).mono ?_); (rintro e w3 ⟨rfl, hb⟩); (have C_3 := Lib.hid (below_blk hb C_2.out)); (have LC_3 := load27 C_3.out); (have R_3 := Lib.hid (below_blk hb R_2.out)); (have LR_3 := load27 R_3.out); (have HB_3 := Lib.hid (below_step HB_2.out hb)); (have HT_3 := Lib.hid (HT_2.out.below hb)); (have M0 := below_of hb M0); (have M1 := below_of hb M1); (have M2 := below_of hb M2); (have M3 := below_of hb M3); (clear hb C_2 R_2 HB_2 HT_2 LC_2 LR_2); (clear KD)))
  go_ret
  exact ⟨rfl, HB_3.out⟩
theorem capsTell_row (z : (Nat → Bool) × (Nat → Int)) (n : Nat → Int) (s : ByteArray) (w : World) (hT : Tab w) (hy : in64 z.2) (hn : ∀ i, i < 4 → -9223372036854775808 ≤ n i ∧ n i ≤ 9223372036854775807) (hs : s.size ≤ 140737488351232) :
    Calls Tryd.prog 3 #[.agg (cc z.1 z.2), .agg #[.int .i64 (n 0), .int .i64 (n 1), .int .i64 (n 2), .int .i64 (n 3)], .string s] w fun e w' => e = .returned (.bool true) ∧ Below w.heap.size w w' :=
  tell_walk z.1 z.2 (n 0) (n 1) (n 2) (n 3) s hy w hT
end Go.Proofs.YtpeccbdobdnpiaaDoor.LCapsTell
