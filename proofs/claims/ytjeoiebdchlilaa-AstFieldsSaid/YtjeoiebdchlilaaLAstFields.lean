/- AstFields: what a kind has not must be zero. -/
import Derived.Test.YtjeoiebdchlilaaZ2
import Derived.Test.YtjeoiebdchlilaaDForkK
import Derived.Test.YtjeoiebdchlilaaDRSame
namespace Go.Proofs.Ytjeoiebdchlilaa.LAstFields
open Go.RowKit CMem DRow DDeep DSizes DFits DLens DSpec DGrp DCon DOdd DRowN DWrap DJoin DGrouped DRight DRJoin DRFits DRef DRefB DCut DTree DKit DFix DFixed DAlg DAlgB DForkK DRSame Q Go.Proofs.YtjeoiebdchlilaaW.PrintWords Go.Proofs.YtjeoiebdchlilaaW.PrintLast Go.Proofs.YtjeoiebdchlilaaW.PrintMore
set_option linter.unusedVariables false
set_option linter.unusedSimpArgs false
set_option maxRecDepth 100000
theorem packLeaf (w v2 : World) (K s m n : Int) (b : Bool) (R : Int) (h : v2.heap[w.heap.size]? = some (.cells #[.int .i64 K, .int .i64 0, .int .i64 0, .int .u64 0, .int .u64 0, .int .u64 s, .int .u64 0, .int .i64 0, .int .i64 m, .int .i64 0, .int .i64 n, .bool b] 43 (0, 0))) (hr : rgt [⟨K, 0, 0, ⟨⟨0, 0, s, 0⟩⟩, 0, m, 0, n, b⟩] = R) :
    ∃ (S2 MX NN : Int) (FO : Bool), Hid (v2.heap[w.heap.size]? = some (.cells #[.int .i64 K, .int .i64 0, .int .i64 0, .int .u64 0, .int .u64 0, .int .u64 S2, .int .u64 0, .int .i64 0, .int .i64 MX, .int .i64 0, .int .i64 NN, .bool FO] 43 (0, 0))) ∧ Hid (rgt [⟨K, 0, 0, ⟨⟨0, 0, S2, 0⟩⟩, 0, MX, 0, NN, FO⟩] = R) := ⟨s, m, n, b, Lib.hid h, Lib.hid hr⟩
theorem packWrap (w v2 : World) (K s m n : Int) (b : Bool) (R : Int) (h : v2.heap[w.heap.size]? = some (.cells #[.int .i64 K, .int .i64 0, .int .i64 0, .int .u64 0, .int .u64 0, .int .u64 s, .int .u64 0, .int .i64 0, .int .i64 m, .int .i64 0, .int .i64 n, .bool b] 43 (0, 0))) (hr : rgt [z43, ⟨K, 0, 0, ⟨⟨0, 0, s, 0⟩⟩, 0, m, 0, n, b⟩] = R) :
    ∃ (S2 MX NN : Int) (FO : Bool), Hid (v2.heap[w.heap.size]? = some (.cells #[.int .i64 K, .int .i64 0, .int .i64 0, .int .u64 0, .int .u64 0, .int .u64 S2, .int .u64 0, .int .i64 0, .int .i64 MX, .int .i64 0, .int .i64 NN, .bool FO] 43 (0, 0))) ∧ Hid (rgt [z43, ⟨K, 0, 0, ⟨⟨0, 0, S2, 0⟩⟩, 0, MX, 0, NN, FO⟩] = R) := ⟨s, m, n, b, Lib.hid h, Lib.hid hr⟩
theorem packJoin (w v2 : World) (K s m n : Int) (b : Bool) (R : Int) (h : v2.heap[w.heap.size]? = some (.cells #[.int .i64 K, .int .i64 0, .int .i64 0, .int .u64 0, .int .u64 0, .int .u64 s, .int .u64 0, .int .i64 0, .int .i64 m, .int .i64 0, .int .i64 n, .bool b] 43 (0, 0))) (hr : rgt [z43, z43, ⟨K, 0, 1, ⟨⟨0, 0, s, 0⟩⟩, 0, m, 0, n, b⟩] = R) :
    ∃ (S2 MX NN : Int) (FO : Bool), Hid (v2.heap[w.heap.size]? = some (.cells #[.int .i64 K, .int .i64 0, .int .i64 0, .int .u64 0, .int .u64 0, .int .u64 S2, .int .u64 0, .int .i64 0, .int .i64 MX, .int .i64 0, .int .i64 NN, .bool FO] 43 (0, 0))) ∧ Hid (rgt [z43, z43, ⟨K, 0, 1, ⟨⟨0, 0, S2, 0⟩⟩, 0, MX, 0, NN, FO⟩] = R) := ⟨s, m, n, b, Lib.hid h, Lib.hid hr⟩
theorem res_leaf_0 (K : Int) (h : K = 0 ∨ K = 2 ∨ K = 3 ∨ K = 4 ∨ K = 5 ∨ K = 6 ∨ K = 7) : rgt [⟨K, 0, 0, ⟨⟨0, 0, 9, 0⟩⟩, 0, 0, 0, 0, false⟩] = 3 := by
  rcases h with h | h | h | h | h | h | h <;> subst h <;> decide
theorem res_leaf_1 (K : Int) (h : K = 0 ∨ K = 2 ∨ K = 3 ∨ K = 4 ∨ K = 5 ∨ K = 6 ∨ K = 7) : rgt [⟨K, 0, 0, ⟨⟨0, 0, 0, 0⟩⟩, 0, 5, 0, 0, false⟩] = 3 := by
  rcases h with h | h | h | h | h | h | h <;> subst h <;> decide
theorem res_leaf_2 (K : Int) (h : K = 0 ∨ K = 2 ∨ K = 3 ∨ K = 4 ∨ K = 5 ∨ K = 6 ∨ K = 7) : rgt [⟨K, 0, 0, ⟨⟨0, 0, 0, 0⟩⟩, 0, 0, 0, 1, false⟩] = 3 := by
  rcases h with h | h | h | h | h | h | h <;> subst h <;> decide
theorem res_leaf_3 (K : Int) (h : K = 0 ∨ K = 2 ∨ K = 3 ∨ K = 4 ∨ K = 5 ∨ K = 6 ∨ K = 7) : rgt [⟨K, 0, 0, ⟨⟨0, 0, 0, 0⟩⟩, 0, 0, 0, 0, true⟩] = 3 := by
  rcases h with h | h | h | h | h | h | h <;> subst h <;> decide
set_option maxHeartbeats 12800000 in
theorem walk_leaf (kk ff : Int) (w : World) (h0 : 0 ≤ kk) (h1 : kk < 256) (h2 : 0 ≤ ff) (h3 : ff < 256) (K : Int) (hK : kk.tmod 18 = K) (hL : K = 0 ∨ K = 2 ∨ K = 3 ∨ K = 4 ∨ K = 5 ∨ K = 6 ∨ K = 7) :
    Calls Try.prog 8 #[.int .u8 kk, .int .u8 ff] w fun e w' => e = .returned (.bool true) ∧ Below w.heap.size w w' := by
  have c1 : (K != 10) = true := by simp; omega
  have c2 : (K != 11) = true := by simp; omega
  have c3 : K < 13 := by omega
  have c4 : (K != 8) = true := by simp; omega
  have c5 : (K != 9) = true := by simp; omega
  have c6 : (K == 8) = false := by simp; omega
  have c7 : (K == 9) = false := by simp; omega
  have c8 : (K == 1) = false := by simp; omega
  have c9 : (K == 10) = false := by simp; omega
  have c10 : (K == 11) = false := by simp; omega
  have c11 : (K == 12) = false := by simp; omega
  have c12 : decide (K < 13) = true := by simp; omega
  replace hL := Lib.hid hL
  have hF : ff.tmod 4 = 0 ∨ ff.tmod 4 = 1 ∨ ff.tmod 4 = 2 ∨ ff.tmod 4 = 3 := by rw [Int.tmod_eq_emod_of_nonneg h2]; omega
  have HF := Lib.hid hF
  clear hF
  have BN_0 := Lib.hid (heap_alloc_new w (.cells #[.int .i64 K, .int .i64 0, .int .i64 0, .int .u64 0, .int .u64 0, .int .u64 0, .int .u64 0, .int .i64 0, .int .i64 0, .int .i64 0, .int .i64 0, .bool false] 43))
  have HB_0 := Lib.hid (below1 w (.cells #[.int .i64 K, .int .i64 0, .int .i64 0, .int .u64 0, .int .u64 0, .int .u64 0, .int .u64 0, .int .i64 0, .int .i64 0, .int .i64 0, .int .i64 0, .bool false] 43))
  go_enter Try.func8, Try.ntmps8
  go_wp2_with fail
  refine (leaf_R 0 0 0 0 0 0 0 0 0 0 0 false _).mono ?_
  rintro e w1 ⟨⟨At, ct, rfl, hle, hR⟩, hb⟩
  have HP := Lib.hid (show w.heap.size < (w.alloc (.cells #[.int .i64 K, .int .i64 0, .int .i64 0, .int .u64 0, .int .u64 0, .int .u64 0, .int .u64 0, .int .i64 0, .int .i64 0, .int .i64 0, .int .i64 0, .bool false] 43)).heap.size by simp)
  have HQ := Lib.hid (show w1.heap.size ≠ w.heap.size by have := lt_of_blk (below_blk hb BN_0.out); omega)
  have BN_1 := Lib.hid (blk_alloc (below_blk hb BN_0.out) (.cells #[.slice At 1 ct] 24))
  have BT_1 := Lib.hid (heap_alloc_new w1 (.cells #[.slice At 1 ct] 24))
  have RT_1 := Lib.hid (Kd.R_below hR (below1 w1 (.cells #[.slice At 1 ct] 24)))
  have HB_1 := Lib.hid ((below_step HB_0.out hb).alloc (below_step HB_0.out hb).size (.cells #[.slice At 1 ct] 24))
  go_wp2_with ((with_reducible show wpList _ _ _ (⟨some 16, _, _, _, _, _⟩ :: _) _ _); refine hold ?_)
  refine Lib.hid ?_
  clear hb hR hle BN_0 HB_0
  generalize hW : w1.alloc (.cells #[.slice At 1 ct] 24) = v1 at *
  clear hW
  generalize w1.heap.size = Pt at *
  generalize (w.alloc (.cells #[.int .i64 K, .int .i64 0, .int .i64 0, .int .u64 0, .int .u64 0, .int .u64 0, .int .u64 0, .int .i64 0, .int .i64 0, .int .i64 0, .int .i64 0, .bool false] 43)).heap.size = base at *
  rcases HF.out with hF | hF | hF | hF
  all_goals first
    | have hq : ff.tmod 4 = 0 := hF
      have n5 := blk_cell BN_1.out 5 (.int .u64 0) rfl
      have n0 := blk_cell BN_1.out 0 (.int .i64 K) rfl
      have f_ := blk_free BN_1.out 5
      have lt := blk_cell BT_1.out 0 (.slice At 1 ct) rfl
      go_wp2_with ((with_reducible show wpList _ _ _ (⟨some 70, _, _, _, _, _⟩ :: _) _ _); refine hold ?_)
      refine Lib.hid ?_
      have BN_2 := set_blk (i := 5) BN_1.out (.int .u64 9)
      have BT_2 := Lib.hid (set_other (c := w.heap.size) (i := 5) (v := .int .u64 9) BT_1.out HQ.out)
      have RT_2 := Lib.hid (R_set RT_1.out HP.out 5 (.int .u64 9))
      have HB_2 := Lib.hid (CMem.below_set (b := w.heap.size) (i := 5) HB_1.out (Nat.le_refl _) (.int .u64 9))
      generalize v1.setCell ⟨w.heap.size, 5, none⟩ (.int .u64 9) = v2 at *
      obtain ⟨S2, MX, NN, FO, BN, hres⟩ := packLeaf w v2 K 9 0 0 false 3 BN_2 (res_leaf_0 K hL.out)
      clear n5 n0 f_ lt BN_1 BT_1 RT_1 HB_1 BN_2
    | have hq : ff.tmod 4 = 1 := hF
      have n8 := blk_cell BN_1.out 8 (.int .i64 0) rfl
      have n0 := blk_cell BN_1.out 0 (.int .i64 K) rfl
      have f_ := blk_free BN_1.out 8
      have lt := blk_cell BT_1.out 0 (.slice At 1 ct) rfl
      go_wp2_with ((with_reducible show wpList _ _ _ (⟨some 70, _, _, _, _, _⟩ :: _) _ _); refine hold ?_)
      refine Lib.hid ?_
      have BN_2 := set_blk (i := 8) BN_1.out (.int .i64 5)
      have BT_2 := Lib.hid (set_other (c := w.heap.size) (i := 8) (v := .int .i64 5) BT_1.out HQ.out)
      have RT_2 := Lib.hid (R_set RT_1.out HP.out 8 (.int .i64 5))
      have HB_2 := Lib.hid (CMem.below_set (b := w.heap.size) (i := 8) HB_1.out (Nat.le_refl _) (.int .i64 5))
      generalize v1.setCell ⟨w.heap.size, 8, none⟩ (.int .i64 5) = v2 at *
      obtain ⟨S2, MX, NN, FO, BN, hres⟩ := packLeaf w v2 K 0 5 0 false 3 BN_2 (res_leaf_1 K hL.out)
      clear n8 n0 f_ lt BN_1 BT_1 RT_1 HB_1 BN_2
    | have hq : ff.tmod 4 = 2 := hF
      have n10 := blk_cell BN_1.out 10 (.int .i64 0) rfl
      have n0 := blk_cell BN_1.out 0 (.int .i64 K) rfl
      have f_ := blk_free BN_1.out 10
      have lt := blk_cell BT_1.out 0 (.slice At 1 ct) rfl
      go_wp2_with ((with_reducible show wpList _ _ _ (⟨some 70, _, _, _, _, _⟩ :: _) _ _); refine hold ?_)
      refine Lib.hid ?_
      have BN_2 := set_blk (i := 10) BN_1.out (.int .i64 1)
      have BT_2 := Lib.hid (set_other (c := w.heap.size) (i := 10) (v := .int .i64 1) BT_1.out HQ.out)
      have RT_2 := Lib.hid (R_set RT_1.out HP.out 10 (.int .i64 1))
      have HB_2 := Lib.hid (CMem.below_set (b := w.heap.size) (i := 10) HB_1.out (Nat.le_refl _) (.int .i64 1))
      generalize v1.setCell ⟨w.heap.size, 10, none⟩ (.int .i64 1) = v2 at *
      obtain ⟨S2, MX, NN, FO, BN, hres⟩ := packLeaf w v2 K 0 0 1 false 3 BN_2 (res_leaf_2 K hL.out)
      clear n10 n0 f_ lt BN_1 BT_1 RT_1 HB_1 BN_2
    | have hq : ff.tmod 4 = 3 := hF
      have n11 := blk_cell BN_1.out 11 (.bool false) rfl
      have n0 := blk_cell BN_1.out 0 (.int .i64 K) rfl
      have f_ := blk_free BN_1.out 11
      have lt := blk_cell BT_1.out 0 (.slice At 1 ct) rfl
      go_wp2_with ((with_reducible show wpList _ _ _ (⟨some 70, _, _, _, _, _⟩ :: _) _ _); refine hold ?_)
      refine Lib.hid ?_
      have BN_2 := set_blk (i := 11) BN_1.out (.bool true)
      have BT_2 := Lib.hid (set_other (c := w.heap.size) (i := 11) (v := .bool true) BT_1.out HQ.out)
      have RT_2 := Lib.hid (R_set RT_1.out HP.out 11 (.bool true))
      have HB_2 := Lib.hid (CMem.below_set (b := w.heap.size) (i := 11) HB_1.out (Nat.le_refl _) (.bool true))
      generalize v1.setCell ⟨w.heap.size, 11, none⟩ (.bool true) = v2 at *
      obtain ⟨S2, MX, NN, FO, BN, hres⟩ := packLeaf w v2 K 0 0 0 true 3 BN_2 (res_leaf_3 K hL.out)
      clear n11 n0 f_ lt BN_1 BT_1 RT_1 HB_1 BN_2
  all_goals
    have n0 := blk_cell BN.out 0 (.int .i64 K) rfl
    have n1 := blk_cell BN.out 1 (.int .i64 0) rfl
    have n2 := blk_cell BN.out 2 (.int .i64 0) rfl
    have n3 := blk_cell BN.out 3 (.int .u64 0) rfl
    have n4 := blk_cell BN.out 4 (.int .u64 0) rfl
    have n5 := blk_cell BN.out 5 (.int .u64 S2) rfl
    have n6 := blk_cell BN.out 6 (.int .u64 0) rfl
    have n7 := blk_cell BN.out 7 (.int .i64 0) rfl
    have n8 := blk_cell BN.out 8 (.int .i64 MX) rfl
    have n9 := blk_cell BN.out 9 (.int .i64 0) rfl
    have n10 := blk_cell BN.out 10 (.int .i64 NN) rfl
    have n11 := blk_cell BN.out 11 (.bool FO) rfl
    have lt := blk_cell BT_2.out 0 (.slice At 1 ct) rfl
    go_wp2_with fail
    refine (wrap_own At ct [z43] [z43, ⟨K, 0, 0, ⟨⟨0, 0, S2, 0⟩⟩, 0, MX, 0, NN, FO⟩] 1 2 rfl (by decide) rfl K 0 0 0 0 S2 0 0 MX 0 NN FO rfl _ (R_C RT_2.out)).mono ?_
    rintro e w3 ⟨⟨v_, rfl, hoX⟩, hb⟩
    obtain ⟨AX, cX, rfl, hleX, CX⟩ := own_C (n := 2) rfl (by decide) hoX
    have BN_3 := Lib.hid (blk_alloc (below_blk hb BN.out) (.cells #[.slice AX 2 cX] 24))
    have BX_3 := Lib.hid (heap_alloc_new w3 (.cells #[.slice AX 2 cX] 24))
    have HB_3 := Lib.hid ((below_step HB_2.out hb).alloc (below_step HB_2.out hb).size (.cells #[.slice AX 2 cX] 24))
    have HPX := Lib.hid (show w.heap.size ≠ w3.heap.size by have := (below_step HB_2.out hb).size; have := lt_of_blk (below_blk hb BN.out); omega)
    have HLX := Lib.hid (show w.heap.size ≤ w3.heap.size from (below_step HB_2.out hb).size)
    clear hb hoX hleX CX BN BT_2 RT_2 HB_2 lt n0 n1 n2 n3 n4 n5 n6 n7 n8 n9 n10 n11
    have n0 := blk_cell BN_3.out 0 (.int .i64 K) rfl
    have lx := blk_cell BX_3.out 0 (.slice AX 2 cX) rfl
    have n1 := blk_cell BN_3.out 1 (.int .i64 0) rfl
    have n2 := blk_cell BN_3.out 2 (.int .i64 0) rfl
    have n3 := blk_cell BN_3.out 3 (.int .u64 0) rfl
    have n4 := blk_cell BN_3.out 4 (.int .u64 0) rfl
    have n5 := blk_cell BN_3.out 5 (.int .u64 S2) rfl
    have n6 := blk_cell BN_3.out 6 (.int .u64 0) rfl
    have n7 := blk_cell BN_3.out 7 (.int .i64 0) rfl
    have n8 := blk_cell BN_3.out 8 (.int .i64 MX) rfl
    have n9 := blk_cell BN_3.out 9 (.int .i64 0) rfl
    have n10 := blk_cell BN_3.out 10 (.int .i64 NN) rfl
    have n11 := blk_cell BN_3.out 11 (.bool FO) rfl
    go_wp2_with fail
    generalize w3.alloc (.cells #[.slice AX 2 cX] 24) = v3 at *
    generalize w3.heap.size = PX at *
    refine (leaf_R K 0 0 0 0 S2 0 0 MX 0 NN FO _).mono ?_
    rintro e w4 ⟨⟨AL, cL, rfl, hleL, CL⟩, hb⟩
    have BN_4 := Lib.hid (set_other (c := PX) (i := 0) (v := (.slice AL 1 cL)) (below_blk hb BN_3.out) HPX.out)
    have BX_4 := Lib.hid (set_blk (i := 0) (below_blk hb BX_3.out) (.slice AL 1 cL))
    have HB_4 := Lib.hid (CMem.below_set (b := PX) (i := 0) (below_step HB_3.out hb) HLX.out (.slice AL 1 cL))
    have CL_4 := Lib.hid (C_setT CL (below_blk hb BX_3.out) (.slice AL 1 cL))
    clear lx n0 n1 n2 n3 n4 n5 n6 n7 n8 n9 n10 n11
    have lx := blk_cell (below_blk hb BX_3.out) 0 (.slice AX 2 cX) rfl
    have fx := blk_free (below_blk hb BX_3.out) 0
    clear hb CL hleL BN_3 BX_3 HB_3
    go_wp2_with ((with_reducible show wpList _ _ _ (⟨some 76, _, _, _, _, _⟩ :: _) _ _); refine hold ?_)
    refine Lib.hid ?_
    clear lx fx
    generalize w4.setCell ⟨PX, 0, none⟩ (.slice AL 1 cL) = v4 at *
    have n0 := blk_cell BN_4.out 0 (.int .i64 K) rfl
    have lx := blk_cell BX_4.out 0 (.slice AL 1 cL) rfl
    go_wp2_with fail
    refine (right_tree AL cL [⟨K, 0, 0, ⟨⟨0, 0, S2, 0⟩⟩, 0, MX, 0, NN, FO⟩] 1 _ rfl (by decide) hres.out _ CL_4.out).mono ?_
    rintro e w5 ⟨rfl, hb⟩
    have HB_5 := Lib.hid (below_step HB_4.out hb)
    go_wp2_with fail
    refine (fixed_calls _).mono ?_
    rintro e w6 ⟨rfl, hb6⟩
    have HB_6 := Lib.hid (below_step HB_5.out hb6)
    go_wp2
    go_ret
    exact ⟨rfl, HB_6.out⟩
set_option maxHeartbeats 12800000 in
theorem walk_k1 (kk ff : Int) (w : World) (h0 : 0 ≤ kk) (h1 : kk < 256) (h2 : 0 ≤ ff) (h3 : ff < 256) (hK : kk.tmod 18 = 1) :
    Calls Try.prog 8 #[.int .u8 kk, .int .u8 ff] w fun e w' => e = .returned (.bool true) ∧ Below w.heap.size w w' := by
  have hF : ff.tmod 4 = 0 ∨ ff.tmod 4 = 1 ∨ ff.tmod 4 = 2 ∨ ff.tmod 4 = 3 := by rw [Int.tmod_eq_emod_of_nonneg h2]; omega
  have HF := Lib.hid hF
  clear hF
  have BN_0 := Lib.hid (heap_alloc_new w (.cells #[.int .i64 1, .int .i64 0, .int .i64 0, .int .u64 0, .int .u64 0, .int .u64 0, .int .u64 0, .int .i64 0, .int .i64 0, .int .i64 0, .int .i64 0, .bool false] 43))
  have HB_0 := Lib.hid (below1 w (.cells #[.int .i64 1, .int .i64 0, .int .i64 0, .int .u64 0, .int .u64 0, .int .u64 0, .int .u64 0, .int .i64 0, .int .i64 0, .int .i64 0, .int .i64 0, .bool false] 43))
  go_enter Try.func8, Try.ntmps8
  go_wp2_with fail
  refine (leaf_R 0 0 0 0 0 0 0 0 0 0 0 false _).mono ?_
  rintro e w1 ⟨⟨At, ct, rfl, hle, hR⟩, hb⟩
  have HP := Lib.hid (show w.heap.size < (w.alloc (.cells #[.int .i64 1, .int .i64 0, .int .i64 0, .int .u64 0, .int .u64 0, .int .u64 0, .int .u64 0, .int .i64 0, .int .i64 0, .int .i64 0, .int .i64 0, .bool false] 43)).heap.size by simp)
  have HQ := Lib.hid (show w1.heap.size ≠ w.heap.size by have := lt_of_blk (below_blk hb BN_0.out); omega)
  have BN_1 := Lib.hid (blk_alloc (below_blk hb BN_0.out) (.cells #[.slice At 1 ct] 24))
  have BT_1 := Lib.hid (heap_alloc_new w1 (.cells #[.slice At 1 ct] 24))
  have RT_1 := Lib.hid (Kd.R_below hR (below1 w1 (.cells #[.slice At 1 ct] 24)))
  have HB_1 := Lib.hid ((below_step HB_0.out hb).alloc (below_step HB_0.out hb).size (.cells #[.slice At 1 ct] 24))
  go_wp2_with ((with_reducible show wpList _ _ _ (⟨some 16, _, _, _, _, _⟩ :: _) _ _); refine hold ?_)
  refine Lib.hid ?_
  clear hb hR hle BN_0 HB_0
  generalize hW : w1.alloc (.cells #[.slice At 1 ct] 24) = v1 at *
  clear hW
  generalize w1.heap.size = Pt at *
  generalize (w.alloc (.cells #[.int .i64 1, .int .i64 0, .int .i64 0, .int .u64 0, .int .u64 0, .int .u64 0, .int .u64 0, .int .i64 0, .int .i64 0, .int .i64 0, .int .i64 0, .bool false] 43)).heap.size = base at *
  rcases HF.out with hF | hF | hF | hF
  all_goals first
    | have hq : ff.tmod 4 = 0 := hF
      have n5 := blk_cell BN_1.out 5 (.int .u64 0) rfl
      have n0 := blk_cell BN_1.out 0 (.int .i64 1) rfl
      have f_ := blk_free BN_1.out 5
      have lt := blk_cell BT_1.out 0 (.slice At 1 ct) rfl
      go_wp2_with ((with_reducible show wpList _ _ _ (⟨some 70, _, _, _, _, _⟩ :: _) _ _); refine hold ?_)
      refine Lib.hid ?_
      have BN_2 := set_blk (i := 5) BN_1.out (.int .u64 9)
      have BT_2 := Lib.hid (set_other (c := w.heap.size) (i := 5) (v := .int .u64 9) BT_1.out HQ.out)
      have RT_2 := Lib.hid (R_set RT_1.out HP.out 5 (.int .u64 9))
      have HB_2 := Lib.hid (CMem.below_set (b := w.heap.size) (i := 5) HB_1.out (Nat.le_refl _) (.int .u64 9))
      generalize v1.setCell ⟨w.heap.size, 5, none⟩ (.int .u64 9) = v2 at *
      obtain ⟨S2, MX, NN, FO, BN, hres⟩ := packLeaf w v2 1 9 0 0 false 0 BN_2 (by decide)
      clear n5 n0 f_ lt BN_1 BT_1 RT_1 HB_1 BN_2
    | have hq : ff.tmod 4 = 1 := hF
      have n8 := blk_cell BN_1.out 8 (.int .i64 0) rfl
      have n0 := blk_cell BN_1.out 0 (.int .i64 1) rfl
      have f_ := blk_free BN_1.out 8
      have lt := blk_cell BT_1.out 0 (.slice At 1 ct) rfl
      go_wp2_with ((with_reducible show wpList _ _ _ (⟨some 70, _, _, _, _, _⟩ :: _) _ _); refine hold ?_)
      refine Lib.hid ?_
      have BN_2 := set_blk (i := 8) BN_1.out (.int .i64 5)
      have BT_2 := Lib.hid (set_other (c := w.heap.size) (i := 8) (v := .int .i64 5) BT_1.out HQ.out)
      have RT_2 := Lib.hid (R_set RT_1.out HP.out 8 (.int .i64 5))
      have HB_2 := Lib.hid (CMem.below_set (b := w.heap.size) (i := 8) HB_1.out (Nat.le_refl _) (.int .i64 5))
      generalize v1.setCell ⟨w.heap.size, 8, none⟩ (.int .i64 5) = v2 at *
      obtain ⟨S2, MX, NN, FO, BN, hres⟩ := packLeaf w v2 1 0 5 0 false 3 BN_2 (by decide)
      clear n8 n0 f_ lt BN_1 BT_1 RT_1 HB_1 BN_2
    | have hq : ff.tmod 4 = 2 := hF
      have n10 := blk_cell BN_1.out 10 (.int .i64 0) rfl
      have n0 := blk_cell BN_1.out 0 (.int .i64 1) rfl
      have f_ := blk_free BN_1.out 10
      have lt := blk_cell BT_1.out 0 (.slice At 1 ct) rfl
      go_wp2_with ((with_reducible show wpList _ _ _ (⟨some 70, _, _, _, _, _⟩ :: _) _ _); refine hold ?_)
      refine Lib.hid ?_
      have BN_2 := set_blk (i := 10) BN_1.out (.int .i64 1)
      have BT_2 := Lib.hid (set_other (c := w.heap.size) (i := 10) (v := .int .i64 1) BT_1.out HQ.out)
      have RT_2 := Lib.hid (R_set RT_1.out HP.out 10 (.int .i64 1))
      have HB_2 := Lib.hid (CMem.below_set (b := w.heap.size) (i := 10) HB_1.out (Nat.le_refl _) (.int .i64 1))
      generalize v1.setCell ⟨w.heap.size, 10, none⟩ (.int .i64 1) = v2 at *
      obtain ⟨S2, MX, NN, FO, BN, hres⟩ := packLeaf w v2 1 0 0 1 false 3 BN_2 (by decide)
      clear n10 n0 f_ lt BN_1 BT_1 RT_1 HB_1 BN_2
    | have hq : ff.tmod 4 = 3 := hF
      have n11 := blk_cell BN_1.out 11 (.bool false) rfl
      have n0 := blk_cell BN_1.out 0 (.int .i64 1) rfl
      have f_ := blk_free BN_1.out 11
      have lt := blk_cell BT_1.out 0 (.slice At 1 ct) rfl
      go_wp2_with ((with_reducible show wpList _ _ _ (⟨some 70, _, _, _, _, _⟩ :: _) _ _); refine hold ?_)
      refine Lib.hid ?_
      have BN_2 := set_blk (i := 11) BN_1.out (.bool true)
      have BT_2 := Lib.hid (set_other (c := w.heap.size) (i := 11) (v := .bool true) BT_1.out HQ.out)
      have RT_2 := Lib.hid (R_set RT_1.out HP.out 11 (.bool true))
      have HB_2 := Lib.hid (CMem.below_set (b := w.heap.size) (i := 11) HB_1.out (Nat.le_refl _) (.bool true))
      generalize v1.setCell ⟨w.heap.size, 11, none⟩ (.bool true) = v2 at *
      obtain ⟨S2, MX, NN, FO, BN, hres⟩ := packLeaf w v2 1 0 0 0 true 3 BN_2 (by decide)
      clear n11 n0 f_ lt BN_1 BT_1 RT_1 HB_1 BN_2
  all_goals
    have n0 := blk_cell BN.out 0 (.int .i64 1) rfl
    have n1 := blk_cell BN.out 1 (.int .i64 0) rfl
    have n2 := blk_cell BN.out 2 (.int .i64 0) rfl
    have n3 := blk_cell BN.out 3 (.int .u64 0) rfl
    have n4 := blk_cell BN.out 4 (.int .u64 0) rfl
    have n5 := blk_cell BN.out 5 (.int .u64 S2) rfl
    have n6 := blk_cell BN.out 6 (.int .u64 0) rfl
    have n7 := blk_cell BN.out 7 (.int .i64 0) rfl
    have n8 := blk_cell BN.out 8 (.int .i64 MX) rfl
    have n9 := blk_cell BN.out 9 (.int .i64 0) rfl
    have n10 := blk_cell BN.out 10 (.int .i64 NN) rfl
    have n11 := blk_cell BN.out 11 (.bool FO) rfl
    have lt := blk_cell BT_2.out 0 (.slice At 1 ct) rfl
    go_wp2_with fail
    refine (wrap_own At ct [z43] [z43, ⟨1, 0, 0, ⟨⟨0, 0, S2, 0⟩⟩, 0, MX, 0, NN, FO⟩] 1 2 rfl (by decide) rfl 1 0 0 0 0 S2 0 0 MX 0 NN FO rfl _ (R_C RT_2.out)).mono ?_
    rintro e w3 ⟨⟨v_, rfl, hoX⟩, hb⟩
    obtain ⟨AX, cX, rfl, hleX, CX⟩ := own_C (n := 2) rfl (by decide) hoX
    have BN_3 := Lib.hid (blk_alloc (below_blk hb BN.out) (.cells #[.slice AX 2 cX] 24))
    have BX_3 := Lib.hid (heap_alloc_new w3 (.cells #[.slice AX 2 cX] 24))
    have HB_3 := Lib.hid ((below_step HB_2.out hb).alloc (below_step HB_2.out hb).size (.cells #[.slice AX 2 cX] 24))
    have HPX := Lib.hid (show w.heap.size ≠ w3.heap.size by have := (below_step HB_2.out hb).size; have := lt_of_blk (below_blk hb BN.out); omega)
    have HLX := Lib.hid (show w.heap.size ≤ w3.heap.size from (below_step HB_2.out hb).size)
    clear hb hoX hleX CX BN BT_2 RT_2 HB_2 lt n0 n1 n2 n3 n4 n5 n6 n7 n8 n9 n10 n11
    have n0 := blk_cell BN_3.out 0 (.int .i64 1) rfl
    have lx := blk_cell BX_3.out 0 (.slice AX 2 cX) rfl
    have n1 := blk_cell BN_3.out 1 (.int .i64 0) rfl
    have n2 := blk_cell BN_3.out 2 (.int .i64 0) rfl
    have n3 := blk_cell BN_3.out 3 (.int .u64 0) rfl
    have n4 := blk_cell BN_3.out 4 (.int .u64 0) rfl
    have n5 := blk_cell BN_3.out 5 (.int .u64 S2) rfl
    have n6 := blk_cell BN_3.out 6 (.int .u64 0) rfl
    have n7 := blk_cell BN_3.out 7 (.int .i64 0) rfl
    have n8 := blk_cell BN_3.out 8 (.int .i64 MX) rfl
    have n9 := blk_cell BN_3.out 9 (.int .i64 0) rfl
    have n10 := blk_cell BN_3.out 10 (.int .i64 NN) rfl
    have n11 := blk_cell BN_3.out 11 (.bool FO) rfl
    go_wp2_with fail
    generalize w3.alloc (.cells #[.slice AX 2 cX] 24) = v3 at *
    generalize w3.heap.size = PX at *
    refine (leaf_R 1 0 0 0 0 S2 0 0 MX 0 NN FO _).mono ?_
    rintro e w4 ⟨⟨AL, cL, rfl, hleL, CL⟩, hb⟩
    have BN_4 := Lib.hid (set_other (c := PX) (i := 0) (v := (.slice AL 1 cL)) (below_blk hb BN_3.out) HPX.out)
    have BX_4 := Lib.hid (set_blk (i := 0) (below_blk hb BX_3.out) (.slice AL 1 cL))
    have HB_4 := Lib.hid (CMem.below_set (b := PX) (i := 0) (below_step HB_3.out hb) HLX.out (.slice AL 1 cL))
    have CL_4 := Lib.hid (C_setT CL (below_blk hb BX_3.out) (.slice AL 1 cL))
    clear lx n0 n1 n2 n3 n4 n5 n6 n7 n8 n9 n10 n11
    have lx := blk_cell (below_blk hb BX_3.out) 0 (.slice AX 2 cX) rfl
    have fx := blk_free (below_blk hb BX_3.out) 0
    clear hb CL hleL BN_3 BX_3 HB_3
    go_wp2_with ((with_reducible show wpList _ _ _ (⟨some 76, _, _, _, _, _⟩ :: _) _ _); refine hold ?_)
    refine Lib.hid ?_
    clear lx fx
    generalize w4.setCell ⟨PX, 0, none⟩ (.slice AL 1 cL) = v4 at *
    have n0 := blk_cell BN_4.out 0 (.int .i64 1) rfl
    have lx := blk_cell BX_4.out 0 (.slice AL 1 cL) rfl
    go_wp2_with fail
    refine (right_tree AL cL [⟨1, 0, 0, ⟨⟨0, 0, S2, 0⟩⟩, 0, MX, 0, NN, FO⟩] 1 _ rfl (by decide) hres.out _ CL_4.out).mono ?_
    rintro e w5 ⟨rfl, hb⟩
    have HB_5 := Lib.hid (below_step HB_4.out hb)
    go_wp2_with fail
    refine (fixed_calls _).mono ?_
    rintro e w6 ⟨rfl, hb6⟩
    have HB_6 := Lib.hid (below_step HB_5.out hb6)
    go_wp2
    go_ret
    exact ⟨rfl, HB_6.out⟩
set_option maxHeartbeats 12800000 in
theorem walk_k12 (kk ff : Int) (w : World) (h0 : 0 ≤ kk) (h1 : kk < 256) (h2 : 0 ≤ ff) (h3 : ff < 256) (hK : kk.tmod 18 = 12) :
    Calls Try.prog 8 #[.int .u8 kk, .int .u8 ff] w fun e w' => e = .returned (.bool true) ∧ Below w.heap.size w w' := by
  have hF : ff.tmod 4 = 0 ∨ ff.tmod 4 = 1 ∨ ff.tmod 4 = 2 ∨ ff.tmod 4 = 3 := by rw [Int.tmod_eq_emod_of_nonneg h2]; omega
  have HF := Lib.hid hF
  clear hF
  have BN_0 := Lib.hid (heap_alloc_new w (.cells #[.int .i64 12, .int .i64 0, .int .i64 0, .int .u64 0, .int .u64 0, .int .u64 0, .int .u64 0, .int .i64 0, .int .i64 0, .int .i64 0, .int .i64 0, .bool false] 43))
  have HB_0 := Lib.hid (below1 w (.cells #[.int .i64 12, .int .i64 0, .int .i64 0, .int .u64 0, .int .u64 0, .int .u64 0, .int .u64 0, .int .i64 0, .int .i64 0, .int .i64 0, .int .i64 0, .bool false] 43))
  go_enter Try.func8, Try.ntmps8
  go_wp2_with fail
  refine (leaf_R 0 0 0 0 0 0 0 0 0 0 0 false _).mono ?_
  rintro e w1 ⟨⟨At, ct, rfl, hle, hR⟩, hb⟩
  have HP := Lib.hid (show w.heap.size < (w.alloc (.cells #[.int .i64 12, .int .i64 0, .int .i64 0, .int .u64 0, .int .u64 0, .int .u64 0, .int .u64 0, .int .i64 0, .int .i64 0, .int .i64 0, .int .i64 0, .bool false] 43)).heap.size by simp)
  have HQ := Lib.hid (show w1.heap.size ≠ w.heap.size by have := lt_of_blk (below_blk hb BN_0.out); omega)
  have BN_1 := Lib.hid (blk_alloc (below_blk hb BN_0.out) (.cells #[.slice At 1 ct] 24))
  have BT_1 := Lib.hid (heap_alloc_new w1 (.cells #[.slice At 1 ct] 24))
  have RT_1 := Lib.hid (Kd.R_below hR (below1 w1 (.cells #[.slice At 1 ct] 24)))
  have HB_1 := Lib.hid ((below_step HB_0.out hb).alloc (below_step HB_0.out hb).size (.cells #[.slice At 1 ct] 24))
  go_wp2_with ((with_reducible show wpList _ _ _ (⟨some 16, _, _, _, _, _⟩ :: _) _ _); refine hold ?_)
  refine Lib.hid ?_
  clear hb hR hle BN_0 HB_0
  generalize hW : w1.alloc (.cells #[.slice At 1 ct] 24) = v1 at *
  clear hW
  generalize w1.heap.size = Pt at *
  generalize (w.alloc (.cells #[.int .i64 12, .int .i64 0, .int .i64 0, .int .u64 0, .int .u64 0, .int .u64 0, .int .u64 0, .int .i64 0, .int .i64 0, .int .i64 0, .int .i64 0, .bool false] 43)).heap.size = base at *
  rcases HF.out with hF | hF | hF | hF
  all_goals first
    | have hq : ff.tmod 4 = 0 := hF
      have n5 := blk_cell BN_1.out 5 (.int .u64 0) rfl
      have n0 := blk_cell BN_1.out 0 (.int .i64 12) rfl
      have f_ := blk_free BN_1.out 5
      have lt := blk_cell BT_1.out 0 (.slice At 1 ct) rfl
      go_wp2_with ((with_reducible show wpList _ _ _ (⟨some 70, _, _, _, _, _⟩ :: _) _ _); refine hold ?_)
      refine Lib.hid ?_
      have BN_2 := set_blk (i := 5) BN_1.out (.int .u64 9)
      have BT_2 := Lib.hid (set_other (c := w.heap.size) (i := 5) (v := .int .u64 9) BT_1.out HQ.out)
      have RT_2 := Lib.hid (R_set RT_1.out HP.out 5 (.int .u64 9))
      have HB_2 := Lib.hid (CMem.below_set (b := w.heap.size) (i := 5) HB_1.out (Nat.le_refl _) (.int .u64 9))
      generalize v1.setCell ⟨w.heap.size, 5, none⟩ (.int .u64 9) = v2 at *
      obtain ⟨S2, MX, NN, FO, BN, hres⟩ := packLeaf w v2 12 9 0 0 false 3 BN_2 (by decide)
      clear n5 n0 f_ lt BN_1 BT_1 RT_1 HB_1 BN_2
    | have hq : ff.tmod 4 = 1 := hF
      have n8 := blk_cell BN_1.out 8 (.int .i64 0) rfl
      have n0 := blk_cell BN_1.out 0 (.int .i64 12) rfl
      have f_ := blk_free BN_1.out 8
      have lt := blk_cell BT_1.out 0 (.slice At 1 ct) rfl
      go_wp2_with ((with_reducible show wpList _ _ _ (⟨some 70, _, _, _, _, _⟩ :: _) _ _); refine hold ?_)
      refine Lib.hid ?_
      have BN_2 := set_blk (i := 8) BN_1.out (.int .i64 5)
      have BT_2 := Lib.hid (set_other (c := w.heap.size) (i := 8) (v := .int .i64 5) BT_1.out HQ.out)
      have RT_2 := Lib.hid (R_set RT_1.out HP.out 8 (.int .i64 5))
      have HB_2 := Lib.hid (CMem.below_set (b := w.heap.size) (i := 8) HB_1.out (Nat.le_refl _) (.int .i64 5))
      generalize v1.setCell ⟨w.heap.size, 8, none⟩ (.int .i64 5) = v2 at *
      obtain ⟨S2, MX, NN, FO, BN, hres⟩ := packLeaf w v2 12 0 5 0 false 3 BN_2 (by decide)
      clear n8 n0 f_ lt BN_1 BT_1 RT_1 HB_1 BN_2
    | have hq : ff.tmod 4 = 2 := hF
      have n10 := blk_cell BN_1.out 10 (.int .i64 0) rfl
      have n0 := blk_cell BN_1.out 0 (.int .i64 12) rfl
      have f_ := blk_free BN_1.out 10
      have lt := blk_cell BT_1.out 0 (.slice At 1 ct) rfl
      go_wp2_with ((with_reducible show wpList _ _ _ (⟨some 70, _, _, _, _, _⟩ :: _) _ _); refine hold ?_)
      refine Lib.hid ?_
      have BN_2 := set_blk (i := 10) BN_1.out (.int .i64 1)
      have BT_2 := Lib.hid (set_other (c := w.heap.size) (i := 10) (v := .int .i64 1) BT_1.out HQ.out)
      have RT_2 := Lib.hid (R_set RT_1.out HP.out 10 (.int .i64 1))
      have HB_2 := Lib.hid (CMem.below_set (b := w.heap.size) (i := 10) HB_1.out (Nat.le_refl _) (.int .i64 1))
      generalize v1.setCell ⟨w.heap.size, 10, none⟩ (.int .i64 1) = v2 at *
      obtain ⟨S2, MX, NN, FO, BN, hres⟩ := packLeaf w v2 12 0 0 1 false 6 BN_2 (by decide)
      clear n10 n0 f_ lt BN_1 BT_1 RT_1 HB_1 BN_2
    | have hq : ff.tmod 4 = 3 := hF
      have n11 := blk_cell BN_1.out 11 (.bool false) rfl
      have n0 := blk_cell BN_1.out 0 (.int .i64 12) rfl
      have f_ := blk_free BN_1.out 11
      have lt := blk_cell BT_1.out 0 (.slice At 1 ct) rfl
      go_wp2_with ((with_reducible show wpList _ _ _ (⟨some 70, _, _, _, _, _⟩ :: _) _ _); refine hold ?_)
      refine Lib.hid ?_
      have BN_2 := set_blk (i := 11) BN_1.out (.bool true)
      have BT_2 := Lib.hid (set_other (c := w.heap.size) (i := 11) (v := .bool true) BT_1.out HQ.out)
      have RT_2 := Lib.hid (R_set RT_1.out HP.out 11 (.bool true))
      have HB_2 := Lib.hid (CMem.below_set (b := w.heap.size) (i := 11) HB_1.out (Nat.le_refl _) (.bool true))
      generalize v1.setCell ⟨w.heap.size, 11, none⟩ (.bool true) = v2 at *
      obtain ⟨S2, MX, NN, FO, BN, hres⟩ := packLeaf w v2 12 0 0 0 true 6 BN_2 (by decide)
      clear n11 n0 f_ lt BN_1 BT_1 RT_1 HB_1 BN_2
  all_goals
    have n0 := blk_cell BN.out 0 (.int .i64 12) rfl
    have n1 := blk_cell BN.out 1 (.int .i64 0) rfl
    have n2 := blk_cell BN.out 2 (.int .i64 0) rfl
    have n3 := blk_cell BN.out 3 (.int .u64 0) rfl
    have n4 := blk_cell BN.out 4 (.int .u64 0) rfl
    have n5 := blk_cell BN.out 5 (.int .u64 S2) rfl
    have n6 := blk_cell BN.out 6 (.int .u64 0) rfl
    have n7 := blk_cell BN.out 7 (.int .i64 0) rfl
    have n8 := blk_cell BN.out 8 (.int .i64 MX) rfl
    have n9 := blk_cell BN.out 9 (.int .i64 0) rfl
    have n10 := blk_cell BN.out 10 (.int .i64 NN) rfl
    have n11 := blk_cell BN.out 11 (.bool FO) rfl
    have lt := blk_cell BT_2.out 0 (.slice At 1 ct) rfl
    go_wp2_with fail
    refine (wrap_own At ct [z43] [z43, ⟨12, 0, 0, ⟨⟨0, 0, S2, 0⟩⟩, 0, MX, 0, NN, FO⟩] 1 2 rfl (by decide) rfl 12 0 0 0 0 S2 0 0 MX 0 NN FO rfl _ (R_C RT_2.out)).mono ?_
    rintro e w3 ⟨⟨v_, rfl, hoX⟩, hb⟩
    obtain ⟨AX, cX, rfl, hleX, CX⟩ := own_C (n := 2) rfl (by decide) hoX
    have BN_3 := Lib.hid (blk_alloc (below_blk hb BN.out) (.cells #[.slice AX 2 cX] 24))
    have BX_3 := Lib.hid (heap_alloc_new w3 (.cells #[.slice AX 2 cX] 24))
    have HB_3 := Lib.hid ((below_step HB_2.out hb).alloc (below_step HB_2.out hb).size (.cells #[.slice AX 2 cX] 24))
    have HPX := Lib.hid (show w.heap.size ≠ w3.heap.size by have := (below_step HB_2.out hb).size; have := lt_of_blk (below_blk hb BN.out); omega)
    have HLX := Lib.hid (show w.heap.size ≤ w3.heap.size from (below_step HB_2.out hb).size)
    clear hb hoX hleX CX BN BT_2 RT_2 HB_2 lt n0 n1 n2 n3 n4 n5 n6 n7 n8 n9 n10 n11
    have n0 := blk_cell BN_3.out 0 (.int .i64 12) rfl
    have lx := blk_cell BX_3.out 0 (.slice AX 2 cX) rfl
    have n1 := blk_cell BN_3.out 1 (.int .i64 0) rfl
    have n2 := blk_cell BN_3.out 2 (.int .i64 0) rfl
    have n3 := blk_cell BN_3.out 3 (.int .u64 0) rfl
    have n4 := blk_cell BN_3.out 4 (.int .u64 0) rfl
    have n5 := blk_cell BN_3.out 5 (.int .u64 S2) rfl
    have n6 := blk_cell BN_3.out 6 (.int .u64 0) rfl
    have n7 := blk_cell BN_3.out 7 (.int .i64 0) rfl
    have n8 := blk_cell BN_3.out 8 (.int .i64 MX) rfl
    have n9 := blk_cell BN_3.out 9 (.int .i64 0) rfl
    have n10 := blk_cell BN_3.out 10 (.int .i64 NN) rfl
    have n11 := blk_cell BN_3.out 11 (.bool FO) rfl
    go_wp2_with fail
    generalize w3.alloc (.cells #[.slice AX 2 cX] 24) = v3 at *
    generalize w3.heap.size = PX at *
    refine (leaf_R 12 0 0 0 0 S2 0 0 MX 0 NN FO _).mono ?_
    rintro e w4 ⟨⟨AL, cL, rfl, hleL, CL⟩, hb⟩
    have BN_4 := Lib.hid (set_other (c := PX) (i := 0) (v := (.slice AL 1 cL)) (below_blk hb BN_3.out) HPX.out)
    have BX_4 := Lib.hid (set_blk (i := 0) (below_blk hb BX_3.out) (.slice AL 1 cL))
    have HB_4 := Lib.hid (CMem.below_set (b := PX) (i := 0) (below_step HB_3.out hb) HLX.out (.slice AL 1 cL))
    have CL_4 := Lib.hid (C_setT CL (below_blk hb BX_3.out) (.slice AL 1 cL))
    clear lx n0 n1 n2 n3 n4 n5 n6 n7 n8 n9 n10 n11
    have lx := blk_cell (below_blk hb BX_3.out) 0 (.slice AX 2 cX) rfl
    have fx := blk_free (below_blk hb BX_3.out) 0
    clear hb CL hleL BN_3 BX_3 HB_3
    go_wp2_with ((with_reducible show wpList _ _ _ (⟨some 76, _, _, _, _, _⟩ :: _) _ _); refine hold ?_)
    refine Lib.hid ?_
    clear lx fx
    generalize w4.setCell ⟨PX, 0, none⟩ (.slice AL 1 cL) = v4 at *
    have n0 := blk_cell BN_4.out 0 (.int .i64 12) rfl
    have lx := blk_cell BX_4.out 0 (.slice AL 1 cL) rfl
    go_wp2_with fail
    refine (right_tree AL cL [⟨12, 0, 0, ⟨⟨0, 0, S2, 0⟩⟩, 0, MX, 0, NN, FO⟩] 1 _ rfl (by decide) hres.out _ CL_4.out).mono ?_
    rintro e w5 ⟨rfl, hb⟩
    have HB_5 := Lib.hid (below_step HB_4.out hb)
    go_wp2_with fail
    refine (fixed_calls _).mono ?_
    rintro e w6 ⟨rfl, hb6⟩
    have HB_6 := Lib.hid (below_step HB_5.out hb6)
    go_wp2
    go_ret
    exact ⟨rfl, HB_6.out⟩
set_option maxHeartbeats 12800000 in
theorem walk_k10 (kk ff : Int) (w : World) (h0 : 0 ≤ kk) (h1 : kk < 256) (h2 : 0 ≤ ff) (h3 : ff < 256) (hK : kk.tmod 18 = 10) :
    Calls Try.prog 8 #[.int .u8 kk, .int .u8 ff] w fun e w' => e = .returned (.bool true) ∧ Below w.heap.size w w' := by
  have hF : ff.tmod 4 = 0 ∨ ff.tmod 4 = 1 ∨ ff.tmod 4 = 2 ∨ ff.tmod 4 = 3 := by rw [Int.tmod_eq_emod_of_nonneg h2]; omega
  have HF := Lib.hid hF
  clear hF
  have BN_0 := Lib.hid (heap_alloc_new w (.cells #[.int .i64 10, .int .i64 0, .int .i64 0, .int .u64 0, .int .u64 0, .int .u64 0, .int .u64 0, .int .i64 0, .int .i64 0, .int .i64 0, .int .i64 0, .bool false] 43))
  have HB_0 := Lib.hid (below1 w (.cells #[.int .i64 10, .int .i64 0, .int .i64 0, .int .u64 0, .int .u64 0, .int .u64 0, .int .u64 0, .int .i64 0, .int .i64 0, .int .i64 0, .int .i64 0, .bool false] 43))
  go_enter Try.func8, Try.ntmps8
  go_wp2_with fail
  refine (leaf_R 0 0 0 0 0 0 0 0 0 0 0 false _).mono ?_
  rintro e w1 ⟨⟨At, ct, rfl, hle, hR⟩, hb⟩
  have HP := Lib.hid (show w.heap.size < (w.alloc (.cells #[.int .i64 10, .int .i64 0, .int .i64 0, .int .u64 0, .int .u64 0, .int .u64 0, .int .u64 0, .int .i64 0, .int .i64 0, .int .i64 0, .int .i64 0, .bool false] 43)).heap.size by simp)
  have HQ := Lib.hid (show w1.heap.size ≠ w.heap.size by have := lt_of_blk (below_blk hb BN_0.out); omega)
  have BN_1 := Lib.hid (blk_alloc (below_blk hb BN_0.out) (.cells #[.slice At 1 ct] 24))
  have BT_1 := Lib.hid (heap_alloc_new w1 (.cells #[.slice At 1 ct] 24))
  have RT_1 := Lib.hid (Kd.R_below hR (below1 w1 (.cells #[.slice At 1 ct] 24)))
  have HB_1 := Lib.hid ((below_step HB_0.out hb).alloc (below_step HB_0.out hb).size (.cells #[.slice At 1 ct] 24))
  go_wp2_with ((with_reducible show wpList _ _ _ (⟨some 16, _, _, _, _, _⟩ :: _) _ _); refine hold ?_)
  refine Lib.hid ?_
  clear hb hR hle BN_0 HB_0
  generalize hW : w1.alloc (.cells #[.slice At 1 ct] 24) = v1 at *
  clear hW
  generalize w1.heap.size = Pt at *
  generalize (w.alloc (.cells #[.int .i64 10, .int .i64 0, .int .i64 0, .int .u64 0, .int .u64 0, .int .u64 0, .int .u64 0, .int .i64 0, .int .i64 0, .int .i64 0, .int .i64 0, .bool false] 43)).heap.size = base at *
  rcases HF.out with hF | hF | hF | hF
  all_goals first
    | have hq : ff.tmod 4 = 0 := hF
      have n5 := blk_cell BN_1.out 5 (.int .u64 0) rfl
      have n0 := blk_cell BN_1.out 0 (.int .i64 10) rfl
      have f_ := blk_free BN_1.out 5
      have lt := blk_cell BT_1.out 0 (.slice At 1 ct) rfl
      go_wp2_with ((with_reducible show wpList _ _ _ (⟨some 70, _, _, _, _, _⟩ :: _) _ _); refine hold ?_)
      refine Lib.hid ?_
      have BN_2 := set_blk (i := 5) BN_1.out (.int .u64 9)
      have BT_2 := Lib.hid (set_other (c := w.heap.size) (i := 5) (v := .int .u64 9) BT_1.out HQ.out)
      have RT_2 := Lib.hid (R_set RT_1.out HP.out 5 (.int .u64 9))
      have HB_2 := Lib.hid (CMem.below_set (b := w.heap.size) (i := 5) HB_1.out (Nat.le_refl _) (.int .u64 9))
      generalize v1.setCell ⟨w.heap.size, 5, none⟩ (.int .u64 9) = v2 at *
      obtain ⟨S2, MX, NN, FO, BN, hres⟩ := packWrap w v2 10 9 0 0 false 3 BN_2 (by decide)
      clear n5 n0 f_ lt BN_1 BT_1 RT_1 HB_1 BN_2
    | have hq : ff.tmod 4 = 1 := hF
      have n8 := blk_cell BN_1.out 8 (.int .i64 0) rfl
      have n0 := blk_cell BN_1.out 0 (.int .i64 10) rfl
      have f_ := blk_free BN_1.out 8
      have lt := blk_cell BT_1.out 0 (.slice At 1 ct) rfl
      go_wp2_with ((with_reducible show wpList _ _ _ (⟨some 70, _, _, _, _, _⟩ :: _) _ _); refine hold ?_)
      refine Lib.hid ?_
      have BN_2 := set_blk (i := 8) BN_1.out (.int .i64 5)
      have BT_2 := Lib.hid (set_other (c := w.heap.size) (i := 8) (v := .int .i64 5) BT_1.out HQ.out)
      have RT_2 := Lib.hid (R_set RT_1.out HP.out 8 (.int .i64 5))
      have HB_2 := Lib.hid (CMem.below_set (b := w.heap.size) (i := 8) HB_1.out (Nat.le_refl _) (.int .i64 5))
      generalize v1.setCell ⟨w.heap.size, 8, none⟩ (.int .i64 5) = v2 at *
      obtain ⟨S2, MX, NN, FO, BN, hres⟩ := packWrap w v2 10 0 5 0 false 0 BN_2 (by decide)
      clear n8 n0 f_ lt BN_1 BT_1 RT_1 HB_1 BN_2
    | have hq : ff.tmod 4 = 2 := hF
      have n10 := blk_cell BN_1.out 10 (.int .i64 0) rfl
      have n0 := blk_cell BN_1.out 0 (.int .i64 10) rfl
      have f_ := blk_free BN_1.out 10
      have lt := blk_cell BT_1.out 0 (.slice At 1 ct) rfl
      go_wp2_with ((with_reducible show wpList _ _ _ (⟨some 70, _, _, _, _, _⟩ :: _) _ _); refine hold ?_)
      refine Lib.hid ?_
      have BN_2 := set_blk (i := 10) BN_1.out (.int .i64 1)
      have BT_2 := Lib.hid (set_other (c := w.heap.size) (i := 10) (v := .int .i64 1) BT_1.out HQ.out)
      have RT_2 := Lib.hid (R_set RT_1.out HP.out 10 (.int .i64 1))
      have HB_2 := Lib.hid (CMem.below_set (b := w.heap.size) (i := 10) HB_1.out (Nat.le_refl _) (.int .i64 1))
      generalize v1.setCell ⟨w.heap.size, 10, none⟩ (.int .i64 1) = v2 at *
      obtain ⟨S2, MX, NN, FO, BN, hres⟩ := packWrap w v2 10 0 0 1 false 3 BN_2 (by decide)
      clear n10 n0 f_ lt BN_1 BT_1 RT_1 HB_1 BN_2
    | have hq : ff.tmod 4 = 3 := hF
      have n11 := blk_cell BN_1.out 11 (.bool false) rfl
      have n0 := blk_cell BN_1.out 0 (.int .i64 10) rfl
      have f_ := blk_free BN_1.out 11
      have lt := blk_cell BT_1.out 0 (.slice At 1 ct) rfl
      go_wp2_with ((with_reducible show wpList _ _ _ (⟨some 70, _, _, _, _, _⟩ :: _) _ _); refine hold ?_)
      refine Lib.hid ?_
      have BN_2 := set_blk (i := 11) BN_1.out (.bool true)
      have BT_2 := Lib.hid (set_other (c := w.heap.size) (i := 11) (v := .bool true) BT_1.out HQ.out)
      have RT_2 := Lib.hid (R_set RT_1.out HP.out 11 (.bool true))
      have HB_2 := Lib.hid (CMem.below_set (b := w.heap.size) (i := 11) HB_1.out (Nat.le_refl _) (.bool true))
      generalize v1.setCell ⟨w.heap.size, 11, none⟩ (.bool true) = v2 at *
      obtain ⟨S2, MX, NN, FO, BN, hres⟩ := packWrap w v2 10 0 0 0 true 3 BN_2 (by decide)
      clear n11 n0 f_ lt BN_1 BT_1 RT_1 HB_1 BN_2
  all_goals
    have n0 := blk_cell BN.out 0 (.int .i64 10) rfl
    have n1 := blk_cell BN.out 1 (.int .i64 0) rfl
    have n2 := blk_cell BN.out 2 (.int .i64 0) rfl
    have n3 := blk_cell BN.out 3 (.int .u64 0) rfl
    have n4 := blk_cell BN.out 4 (.int .u64 0) rfl
    have n5 := blk_cell BN.out 5 (.int .u64 S2) rfl
    have n6 := blk_cell BN.out 6 (.int .u64 0) rfl
    have n7 := blk_cell BN.out 7 (.int .i64 0) rfl
    have n8 := blk_cell BN.out 8 (.int .i64 MX) rfl
    have n9 := blk_cell BN.out 9 (.int .i64 0) rfl
    have n10 := blk_cell BN.out 10 (.int .i64 NN) rfl
    have n11 := blk_cell BN.out 11 (.bool FO) rfl
    have lt := blk_cell BT_2.out 0 (.slice At 1 ct) rfl
    go_wp2_with fail
    refine (wrap_own At ct [z43] [z43, ⟨10, 0, 0, ⟨⟨0, 0, S2, 0⟩⟩, 0, MX, 0, NN, FO⟩] 1 2 rfl (by decide) rfl 10 0 0 0 0 S2 0 0 MX 0 NN FO rfl _ (R_C RT_2.out)).mono ?_
    rintro e w3 ⟨⟨v_, rfl, hoX⟩, hb⟩
    obtain ⟨AX, cX, rfl, hleX, CX⟩ := own_C (n := 2) rfl (by decide) hoX
    have BN_3 := Lib.hid (blk_alloc (below_blk hb BN.out) (.cells #[.slice AX 2 cX] 24))
    have BX_3 := Lib.hid (heap_alloc_new w3 (.cells #[.slice AX 2 cX] 24))
    have HB_3 := Lib.hid ((below_step HB_2.out hb).alloc (below_step HB_2.out hb).size (.cells #[.slice AX 2 cX] 24))
    have CX_3 := Lib.hid (Kd.C_below CX (below1 _ (.cells #[.slice AX 2 cX] 24)))
    have HPX := Lib.hid (show w.heap.size ≠ w3.heap.size by have := (below_step HB_2.out hb).size; have := lt_of_blk (below_blk hb BN.out); omega)
    have HLX := Lib.hid (show w.heap.size ≤ w3.heap.size from (below_step HB_2.out hb).size)
    clear hb hoX hleX CX BN BT_2 RT_2 HB_2 lt n0 n1 n2 n3 n4 n5 n6 n7 n8 n9 n10 n11
    have n0 := blk_cell BN_3.out 0 (.int .i64 10) rfl
    have lx := blk_cell BX_3.out 0 (.slice AX 2 cX) rfl
    go_wp2_with fail
    refine (right_tree AX cX [z43, ⟨10, 0, 0, ⟨⟨0, 0, S2, 0⟩⟩, 0, MX, 0, NN, FO⟩] 2 _ rfl (by decide) hres.out _ CX_3.out).mono ?_
    rintro e w4 ⟨rfl, hb⟩
    have HB_4 := Lib.hid (below_step HB_3.out hb)
    go_wp2_with fail
    refine (fixed_calls _).mono ?_
    rintro e w5 ⟨rfl, hb5⟩
    have HB_5 := Lib.hid (below_step HB_4.out hb5)
    go_wp2
    go_ret
    exact ⟨rfl, HB_5.out⟩
set_option maxHeartbeats 12800000 in
theorem walk_k11 (kk ff : Int) (w : World) (h0 : 0 ≤ kk) (h1 : kk < 256) (h2 : 0 ≤ ff) (h3 : ff < 256) (hK : kk.tmod 18 = 11) :
    Calls Try.prog 8 #[.int .u8 kk, .int .u8 ff] w fun e w' => e = .returned (.bool true) ∧ Below w.heap.size w w' := by
  have hF : ff.tmod 4 = 0 ∨ ff.tmod 4 = 1 ∨ ff.tmod 4 = 2 ∨ ff.tmod 4 = 3 := by rw [Int.tmod_eq_emod_of_nonneg h2]; omega
  have HF := Lib.hid hF
  clear hF
  have BN_0 := Lib.hid (heap_alloc_new w (.cells #[.int .i64 11, .int .i64 0, .int .i64 0, .int .u64 0, .int .u64 0, .int .u64 0, .int .u64 0, .int .i64 0, .int .i64 0, .int .i64 0, .int .i64 0, .bool false] 43))
  have HB_0 := Lib.hid (below1 w (.cells #[.int .i64 11, .int .i64 0, .int .i64 0, .int .u64 0, .int .u64 0, .int .u64 0, .int .u64 0, .int .i64 0, .int .i64 0, .int .i64 0, .int .i64 0, .bool false] 43))
  go_enter Try.func8, Try.ntmps8
  go_wp2_with fail
  refine (leaf_R 0 0 0 0 0 0 0 0 0 0 0 false _).mono ?_
  rintro e w1 ⟨⟨At, ct, rfl, hle, hR⟩, hb⟩
  have HP := Lib.hid (show w.heap.size < (w.alloc (.cells #[.int .i64 11, .int .i64 0, .int .i64 0, .int .u64 0, .int .u64 0, .int .u64 0, .int .u64 0, .int .i64 0, .int .i64 0, .int .i64 0, .int .i64 0, .bool false] 43)).heap.size by simp)
  have HQ := Lib.hid (show w1.heap.size ≠ w.heap.size by have := lt_of_blk (below_blk hb BN_0.out); omega)
  have BN_1 := Lib.hid (blk_alloc (below_blk hb BN_0.out) (.cells #[.slice At 1 ct] 24))
  have BT_1 := Lib.hid (heap_alloc_new w1 (.cells #[.slice At 1 ct] 24))
  have RT_1 := Lib.hid (Kd.R_below hR (below1 w1 (.cells #[.slice At 1 ct] 24)))
  have HB_1 := Lib.hid ((below_step HB_0.out hb).alloc (below_step HB_0.out hb).size (.cells #[.slice At 1 ct] 24))
  go_wp2_with ((with_reducible show wpList _ _ _ (⟨some 16, _, _, _, _, _⟩ :: _) _ _); refine hold ?_)
  refine Lib.hid ?_
  clear hb hR hle BN_0 HB_0
  generalize hW : w1.alloc (.cells #[.slice At 1 ct] 24) = v1 at *
  clear hW
  generalize w1.heap.size = Pt at *
  generalize (w.alloc (.cells #[.int .i64 11, .int .i64 0, .int .i64 0, .int .u64 0, .int .u64 0, .int .u64 0, .int .u64 0, .int .i64 0, .int .i64 0, .int .i64 0, .int .i64 0, .bool false] 43)).heap.size = base at *
  rcases HF.out with hF | hF | hF | hF
  all_goals first
    | have hq : ff.tmod 4 = 0 := hF
      have n5 := blk_cell BN_1.out 5 (.int .u64 0) rfl
      have n0 := blk_cell BN_1.out 0 (.int .i64 11) rfl
      have f_ := blk_free BN_1.out 5
      have lt := blk_cell BT_1.out 0 (.slice At 1 ct) rfl
      go_wp2_with ((with_reducible show wpList _ _ _ (⟨some 70, _, _, _, _, _⟩ :: _) _ _); refine hold ?_)
      refine Lib.hid ?_
      have BN_2 := set_blk (i := 5) BN_1.out (.int .u64 9)
      have BT_2 := Lib.hid (set_other (c := w.heap.size) (i := 5) (v := .int .u64 9) BT_1.out HQ.out)
      have RT_2 := Lib.hid (R_set RT_1.out HP.out 5 (.int .u64 9))
      have HB_2 := Lib.hid (CMem.below_set (b := w.heap.size) (i := 5) HB_1.out (Nat.le_refl _) (.int .u64 9))
      generalize v1.setCell ⟨w.heap.size, 5, none⟩ (.int .u64 9) = v2 at *
      obtain ⟨S2, MX, NN, FO, BN, hres⟩ := packWrap w v2 11 9 0 0 false 3 BN_2 (by decide)
      clear n5 n0 f_ lt BN_1 BT_1 RT_1 HB_1 BN_2
    | have hq : ff.tmod 4 = 1 := hF
      have n8 := blk_cell BN_1.out 8 (.int .i64 0) rfl
      have n0 := blk_cell BN_1.out 0 (.int .i64 11) rfl
      have f_ := blk_free BN_1.out 8
      have lt := blk_cell BT_1.out 0 (.slice At 1 ct) rfl
      go_wp2_with ((with_reducible show wpList _ _ _ (⟨some 70, _, _, _, _, _⟩ :: _) _ _); refine hold ?_)
      refine Lib.hid ?_
      have BN_2 := set_blk (i := 8) BN_1.out (.int .i64 5)
      have BT_2 := Lib.hid (set_other (c := w.heap.size) (i := 8) (v := .int .i64 5) BT_1.out HQ.out)
      have RT_2 := Lib.hid (R_set RT_1.out HP.out 8 (.int .i64 5))
      have HB_2 := Lib.hid (CMem.below_set (b := w.heap.size) (i := 8) HB_1.out (Nat.le_refl _) (.int .i64 5))
      generalize v1.setCell ⟨w.heap.size, 8, none⟩ (.int .i64 5) = v2 at *
      obtain ⟨S2, MX, NN, FO, BN, hres⟩ := packWrap w v2 11 0 5 0 false 3 BN_2 (by decide)
      clear n8 n0 f_ lt BN_1 BT_1 RT_1 HB_1 BN_2
    | have hq : ff.tmod 4 = 2 := hF
      have n10 := blk_cell BN_1.out 10 (.int .i64 0) rfl
      have n0 := blk_cell BN_1.out 0 (.int .i64 11) rfl
      have f_ := blk_free BN_1.out 10
      have lt := blk_cell BT_1.out 0 (.slice At 1 ct) rfl
      go_wp2_with ((with_reducible show wpList _ _ _ (⟨some 70, _, _, _, _, _⟩ :: _) _ _); refine hold ?_)
      refine Lib.hid ?_
      have BN_2 := set_blk (i := 10) BN_1.out (.int .i64 1)
      have BT_2 := Lib.hid (set_other (c := w.heap.size) (i := 10) (v := .int .i64 1) BT_1.out HQ.out)
      have RT_2 := Lib.hid (R_set RT_1.out HP.out 10 (.int .i64 1))
      have HB_2 := Lib.hid (CMem.below_set (b := w.heap.size) (i := 10) HB_1.out (Nat.le_refl _) (.int .i64 1))
      generalize v1.setCell ⟨w.heap.size, 10, none⟩ (.int .i64 1) = v2 at *
      obtain ⟨S2, MX, NN, FO, BN, hres⟩ := packWrap w v2 11 0 0 1 false 0 BN_2 (by decide)
      clear n10 n0 f_ lt BN_1 BT_1 RT_1 HB_1 BN_2
    | have hq : ff.tmod 4 = 3 := hF
      have n11 := blk_cell BN_1.out 11 (.bool false) rfl
      have n0 := blk_cell BN_1.out 0 (.int .i64 11) rfl
      have f_ := blk_free BN_1.out 11
      have lt := blk_cell BT_1.out 0 (.slice At 1 ct) rfl
      go_wp2_with ((with_reducible show wpList _ _ _ (⟨some 70, _, _, _, _, _⟩ :: _) _ _); refine hold ?_)
      refine Lib.hid ?_
      have BN_2 := set_blk (i := 11) BN_1.out (.bool true)
      have BT_2 := Lib.hid (set_other (c := w.heap.size) (i := 11) (v := .bool true) BT_1.out HQ.out)
      have RT_2 := Lib.hid (R_set RT_1.out HP.out 11 (.bool true))
      have HB_2 := Lib.hid (CMem.below_set (b := w.heap.size) (i := 11) HB_1.out (Nat.le_refl _) (.bool true))
      generalize v1.setCell ⟨w.heap.size, 11, none⟩ (.bool true) = v2 at *
      obtain ⟨S2, MX, NN, FO, BN, hres⟩ := packWrap w v2 11 0 0 0 true 3 BN_2 (by decide)
      clear n11 n0 f_ lt BN_1 BT_1 RT_1 HB_1 BN_2
  all_goals
    have n0 := blk_cell BN.out 0 (.int .i64 11) rfl
    have n1 := blk_cell BN.out 1 (.int .i64 0) rfl
    have n2 := blk_cell BN.out 2 (.int .i64 0) rfl
    have n3 := blk_cell BN.out 3 (.int .u64 0) rfl
    have n4 := blk_cell BN.out 4 (.int .u64 0) rfl
    have n5 := blk_cell BN.out 5 (.int .u64 S2) rfl
    have n6 := blk_cell BN.out 6 (.int .u64 0) rfl
    have n7 := blk_cell BN.out 7 (.int .i64 0) rfl
    have n8 := blk_cell BN.out 8 (.int .i64 MX) rfl
    have n9 := blk_cell BN.out 9 (.int .i64 0) rfl
    have n10 := blk_cell BN.out 10 (.int .i64 NN) rfl
    have n11 := blk_cell BN.out 11 (.bool FO) rfl
    have lt := blk_cell BT_2.out 0 (.slice At 1 ct) rfl
    go_wp2_with fail
    refine (wrap_own At ct [z43] [z43, ⟨11, 0, 0, ⟨⟨0, 0, S2, 0⟩⟩, 0, MX, 0, NN, FO⟩] 1 2 rfl (by decide) rfl 11 0 0 0 0 S2 0 0 MX 0 NN FO rfl _ (R_C RT_2.out)).mono ?_
    rintro e w3 ⟨⟨v_, rfl, hoX⟩, hb⟩
    obtain ⟨AX, cX, rfl, hleX, CX⟩ := own_C (n := 2) rfl (by decide) hoX
    have BN_3 := Lib.hid (blk_alloc (below_blk hb BN.out) (.cells #[.slice AX 2 cX] 24))
    have BX_3 := Lib.hid (heap_alloc_new w3 (.cells #[.slice AX 2 cX] 24))
    have HB_3 := Lib.hid ((below_step HB_2.out hb).alloc (below_step HB_2.out hb).size (.cells #[.slice AX 2 cX] 24))
    have CX_3 := Lib.hid (Kd.C_below CX (below1 _ (.cells #[.slice AX 2 cX] 24)))
    have HPX := Lib.hid (show w.heap.size ≠ w3.heap.size by have := (below_step HB_2.out hb).size; have := lt_of_blk (below_blk hb BN.out); omega)
    have HLX := Lib.hid (show w.heap.size ≤ w3.heap.size from (below_step HB_2.out hb).size)
    clear hb hoX hleX CX BN BT_2 RT_2 HB_2 lt n0 n1 n2 n3 n4 n5 n6 n7 n8 n9 n10 n11
    have n0 := blk_cell BN_3.out 0 (.int .i64 11) rfl
    have lx := blk_cell BX_3.out 0 (.slice AX 2 cX) rfl
    go_wp2_with fail
    refine (right_tree AX cX [z43, ⟨11, 0, 0, ⟨⟨0, 0, S2, 0⟩⟩, 0, MX, 0, NN, FO⟩] 2 _ rfl (by decide) hres.out _ CX_3.out).mono ?_
    rintro e w4 ⟨rfl, hb⟩
    have HB_4 := Lib.hid (below_step HB_3.out hb)
    go_wp2_with fail
    refine (fixed_calls _).mono ?_
    rintro e w5 ⟨rfl, hb5⟩
    have HB_5 := Lib.hid (below_step HB_4.out hb5)
    go_wp2
    go_ret
    exact ⟨rfl, HB_5.out⟩
theorem res_wrap_0 (K : Int) (h : K = 13 ∨ K = 14 ∨ K = 15 ∨ K = 16 ∨ K = 17) : rgt [z43, ⟨K, 0, 0, ⟨⟨0, 0, 9, 0⟩⟩, 0, 0, 0, 0, false⟩] = 3 := by
  rcases h with h | h | h | h | h <;> subst h <;> decide
theorem res_wrap_1 (K : Int) (h : K = 13 ∨ K = 14 ∨ K = 15 ∨ K = 16 ∨ K = 17) : rgt [z43, ⟨K, 0, 0, ⟨⟨0, 0, 0, 0⟩⟩, 0, 5, 0, 0, false⟩] = 3 := by
  rcases h with h | h | h | h | h <;> subst h <;> decide
theorem res_wrap_2 (K : Int) (h : K = 13 ∨ K = 14 ∨ K = 15 ∨ K = 16 ∨ K = 17) : rgt [z43, ⟨K, 0, 0, ⟨⟨0, 0, 0, 0⟩⟩, 0, 0, 0, 1, false⟩] = 3 := by
  rcases h with h | h | h | h | h <;> subst h <;> decide
theorem res_wrap_3 (K : Int) (h : K = 13 ∨ K = 14 ∨ K = 15 ∨ K = 16 ∨ K = 17) : rgt [z43, ⟨K, 0, 0, ⟨⟨0, 0, 0, 0⟩⟩, 0, 0, 0, 0, true⟩] = 3 := by
  rcases h with h | h | h | h | h <;> subst h <;> decide
set_option maxHeartbeats 12800000 in
theorem walk_wrap (kk ff : Int) (w : World) (h0 : 0 ≤ kk) (h1 : kk < 256) (h2 : 0 ≤ ff) (h3 : ff < 256) (K : Int) (hK : kk.tmod 18 = K) (hL : K = 13 ∨ K = 14 ∨ K = 15 ∨ K = 16 ∨ K = 17) :
    Calls Try.prog 8 #[.int .u8 kk, .int .u8 ff] w fun e w' => e = .returned (.bool true) ∧ Below w.heap.size w w' := by
  have c1 : (K != 10) = true := by simp; omega
  have c2 : (K != 11) = true := by simp; omega
  have c3 : ¬ K < 13 := by omega
  have c6 : (K == 8) = false := by simp; omega
  have c7 : (K == 9) = false := by simp; omega
  have c8 : (K == 1) = false := by simp; omega
  have c9 : (K == 10) = false := by simp; omega
  have c10 : (K == 11) = false := by simp; omega
  have c11 : (K == 12) = false := by simp; omega
  have c12 : decide (K < 13) = false := by simp; omega
  replace hL := Lib.hid hL
  have hF : ff.tmod 4 = 0 ∨ ff.tmod 4 = 1 ∨ ff.tmod 4 = 2 ∨ ff.tmod 4 = 3 := by rw [Int.tmod_eq_emod_of_nonneg h2]; omega
  have HF := Lib.hid hF
  clear hF
  have BN_0 := Lib.hid (heap_alloc_new w (.cells #[.int .i64 K, .int .i64 0, .int .i64 0, .int .u64 0, .int .u64 0, .int .u64 0, .int .u64 0, .int .i64 0, .int .i64 0, .int .i64 0, .int .i64 0, .bool false] 43))
  have HB_0 := Lib.hid (below1 w (.cells #[.int .i64 K, .int .i64 0, .int .i64 0, .int .u64 0, .int .u64 0, .int .u64 0, .int .u64 0, .int .i64 0, .int .i64 0, .int .i64 0, .int .i64 0, .bool false] 43))
  go_enter Try.func8, Try.ntmps8
  go_wp2_with fail
  refine (leaf_R 0 0 0 0 0 0 0 0 0 0 0 false _).mono ?_
  rintro e w1 ⟨⟨At, ct, rfl, hle, hR⟩, hb⟩
  have HP := Lib.hid (show w.heap.size < (w.alloc (.cells #[.int .i64 K, .int .i64 0, .int .i64 0, .int .u64 0, .int .u64 0, .int .u64 0, .int .u64 0, .int .i64 0, .int .i64 0, .int .i64 0, .int .i64 0, .bool false] 43)).heap.size by simp)
  have HQ := Lib.hid (show w1.heap.size ≠ w.heap.size by have := lt_of_blk (below_blk hb BN_0.out); omega)
  have BN_1 := Lib.hid (blk_alloc (below_blk hb BN_0.out) (.cells #[.slice At 1 ct] 24))
  have BT_1 := Lib.hid (heap_alloc_new w1 (.cells #[.slice At 1 ct] 24))
  have RT_1 := Lib.hid (Kd.R_below hR (below1 w1 (.cells #[.slice At 1 ct] 24)))
  have HB_1 := Lib.hid ((below_step HB_0.out hb).alloc (below_step HB_0.out hb).size (.cells #[.slice At 1 ct] 24))
  go_wp2_with ((with_reducible show wpList _ _ _ (⟨some 16, _, _, _, _, _⟩ :: _) _ _); refine hold ?_)
  refine Lib.hid ?_
  clear hb hR hle BN_0 HB_0
  generalize hW : w1.alloc (.cells #[.slice At 1 ct] 24) = v1 at *
  clear hW
  generalize w1.heap.size = Pt at *
  generalize (w.alloc (.cells #[.int .i64 K, .int .i64 0, .int .i64 0, .int .u64 0, .int .u64 0, .int .u64 0, .int .u64 0, .int .i64 0, .int .i64 0, .int .i64 0, .int .i64 0, .bool false] 43)).heap.size = base at *
  rcases HF.out with hF | hF | hF | hF
  all_goals first
    | have hq : ff.tmod 4 = 0 := hF
      have n5 := blk_cell BN_1.out 5 (.int .u64 0) rfl
      have n0 := blk_cell BN_1.out 0 (.int .i64 K) rfl
      have f_ := blk_free BN_1.out 5
      have lt := blk_cell BT_1.out 0 (.slice At 1 ct) rfl
      go_wp2_with ((with_reducible show wpList _ _ _ (⟨some 70, _, _, _, _, _⟩ :: _) _ _); refine hold ?_)
      refine Lib.hid ?_
      have BN_2 := set_blk (i := 5) BN_1.out (.int .u64 9)
      have BT_2 := Lib.hid (set_other (c := w.heap.size) (i := 5) (v := .int .u64 9) BT_1.out HQ.out)
      have RT_2 := Lib.hid (R_set RT_1.out HP.out 5 (.int .u64 9))
      have HB_2 := Lib.hid (CMem.below_set (b := w.heap.size) (i := 5) HB_1.out (Nat.le_refl _) (.int .u64 9))
      generalize v1.setCell ⟨w.heap.size, 5, none⟩ (.int .u64 9) = v2 at *
      obtain ⟨S2, MX, NN, FO, BN, hres⟩ := packWrap w v2 K 9 0 0 false 3 BN_2 (res_wrap_0 K hL.out)
      clear n5 n0 f_ lt BN_1 BT_1 RT_1 HB_1 BN_2
    | have hq : ff.tmod 4 = 1 := hF
      have n8 := blk_cell BN_1.out 8 (.int .i64 0) rfl
      have n0 := blk_cell BN_1.out 0 (.int .i64 K) rfl
      have f_ := blk_free BN_1.out 8
      have lt := blk_cell BT_1.out 0 (.slice At 1 ct) rfl
      go_wp2_with ((with_reducible show wpList _ _ _ (⟨some 70, _, _, _, _, _⟩ :: _) _ _); refine hold ?_)
      refine Lib.hid ?_
      have BN_2 := set_blk (i := 8) BN_1.out (.int .i64 5)
      have BT_2 := Lib.hid (set_other (c := w.heap.size) (i := 8) (v := .int .i64 5) BT_1.out HQ.out)
      have RT_2 := Lib.hid (R_set RT_1.out HP.out 8 (.int .i64 5))
      have HB_2 := Lib.hid (CMem.below_set (b := w.heap.size) (i := 8) HB_1.out (Nat.le_refl _) (.int .i64 5))
      generalize v1.setCell ⟨w.heap.size, 8, none⟩ (.int .i64 5) = v2 at *
      obtain ⟨S2, MX, NN, FO, BN, hres⟩ := packWrap w v2 K 0 5 0 false 3 BN_2 (res_wrap_1 K hL.out)
      clear n8 n0 f_ lt BN_1 BT_1 RT_1 HB_1 BN_2
    | have hq : ff.tmod 4 = 2 := hF
      have n10 := blk_cell BN_1.out 10 (.int .i64 0) rfl
      have n0 := blk_cell BN_1.out 0 (.int .i64 K) rfl
      have f_ := blk_free BN_1.out 10
      have lt := blk_cell BT_1.out 0 (.slice At 1 ct) rfl
      go_wp2_with ((with_reducible show wpList _ _ _ (⟨some 70, _, _, _, _, _⟩ :: _) _ _); refine hold ?_)
      refine Lib.hid ?_
      have BN_2 := set_blk (i := 10) BN_1.out (.int .i64 1)
      have BT_2 := Lib.hid (set_other (c := w.heap.size) (i := 10) (v := .int .i64 1) BT_1.out HQ.out)
      have RT_2 := Lib.hid (R_set RT_1.out HP.out 10 (.int .i64 1))
      have HB_2 := Lib.hid (CMem.below_set (b := w.heap.size) (i := 10) HB_1.out (Nat.le_refl _) (.int .i64 1))
      generalize v1.setCell ⟨w.heap.size, 10, none⟩ (.int .i64 1) = v2 at *
      obtain ⟨S2, MX, NN, FO, BN, hres⟩ := packWrap w v2 K 0 0 1 false 3 BN_2 (res_wrap_2 K hL.out)
      clear n10 n0 f_ lt BN_1 BT_1 RT_1 HB_1 BN_2
    | have hq : ff.tmod 4 = 3 := hF
      have n11 := blk_cell BN_1.out 11 (.bool false) rfl
      have n0 := blk_cell BN_1.out 0 (.int .i64 K) rfl
      have f_ := blk_free BN_1.out 11
      have lt := blk_cell BT_1.out 0 (.slice At 1 ct) rfl
      go_wp2_with ((with_reducible show wpList _ _ _ (⟨some 70, _, _, _, _, _⟩ :: _) _ _); refine hold ?_)
      refine Lib.hid ?_
      have BN_2 := set_blk (i := 11) BN_1.out (.bool true)
      have BT_2 := Lib.hid (set_other (c := w.heap.size) (i := 11) (v := .bool true) BT_1.out HQ.out)
      have RT_2 := Lib.hid (R_set RT_1.out HP.out 11 (.bool true))
      have HB_2 := Lib.hid (CMem.below_set (b := w.heap.size) (i := 11) HB_1.out (Nat.le_refl _) (.bool true))
      generalize v1.setCell ⟨w.heap.size, 11, none⟩ (.bool true) = v2 at *
      obtain ⟨S2, MX, NN, FO, BN, hres⟩ := packWrap w v2 K 0 0 0 true 3 BN_2 (res_wrap_3 K hL.out)
      clear n11 n0 f_ lt BN_1 BT_1 RT_1 HB_1 BN_2
  all_goals
    have n0 := blk_cell BN.out 0 (.int .i64 K) rfl
    have n1 := blk_cell BN.out 1 (.int .i64 0) rfl
    have n2 := blk_cell BN.out 2 (.int .i64 0) rfl
    have n3 := blk_cell BN.out 3 (.int .u64 0) rfl
    have n4 := blk_cell BN.out 4 (.int .u64 0) rfl
    have n5 := blk_cell BN.out 5 (.int .u64 S2) rfl
    have n6 := blk_cell BN.out 6 (.int .u64 0) rfl
    have n7 := blk_cell BN.out 7 (.int .i64 0) rfl
    have n8 := blk_cell BN.out 8 (.int .i64 MX) rfl
    have n9 := blk_cell BN.out 9 (.int .i64 0) rfl
    have n10 := blk_cell BN.out 10 (.int .i64 NN) rfl
    have n11 := blk_cell BN.out 11 (.bool FO) rfl
    have lt := blk_cell BT_2.out 0 (.slice At 1 ct) rfl
    go_wp2_with fail
    refine (wrap_own At ct [z43] [z43, ⟨K, 0, 0, ⟨⟨0, 0, S2, 0⟩⟩, 0, MX, 0, NN, FO⟩] 1 2 rfl (by decide) rfl K 0 0 0 0 S2 0 0 MX 0 NN FO rfl _ (R_C RT_2.out)).mono ?_
    rintro e w3 ⟨⟨v_, rfl, hoX⟩, hb⟩
    obtain ⟨AX, cX, rfl, hleX, CX⟩ := own_C (n := 2) rfl (by decide) hoX
    have BN_3 := Lib.hid (blk_alloc (below_blk hb BN.out) (.cells #[.slice AX 2 cX] 24))
    have BX_3 := Lib.hid (heap_alloc_new w3 (.cells #[.slice AX 2 cX] 24))
    have HB_3 := Lib.hid ((below_step HB_2.out hb).alloc (below_step HB_2.out hb).size (.cells #[.slice AX 2 cX] 24))
    have CX_3 := Lib.hid (Kd.C_below CX (below1 _ (.cells #[.slice AX 2 cX] 24)))
    have HPX := Lib.hid (show w.heap.size ≠ w3.heap.size by have := (below_step HB_2.out hb).size; have := lt_of_blk (below_blk hb BN.out); omega)
    have HLX := Lib.hid (show w.heap.size ≤ w3.heap.size from (below_step HB_2.out hb).size)
    clear hb hoX hleX CX BN BT_2 RT_2 HB_2 lt n0 n1 n2 n3 n4 n5 n6 n7 n8 n9 n10 n11
    have n0 := blk_cell BN_3.out 0 (.int .i64 K) rfl
    have lx := blk_cell BX_3.out 0 (.slice AX 2 cX) rfl
    go_wp2_with fail
    refine (right_tree AX cX [z43, ⟨K, 0, 0, ⟨⟨0, 0, S2, 0⟩⟩, 0, MX, 0, NN, FO⟩] 2 _ rfl (by decide) hres.out _ CX_3.out).mono ?_
    rintro e w4 ⟨rfl, hb⟩
    have HB_4 := Lib.hid (below_step HB_3.out hb)
    go_wp2_with fail
    refine (fixed_calls _).mono ?_
    rintro e w5 ⟨rfl, hb5⟩
    have HB_5 := Lib.hid (below_step HB_4.out hb5)
    go_wp2
    go_ret
    exact ⟨rfl, HB_5.out⟩
set_option maxHeartbeats 12800000 in
theorem walk_k8 (kk ff : Int) (w : World) (h0 : 0 ≤ kk) (h1 : kk < 256) (h2 : 0 ≤ ff) (h3 : ff < 256) (hK : kk.tmod 18 = 8) :
    Calls Try.prog 8 #[.int .u8 kk, .int .u8 ff] w fun e w' => e = .returned (.bool true) ∧ Below w.heap.size w w' := by
  have hF : ff.tmod 4 = 0 ∨ ff.tmod 4 = 1 ∨ ff.tmod 4 = 2 ∨ ff.tmod 4 = 3 := by rw [Int.tmod_eq_emod_of_nonneg h2]; omega
  have HF := Lib.hid hF
  clear hF
  have BN_0 := Lib.hid (heap_alloc_new w (.cells #[.int .i64 8, .int .i64 0, .int .i64 0, .int .u64 0, .int .u64 0, .int .u64 0, .int .u64 0, .int .i64 0, .int .i64 0, .int .i64 0, .int .i64 0, .bool false] 43))
  have HB_0 := Lib.hid (below1 w (.cells #[.int .i64 8, .int .i64 0, .int .i64 0, .int .u64 0, .int .u64 0, .int .u64 0, .int .u64 0, .int .i64 0, .int .i64 0, .int .i64 0, .int .i64 0, .bool false] 43))
  go_enter Try.func8, Try.ntmps8
  go_wp2_with fail
  refine (leaf_R 0 0 0 0 0 0 0 0 0 0 0 false _).mono ?_
  rintro e w1 ⟨⟨At, ct, rfl, hle, hR⟩, hb⟩
  have HP := Lib.hid (show w.heap.size < (w.alloc (.cells #[.int .i64 8, .int .i64 0, .int .i64 0, .int .u64 0, .int .u64 0, .int .u64 0, .int .u64 0, .int .i64 0, .int .i64 0, .int .i64 0, .int .i64 0, .bool false] 43)).heap.size by simp)
  have HQ := Lib.hid (show w1.heap.size ≠ w.heap.size by have := lt_of_blk (below_blk hb BN_0.out); omega)
  have BN_1 := Lib.hid (blk_alloc (below_blk hb BN_0.out) (.cells #[.slice At 1 ct] 24))
  have BT_1 := Lib.hid (heap_alloc_new w1 (.cells #[.slice At 1 ct] 24))
  have RT_1 := Lib.hid (Kd.R_below hR (below1 w1 (.cells #[.slice At 1 ct] 24)))
  have HB_1 := Lib.hid ((below_step HB_0.out hb).alloc (below_step HB_0.out hb).size (.cells #[.slice At 1 ct] 24))
  go_wp2_with ((with_reducible show wpList _ _ _ (⟨some 16, _, _, _, _, _⟩ :: _) _ _); refine hold ?_)
  refine Lib.hid ?_
  clear hb hR hle BN_0 HB_0
  generalize hW : w1.alloc (.cells #[.slice At 1 ct] 24) = v1 at *
  clear hW
  generalize w1.heap.size = Pt at *
  generalize (w.alloc (.cells #[.int .i64 8, .int .i64 0, .int .i64 0, .int .u64 0, .int .u64 0, .int .u64 0, .int .u64 0, .int .i64 0, .int .i64 0, .int .i64 0, .int .i64 0, .bool false] 43)).heap.size = base at *
  rcases HF.out with hF | hF | hF | hF
  all_goals first
    | have hq : ff.tmod 4 = 0 := hF
      have n5 := blk_cell BN_1.out 5 (.int .u64 0) rfl
      have n0 := blk_cell BN_1.out 0 (.int .i64 8) rfl
      have f_ := blk_free BN_1.out 5
      have lt := blk_cell BT_1.out 0 (.slice At 1 ct) rfl
      go_wp2_with ((with_reducible show wpList _ _ _ (⟨some 70, _, _, _, _, _⟩ :: _) _ _); refine hold ?_)
      refine Lib.hid ?_
      have BN_2 := set_blk (i := 5) BN_1.out (.int .u64 9)
      have BT_2 := Lib.hid (set_other (c := w.heap.size) (i := 5) (v := .int .u64 9) BT_1.out HQ.out)
      have RT_2 := Lib.hid (R_set RT_1.out HP.out 5 (.int .u64 9))
      have HB_2 := Lib.hid (CMem.below_set (b := w.heap.size) (i := 5) HB_1.out (Nat.le_refl _) (.int .u64 9))
      generalize v1.setCell ⟨w.heap.size, 5, none⟩ (.int .u64 9) = v2 at *
      obtain ⟨S2, MX, NN, FO, BN, hres⟩ := packJoin w v2 8 9 0 0 false 3 BN_2 (by decide)
      clear n5 n0 f_ lt BN_1 BT_1 RT_1 HB_1 BN_2
    | have hq : ff.tmod 4 = 1 := hF
      have n8 := blk_cell BN_1.out 8 (.int .i64 0) rfl
      have n0 := blk_cell BN_1.out 0 (.int .i64 8) rfl
      have f_ := blk_free BN_1.out 8
      have lt := blk_cell BT_1.out 0 (.slice At 1 ct) rfl
      go_wp2_with ((with_reducible show wpList _ _ _ (⟨some 70, _, _, _, _, _⟩ :: _) _ _); refine hold ?_)
      refine Lib.hid ?_
      have BN_2 := set_blk (i := 8) BN_1.out (.int .i64 5)
      have BT_2 := Lib.hid (set_other (c := w.heap.size) (i := 8) (v := .int .i64 5) BT_1.out HQ.out)
      have RT_2 := Lib.hid (R_set RT_1.out HP.out 8 (.int .i64 5))
      have HB_2 := Lib.hid (CMem.below_set (b := w.heap.size) (i := 8) HB_1.out (Nat.le_refl _) (.int .i64 5))
      generalize v1.setCell ⟨w.heap.size, 8, none⟩ (.int .i64 5) = v2 at *
      obtain ⟨S2, MX, NN, FO, BN, hres⟩ := packJoin w v2 8 0 5 0 false 3 BN_2 (by decide)
      clear n8 n0 f_ lt BN_1 BT_1 RT_1 HB_1 BN_2
    | have hq : ff.tmod 4 = 2 := hF
      have n10 := blk_cell BN_1.out 10 (.int .i64 0) rfl
      have n0 := blk_cell BN_1.out 0 (.int .i64 8) rfl
      have f_ := blk_free BN_1.out 10
      have lt := blk_cell BT_1.out 0 (.slice At 1 ct) rfl
      go_wp2_with ((with_reducible show wpList _ _ _ (⟨some 70, _, _, _, _, _⟩ :: _) _ _); refine hold ?_)
      refine Lib.hid ?_
      have BN_2 := set_blk (i := 10) BN_1.out (.int .i64 1)
      have BT_2 := Lib.hid (set_other (c := w.heap.size) (i := 10) (v := .int .i64 1) BT_1.out HQ.out)
      have RT_2 := Lib.hid (R_set RT_1.out HP.out 10 (.int .i64 1))
      have HB_2 := Lib.hid (CMem.below_set (b := w.heap.size) (i := 10) HB_1.out (Nat.le_refl _) (.int .i64 1))
      generalize v1.setCell ⟨w.heap.size, 10, none⟩ (.int .i64 1) = v2 at *
      obtain ⟨S2, MX, NN, FO, BN, hres⟩ := packJoin w v2 8 0 0 1 false 3 BN_2 (by decide)
      clear n10 n0 f_ lt BN_1 BT_1 RT_1 HB_1 BN_2
    | have hq : ff.tmod 4 = 3 := hF
      have n11 := blk_cell BN_1.out 11 (.bool false) rfl
      have n0 := blk_cell BN_1.out 0 (.int .i64 8) rfl
      have f_ := blk_free BN_1.out 11
      have lt := blk_cell BT_1.out 0 (.slice At 1 ct) rfl
      go_wp2_with ((with_reducible show wpList _ _ _ (⟨some 70, _, _, _, _, _⟩ :: _) _ _); refine hold ?_)
      refine Lib.hid ?_
      have BN_2 := set_blk (i := 11) BN_1.out (.bool true)
      have BT_2 := Lib.hid (set_other (c := w.heap.size) (i := 11) (v := .bool true) BT_1.out HQ.out)
      have RT_2 := Lib.hid (R_set RT_1.out HP.out 11 (.bool true))
      have HB_2 := Lib.hid (CMem.below_set (b := w.heap.size) (i := 11) HB_1.out (Nat.le_refl _) (.bool true))
      generalize v1.setCell ⟨w.heap.size, 11, none⟩ (.bool true) = v2 at *
      obtain ⟨S2, MX, NN, FO, BN, hres⟩ := packJoin w v2 8 0 0 0 true 3 BN_2 (by decide)
      clear n11 n0 f_ lt BN_1 BT_1 RT_1 HB_1 BN_2
  all_goals
    have n0 := blk_cell BN.out 0 (.int .i64 8) rfl
    have n1 := blk_cell BN.out 1 (.int .i64 0) rfl
    have n2 := blk_cell BN.out 2 (.int .i64 0) rfl
    have n3 := blk_cell BN.out 3 (.int .u64 0) rfl
    have n4 := blk_cell BN.out 4 (.int .u64 0) rfl
    have n5 := blk_cell BN.out 5 (.int .u64 S2) rfl
    have n6 := blk_cell BN.out 6 (.int .u64 0) rfl
    have n7 := blk_cell BN.out 7 (.int .i64 0) rfl
    have n8 := blk_cell BN.out 8 (.int .i64 MX) rfl
    have n9 := blk_cell BN.out 9 (.int .i64 0) rfl
    have n10 := blk_cell BN.out 10 (.int .i64 NN) rfl
    have n11 := blk_cell BN.out 11 (.bool FO) rfl
    have lt := blk_cell BT_2.out 0 (.slice At 1 ct) rfl
    go_wp2_with fail
    refine (wrap_own At ct [z43] [z43, ⟨8, 0, 0, ⟨⟨0, 0, S2, 0⟩⟩, 0, MX, 0, NN, FO⟩] 1 2 rfl (by decide) rfl 8 0 0 0 0 S2 0 0 MX 0 NN FO rfl _ (R_C RT_2.out)).mono ?_
    rintro e w3 ⟨⟨v_, rfl, hoX⟩, hb⟩
    obtain ⟨AX, cX, rfl, hleX, CX⟩ := own_C (n := 2) rfl (by decide) hoX
    have BN_3 := Lib.hid (blk_alloc (below_blk hb BN.out) (.cells #[.slice AX 2 cX] 24))
    have BX_3 := Lib.hid (heap_alloc_new w3 (.cells #[.slice AX 2 cX] 24))
    have HB_3 := Lib.hid ((below_step HB_2.out hb).alloc (below_step HB_2.out hb).size (.cells #[.slice AX 2 cX] 24))
    have BT_3 := Lib.hid (blk_alloc (below_blk hb BT_2.out) (.cells #[.slice AX 2 cX] 24))
    have RT_3 := Lib.hid (Kd.R_below (Kd.R_below RT_2.out hb) (below1 _ (.cells #[.slice AX 2 cX] 24)))
    have HPX := Lib.hid (show w.heap.size ≠ w3.heap.size by have := (below_step HB_2.out hb).size; have := lt_of_blk (below_blk hb BN.out); omega)
    have HLX := Lib.hid (show w.heap.size ≤ w3.heap.size from (below_step HB_2.out hb).size)
    clear hb hoX hleX CX BN BT_2 RT_2 HB_2 lt n0 n1 n2 n3 n4 n5 n6 n7 n8 n9 n10 n11
    have n0 := blk_cell BN_3.out 0 (.int .i64 8) rfl
    have lx := blk_cell BX_3.out 0 (.slice AX 2 cX) rfl
    have lt := blk_cell BT_3.out 0 (.slice At 1 ct) rfl
    go_wp2_with fail
    generalize w3.alloc (.cells #[.slice AX 2 cX] 24) = v3 at *
    generalize w3.heap.size = PX at *
    refine (join_own At ct [z43] [z43] [z43, z43, ⟨8, 0, 1, z41, 0, 0, 0, 0, false⟩] 1 1 3 rfl At ct rfl (by decide) rfl 8 rfl _ (R_C RT_3.out) (R_C RT_3.out)).mono ?_
    rintro e w4 ⟨⟨v_, rfl, hoJ⟩, hb⟩
    obtain ⟨AJ, cJ, rfl, hleJ, _⟩ := own_C (n := 3) rfl (by decide) hoJ
    obtain ⟨gJ, rfl⟩ := own_form hoJ (by decide)
    have HJ := Lib.hid (show w.heap.size < gJ by have := (own_bs hoJ).1; have := lt_of_blk BN_3.out; omega)
    have HXJ := Lib.hid (own_neT hoJ (below_blk hb BX_3.out))
    have OJ_4 := Lib.hid (own_set (val := (.slice (some ⟨gJ, 0, none⟩) 3 cJ)) hoJ (below_blk hb BX_3.out))
    have BN_4 := Lib.hid (set_other (c := PX) (i := 0) (v := (.slice (some ⟨gJ, 0, none⟩) 3 cJ)) (below_blk hb BN_3.out) HPX.out)
    have BX_4 := Lib.hid (set_blk (i := 0) (below_blk hb BX_3.out) (.slice (some ⟨gJ, 0, none⟩) 3 cJ))
    have HB_4 := Lib.hid (CMem.below_set (b := PX) (i := 0) (below_step HB_3.out hb) HLX.out (.slice (some ⟨gJ, 0, none⟩) 3 cJ))
    clear lx n0 lt
    have lx := blk_cell (below_blk hb BX_3.out) 0 (.slice AX 2 cX) rfl
    have fx := blk_free (below_blk hb BX_3.out) 0
    clear hb hoJ hleJ BN_3 BX_3 BT_3 RT_3 HB_3
    go_wp2_with ((with_reducible show wpList _ _ _ (⟨some 89, _, _, _, _, _⟩ :: _) _ _); refine hold ?_)
    refine Lib.hid ?_
    clear lx fx
    generalize w4.setCell ⟨PX, 0, none⟩ (.slice (some ⟨gJ, 0, none⟩) 3 cJ) = v4 at *
    have lx := blk_cell BX_4.out 0 (.slice (some ⟨gJ, 0, none⟩) 3 cJ) rfl
    have n3 := blk_cell BN_4.out 3 (.int .u64 0) rfl
    have n4 := blk_cell BN_4.out 4 (.int .u64 0) rfl
    have n5 := blk_cell BN_4.out 5 (.int .u64 S2) rfl
    have n6 := blk_cell BN_4.out 6 (.int .u64 0) rfl
    have c3 : v4.cell? ⟨gJ, 27, none⟩ = some (.int .u64 0) := OJ_4.out.cellAt 27 (by decide)
    have d3 := OJ_4.out.frozenAt 27
    have c4 : v4.cell? ⟨gJ, 28, none⟩ = some (.int .u64 0) := OJ_4.out.cellAt 28 (by decide)
    have d4 := OJ_4.out.frozenAt 28
    have c5 : v4.cell? ⟨gJ, 29, none⟩ = some (.int .u64 0) := OJ_4.out.cellAt 29 (by decide)
    have d5 := OJ_4.out.frozenAt 29
    have c6 : v4.cell? ⟨gJ, 30, none⟩ = some (.int .u64 0) := OJ_4.out.cellAt 30 (by decide)
    have d6 := OJ_4.out.frozenAt 30
    go_wp2_with ((with_reducible show wpList _ _ _ (⟨some 103, _, _, _, _, _⟩ :: _) _ _); refine hold ?_)
    refine Lib.hid ?_
    have OJ_5 := Lib.hid (World.ownsRow.stored (World.ownsRow.stored (World.ownsRow.stored (World.ownsRow.stored OJ_4.out 27 (.int .u64 0)).1 28 (.int .u64 0)).1 29 (.int .u64 S2)).1 30 (.int .u64 0)).1
    have BN_5 := Lib.hid (set_other (c := gJ) (i := 30) (v := .int .u64 0) (set_other (c := gJ) (i := 29) (v := .int .u64 S2) (set_other (c := gJ) (i := 28) (v := .int .u64 0) (set_other (c := gJ) (i := 27) (v := .int .u64 0) BN_4.out (Nat.ne_of_lt HJ.out)) (Nat.ne_of_lt HJ.out)) (Nat.ne_of_lt HJ.out)) (Nat.ne_of_lt HJ.out))
    have BX_5 := Lib.hid (set_other (c := gJ) (i := 30) (v := .int .u64 0) (set_other (c := gJ) (i := 29) (v := .int .u64 S2) (set_other (c := gJ) (i := 28) (v := .int .u64 0) (set_other (c := gJ) (i := 27) (v := .int .u64 0) BX_4.out HXJ.out) HXJ.out) HXJ.out) HXJ.out)
    have HB_5 := Lib.hid (CMem.below_set (b := gJ) (i := 30) (CMem.below_set (b := gJ) (i := 29) (CMem.below_set (b := gJ) (i := 28) (CMem.below_set (b := gJ) (i := 27) HB_4.out (Nat.le_of_lt HJ.out) (.int .u64 0)) (Nat.le_of_lt HJ.out) (.int .u64 0)) (Nat.le_of_lt HJ.out) (.int .u64 S2)) (Nat.le_of_lt HJ.out) (.int .u64 0))
    clear lx n3 n4 n5 n6 c3 d3 c4 d4 c5 d5 c6 d6 OJ_4 BN_4 BX_4 HB_4
    generalize ((((v4.setCell ⟨gJ, 27, none⟩ (.int .u64 0)).setCell ⟨gJ, 28, none⟩ (.int .u64 0)).setCell ⟨gJ, 29, none⟩ (.int .u64 S2)).setCell ⟨gJ, 30, none⟩ (.int .u64 0)) = v5 at *
    have lx := blk_cell BX_5.out 0 (.slice (some ⟨gJ, 0, none⟩) 3 cJ) rfl
    have n8 := blk_cell BN_5.out 8 (.int .i64 MX) rfl
    have c8 : v5.cell? ⟨gJ, 32, none⟩ = some (.int .i64 0) := OJ_5.out.cellAt 32 (by decide)
    have d8 := OJ_5.out.frozenAt 32
    go_wp2_with ((with_reducible show wpList _ _ _ (⟨some 113, _, _, _, _, _⟩ :: _) _ _); refine hold ?_)
    refine Lib.hid ?_
    have OJ_6 := Lib.hid (World.ownsRow.stored OJ_5.out 32 (.int .i64 MX)).1
    have BN_6 := Lib.hid (set_other (c := gJ) (i := 32) (v := .int .i64 MX) BN_5.out (Nat.ne_of_lt HJ.out))
    have BX_6 := Lib.hid (set_other (c := gJ) (i := 32) (v := .int .i64 MX) BX_5.out HXJ.out)
    have HB_6 := Lib.hid (CMem.below_set (b := gJ) (i := 32) HB_5.out (Nat.le_of_lt HJ.out) (.int .i64 MX))
    clear lx n8 c8 d8 OJ_5 BN_5 BX_5 HB_5
    generalize (v5.setCell ⟨gJ, 32, none⟩ (.int .i64 MX)) = v6 at *
    have lx := blk_cell BX_6.out 0 (.slice (some ⟨gJ, 0, none⟩) 3 cJ) rfl
    have n10 := blk_cell BN_6.out 10 (.int .i64 NN) rfl
    have c10 : v6.cell? ⟨gJ, 34, none⟩ = some (.int .i64 0) := OJ_6.out.cellAt 34 (by decide)
    have d10 := OJ_6.out.frozenAt 34
    go_wp2_with ((with_reducible show wpList _ _ _ (⟨some 123, _, _, _, _, _⟩ :: _) _ _); refine hold ?_)
    refine Lib.hid ?_
    have OJ_7 := Lib.hid (World.ownsRow.stored OJ_6.out 34 (.int .i64 NN)).1
    have BN_7 := Lib.hid (set_other (c := gJ) (i := 34) (v := .int .i64 NN) BN_6.out (Nat.ne_of_lt HJ.out))
    have BX_7 := Lib.hid (set_other (c := gJ) (i := 34) (v := .int .i64 NN) BX_6.out HXJ.out)
    have HB_7 := Lib.hid (CMem.below_set (b := gJ) (i := 34) HB_6.out (Nat.le_of_lt HJ.out) (.int .i64 NN))
    clear lx n10 c10 d10 OJ_6 BN_6 BX_6 HB_6
    generalize (v6.setCell ⟨gJ, 34, none⟩ (.int .i64 NN)) = v7 at *
    have lx := blk_cell BX_7.out 0 (.slice (some ⟨gJ, 0, none⟩) 3 cJ) rfl
    have n11 := blk_cell BN_7.out 11 (.bool FO) rfl
    have c11 : v7.cell? ⟨gJ, 35, none⟩ = some (.bool false) := OJ_7.out.cellAt 35 (by decide)
    have d11 := OJ_7.out.frozenAt 35
    go_wp2_with ((with_reducible show wpList _ _ _ (⟨some 133, _, _, _, _, _⟩ :: _) _ _); refine hold ?_)
    refine Lib.hid ?_
    have OJ_8 := Lib.hid (World.ownsRow.stored OJ_7.out 35 (.bool FO)).1
    have BN_8 := Lib.hid (set_other (c := gJ) (i := 35) (v := .bool FO) BN_7.out (Nat.ne_of_lt HJ.out))
    have BX_8 := Lib.hid (set_other (c := gJ) (i := 35) (v := .bool FO) BX_7.out HXJ.out)
    have HB_8 := Lib.hid (CMem.below_set (b := gJ) (i := 35) HB_7.out (Nat.le_of_lt HJ.out) (.bool FO))
    clear lx n11 c11 d11 OJ_7 BN_7 BX_7 HB_7
    generalize (v7.setCell ⟨gJ, 35, none⟩ (.bool FO)) = v8 at *
    have OJ : Hid (v8.ownsRow v3.heap.size 43 12 (.slice (some ⟨gJ, 0, none⟩) 3 cJ) 3 (ra [z43, z43, ⟨8, 0, 1, ⟨⟨0, 0, S2, 0⟩⟩, 0, MX, 0, NN, FO⟩])) := OJ_8
    have lx := blk_cell BX_8.out 0 (.slice (some ⟨gJ, 0, none⟩) 3 cJ) rfl
    go_wp2_with fail
    refine (right_tree (some ⟨gJ, 0, none⟩) cJ [z43, z43, ⟨8, 0, 1, ⟨⟨0, 0, S2, 0⟩⟩, 0, MX, 0, NN, FO⟩] 3 _ rfl (by decide) hres.out _ (own_Cs (n := 3) rfl (by decide) OJ.out)).mono ?_
    rintro e w9 ⟨rfl, hb⟩
    have HB_9 := Lib.hid (below_step HB_8.out hb)
    go_wp2_with fail
    refine (fixed_calls _).mono ?_
    rintro e w10 ⟨rfl, hb10⟩
    have HB_10 := Lib.hid (below_step HB_9.out hb10)
    go_wp2
    go_ret
    exact ⟨rfl, HB_10.out⟩
set_option maxHeartbeats 12800000 in
theorem walk_k9 (kk ff : Int) (w : World) (h0 : 0 ≤ kk) (h1 : kk < 256) (h2 : 0 ≤ ff) (h3 : ff < 256) (hK : kk.tmod 18 = 9) :
    Calls Try.prog 8 #[.int .u8 kk, .int .u8 ff] w fun e w' => e = .returned (.bool true) ∧ Below w.heap.size w w' := by
  have hF : ff.tmod 4 = 0 ∨ ff.tmod 4 = 1 ∨ ff.tmod 4 = 2 ∨ ff.tmod 4 = 3 := by rw [Int.tmod_eq_emod_of_nonneg h2]; omega
  have HF := Lib.hid hF
  clear hF
  have BN_0 := Lib.hid (heap_alloc_new w (.cells #[.int .i64 9, .int .i64 0, .int .i64 0, .int .u64 0, .int .u64 0, .int .u64 0, .int .u64 0, .int .i64 0, .int .i64 0, .int .i64 0, .int .i64 0, .bool false] 43))
  have HB_0 := Lib.hid (below1 w (.cells #[.int .i64 9, .int .i64 0, .int .i64 0, .int .u64 0, .int .u64 0, .int .u64 0, .int .u64 0, .int .i64 0, .int .i64 0, .int .i64 0, .int .i64 0, .bool false] 43))
  go_enter Try.func8, Try.ntmps8
  go_wp2_with fail
  refine (leaf_R 0 0 0 0 0 0 0 0 0 0 0 false _).mono ?_
  rintro e w1 ⟨⟨At, ct, rfl, hle, hR⟩, hb⟩
  have HP := Lib.hid (show w.heap.size < (w.alloc (.cells #[.int .i64 9, .int .i64 0, .int .i64 0, .int .u64 0, .int .u64 0, .int .u64 0, .int .u64 0, .int .i64 0, .int .i64 0, .int .i64 0, .int .i64 0, .bool false] 43)).heap.size by simp)
  have HQ := Lib.hid (show w1.heap.size ≠ w.heap.size by have := lt_of_blk (below_blk hb BN_0.out); omega)
  have BN_1 := Lib.hid (blk_alloc (below_blk hb BN_0.out) (.cells #[.slice At 1 ct] 24))
  have BT_1 := Lib.hid (heap_alloc_new w1 (.cells #[.slice At 1 ct] 24))
  have RT_1 := Lib.hid (Kd.R_below hR (below1 w1 (.cells #[.slice At 1 ct] 24)))
  have HB_1 := Lib.hid ((below_step HB_0.out hb).alloc (below_step HB_0.out hb).size (.cells #[.slice At 1 ct] 24))
  go_wp2_with ((with_reducible show wpList _ _ _ (⟨some 16, _, _, _, _, _⟩ :: _) _ _); refine hold ?_)
  refine Lib.hid ?_
  clear hb hR hle BN_0 HB_0
  generalize hW : w1.alloc (.cells #[.slice At 1 ct] 24) = v1 at *
  clear hW
  generalize w1.heap.size = Pt at *
  generalize (w.alloc (.cells #[.int .i64 9, .int .i64 0, .int .i64 0, .int .u64 0, .int .u64 0, .int .u64 0, .int .u64 0, .int .i64 0, .int .i64 0, .int .i64 0, .int .i64 0, .bool false] 43)).heap.size = base at *
  rcases HF.out with hF | hF | hF | hF
  all_goals first
    | have hq : ff.tmod 4 = 0 := hF
      have n5 := blk_cell BN_1.out 5 (.int .u64 0) rfl
      have n0 := blk_cell BN_1.out 0 (.int .i64 9) rfl
      have f_ := blk_free BN_1.out 5
      have lt := blk_cell BT_1.out 0 (.slice At 1 ct) rfl
      go_wp2_with ((with_reducible show wpList _ _ _ (⟨some 70, _, _, _, _, _⟩ :: _) _ _); refine hold ?_)
      refine Lib.hid ?_
      have BN_2 := set_blk (i := 5) BN_1.out (.int .u64 9)
      have BT_2 := Lib.hid (set_other (c := w.heap.size) (i := 5) (v := .int .u64 9) BT_1.out HQ.out)
      have RT_2 := Lib.hid (R_set RT_1.out HP.out 5 (.int .u64 9))
      have HB_2 := Lib.hid (CMem.below_set (b := w.heap.size) (i := 5) HB_1.out (Nat.le_refl _) (.int .u64 9))
      generalize v1.setCell ⟨w.heap.size, 5, none⟩ (.int .u64 9) = v2 at *
      obtain ⟨S2, MX, NN, FO, BN, hres⟩ := packJoin w v2 9 9 0 0 false 3 BN_2 (by decide)
      clear n5 n0 f_ lt BN_1 BT_1 RT_1 HB_1 BN_2
    | have hq : ff.tmod 4 = 1 := hF
      have n8 := blk_cell BN_1.out 8 (.int .i64 0) rfl
      have n0 := blk_cell BN_1.out 0 (.int .i64 9) rfl
      have f_ := blk_free BN_1.out 8
      have lt := blk_cell BT_1.out 0 (.slice At 1 ct) rfl
      go_wp2_with ((with_reducible show wpList _ _ _ (⟨some 70, _, _, _, _, _⟩ :: _) _ _); refine hold ?_)
      refine Lib.hid ?_
      have BN_2 := set_blk (i := 8) BN_1.out (.int .i64 5)
      have BT_2 := Lib.hid (set_other (c := w.heap.size) (i := 8) (v := .int .i64 5) BT_1.out HQ.out)
      have RT_2 := Lib.hid (R_set RT_1.out HP.out 8 (.int .i64 5))
      have HB_2 := Lib.hid (CMem.below_set (b := w.heap.size) (i := 8) HB_1.out (Nat.le_refl _) (.int .i64 5))
      generalize v1.setCell ⟨w.heap.size, 8, none⟩ (.int .i64 5) = v2 at *
      obtain ⟨S2, MX, NN, FO, BN, hres⟩ := packJoin w v2 9 0 5 0 false 3 BN_2 (by decide)
      clear n8 n0 f_ lt BN_1 BT_1 RT_1 HB_1 BN_2
    | have hq : ff.tmod 4 = 2 := hF
      have n10 := blk_cell BN_1.out 10 (.int .i64 0) rfl
      have n0 := blk_cell BN_1.out 0 (.int .i64 9) rfl
      have f_ := blk_free BN_1.out 10
      have lt := blk_cell BT_1.out 0 (.slice At 1 ct) rfl
      go_wp2_with ((with_reducible show wpList _ _ _ (⟨some 70, _, _, _, _, _⟩ :: _) _ _); refine hold ?_)
      refine Lib.hid ?_
      have BN_2 := set_blk (i := 10) BN_1.out (.int .i64 1)
      have BT_2 := Lib.hid (set_other (c := w.heap.size) (i := 10) (v := .int .i64 1) BT_1.out HQ.out)
      have RT_2 := Lib.hid (R_set RT_1.out HP.out 10 (.int .i64 1))
      have HB_2 := Lib.hid (CMem.below_set (b := w.heap.size) (i := 10) HB_1.out (Nat.le_refl _) (.int .i64 1))
      generalize v1.setCell ⟨w.heap.size, 10, none⟩ (.int .i64 1) = v2 at *
      obtain ⟨S2, MX, NN, FO, BN, hres⟩ := packJoin w v2 9 0 0 1 false 3 BN_2 (by decide)
      clear n10 n0 f_ lt BN_1 BT_1 RT_1 HB_1 BN_2
    | have hq : ff.tmod 4 = 3 := hF
      have n11 := blk_cell BN_1.out 11 (.bool false) rfl
      have n0 := blk_cell BN_1.out 0 (.int .i64 9) rfl
      have f_ := blk_free BN_1.out 11
      have lt := blk_cell BT_1.out 0 (.slice At 1 ct) rfl
      go_wp2_with ((with_reducible show wpList _ _ _ (⟨some 70, _, _, _, _, _⟩ :: _) _ _); refine hold ?_)
      refine Lib.hid ?_
      have BN_2 := set_blk (i := 11) BN_1.out (.bool true)
      have BT_2 := Lib.hid (set_other (c := w.heap.size) (i := 11) (v := .bool true) BT_1.out HQ.out)
      have RT_2 := Lib.hid (R_set RT_1.out HP.out 11 (.bool true))
      have HB_2 := Lib.hid (CMem.below_set (b := w.heap.size) (i := 11) HB_1.out (Nat.le_refl _) (.bool true))
      generalize v1.setCell ⟨w.heap.size, 11, none⟩ (.bool true) = v2 at *
      obtain ⟨S2, MX, NN, FO, BN, hres⟩ := packJoin w v2 9 0 0 0 true 3 BN_2 (by decide)
      clear n11 n0 f_ lt BN_1 BT_1 RT_1 HB_1 BN_2
  all_goals
    have n0 := blk_cell BN.out 0 (.int .i64 9) rfl
    have n1 := blk_cell BN.out 1 (.int .i64 0) rfl
    have n2 := blk_cell BN.out 2 (.int .i64 0) rfl
    have n3 := blk_cell BN.out 3 (.int .u64 0) rfl
    have n4 := blk_cell BN.out 4 (.int .u64 0) rfl
    have n5 := blk_cell BN.out 5 (.int .u64 S2) rfl
    have n6 := blk_cell BN.out 6 (.int .u64 0) rfl
    have n7 := blk_cell BN.out 7 (.int .i64 0) rfl
    have n8 := blk_cell BN.out 8 (.int .i64 MX) rfl
    have n9 := blk_cell BN.out 9 (.int .i64 0) rfl
    have n10 := blk_cell BN.out 10 (.int .i64 NN) rfl
    have n11 := blk_cell BN.out 11 (.bool FO) rfl
    have lt := blk_cell BT_2.out 0 (.slice At 1 ct) rfl
    go_wp2_with fail
    refine (wrap_own At ct [z43] [z43, ⟨9, 0, 0, ⟨⟨0, 0, S2, 0⟩⟩, 0, MX, 0, NN, FO⟩] 1 2 rfl (by decide) rfl 9 0 0 0 0 S2 0 0 MX 0 NN FO rfl _ (R_C RT_2.out)).mono ?_
    rintro e w3 ⟨⟨v_, rfl, hoX⟩, hb⟩
    obtain ⟨AX, cX, rfl, hleX, CX⟩ := own_C (n := 2) rfl (by decide) hoX
    have BN_3 := Lib.hid (blk_alloc (below_blk hb BN.out) (.cells #[.slice AX 2 cX] 24))
    have BX_3 := Lib.hid (heap_alloc_new w3 (.cells #[.slice AX 2 cX] 24))
    have HB_3 := Lib.hid ((below_step HB_2.out hb).alloc (below_step HB_2.out hb).size (.cells #[.slice AX 2 cX] 24))
    have BT_3 := Lib.hid (blk_alloc (below_blk hb BT_2.out) (.cells #[.slice AX 2 cX] 24))
    have RT_3 := Lib.hid (Kd.R_below (Kd.R_below RT_2.out hb) (below1 _ (.cells #[.slice AX 2 cX] 24)))
    have HPX := Lib.hid (show w.heap.size ≠ w3.heap.size by have := (below_step HB_2.out hb).size; have := lt_of_blk (below_blk hb BN.out); omega)
    have HLX := Lib.hid (show w.heap.size ≤ w3.heap.size from (below_step HB_2.out hb).size)
    clear hb hoX hleX CX BN BT_2 RT_2 HB_2 lt n0 n1 n2 n3 n4 n5 n6 n7 n8 n9 n10 n11
    have n0 := blk_cell BN_3.out 0 (.int .i64 9) rfl
    have lx := blk_cell BX_3.out 0 (.slice AX 2 cX) rfl
    have lt := blk_cell BT_3.out 0 (.slice At 1 ct) rfl
    go_wp2_with fail
    generalize w3.alloc (.cells #[.slice AX 2 cX] 24) = v3 at *
    generalize w3.heap.size = PX at *
    refine (join_own At ct [z43] [z43] [z43, z43, ⟨9, 0, 1, z41, 0, 0, 0, 0, false⟩] 1 1 3 rfl At ct rfl (by decide) rfl 9 rfl _ (R_C RT_3.out) (R_C RT_3.out)).mono ?_
    rintro e w4 ⟨⟨v_, rfl, hoJ⟩, hb⟩
    obtain ⟨AJ, cJ, rfl, hleJ, _⟩ := own_C (n := 3) rfl (by decide) hoJ
    obtain ⟨gJ, rfl⟩ := own_form hoJ (by decide)
    have HJ := Lib.hid (show w.heap.size < gJ by have := (own_bs hoJ).1; have := lt_of_blk BN_3.out; omega)
    have HXJ := Lib.hid (own_neT hoJ (below_blk hb BX_3.out))
    have OJ_4 := Lib.hid (own_set (val := (.slice (some ⟨gJ, 0, none⟩) 3 cJ)) hoJ (below_blk hb BX_3.out))
    have BN_4 := Lib.hid (set_other (c := PX) (i := 0) (v := (.slice (some ⟨gJ, 0, none⟩) 3 cJ)) (below_blk hb BN_3.out) HPX.out)
    have BX_4 := Lib.hid (set_blk (i := 0) (below_blk hb BX_3.out) (.slice (some ⟨gJ, 0, none⟩) 3 cJ))
    have HB_4 := Lib.hid (CMem.below_set (b := PX) (i := 0) (below_step HB_3.out hb) HLX.out (.slice (some ⟨gJ, 0, none⟩) 3 cJ))
    clear lx n0 lt
    have lx := blk_cell (below_blk hb BX_3.out) 0 (.slice AX 2 cX) rfl
    have fx := blk_free (below_blk hb BX_3.out) 0
    clear hb hoJ hleJ BN_3 BX_3 BT_3 RT_3 HB_3
    go_wp2_with ((with_reducible show wpList _ _ _ (⟨some 89, _, _, _, _, _⟩ :: _) _ _); refine hold ?_)
    refine Lib.hid ?_
    clear lx fx
    generalize w4.setCell ⟨PX, 0, none⟩ (.slice (some ⟨gJ, 0, none⟩) 3 cJ) = v4 at *
    have lx := blk_cell BX_4.out 0 (.slice (some ⟨gJ, 0, none⟩) 3 cJ) rfl
    have n3 := blk_cell BN_4.out 3 (.int .u64 0) rfl
    have n4 := blk_cell BN_4.out 4 (.int .u64 0) rfl
    have n5 := blk_cell BN_4.out 5 (.int .u64 S2) rfl
    have n6 := blk_cell BN_4.out 6 (.int .u64 0) rfl
    have c3 : v4.cell? ⟨gJ, 27, none⟩ = some (.int .u64 0) := OJ_4.out.cellAt 27 (by decide)
    have d3 := OJ_4.out.frozenAt 27
    have c4 : v4.cell? ⟨gJ, 28, none⟩ = some (.int .u64 0) := OJ_4.out.cellAt 28 (by decide)
    have d4 := OJ_4.out.frozenAt 28
    have c5 : v4.cell? ⟨gJ, 29, none⟩ = some (.int .u64 0) := OJ_4.out.cellAt 29 (by decide)
    have d5 := OJ_4.out.frozenAt 29
    have c6 : v4.cell? ⟨gJ, 30, none⟩ = some (.int .u64 0) := OJ_4.out.cellAt 30 (by decide)
    have d6 := OJ_4.out.frozenAt 30
    go_wp2_with ((with_reducible show wpList _ _ _ (⟨some 103, _, _, _, _, _⟩ :: _) _ _); refine hold ?_)
    refine Lib.hid ?_
    have OJ_5 := Lib.hid (World.ownsRow.stored (World.ownsRow.stored (World.ownsRow.stored (World.ownsRow.stored OJ_4.out 27 (.int .u64 0)).1 28 (.int .u64 0)).1 29 (.int .u64 S2)).1 30 (.int .u64 0)).1
    have BN_5 := Lib.hid (set_other (c := gJ) (i := 30) (v := .int .u64 0) (set_other (c := gJ) (i := 29) (v := .int .u64 S2) (set_other (c := gJ) (i := 28) (v := .int .u64 0) (set_other (c := gJ) (i := 27) (v := .int .u64 0) BN_4.out (Nat.ne_of_lt HJ.out)) (Nat.ne_of_lt HJ.out)) (Nat.ne_of_lt HJ.out)) (Nat.ne_of_lt HJ.out))
    have BX_5 := Lib.hid (set_other (c := gJ) (i := 30) (v := .int .u64 0) (set_other (c := gJ) (i := 29) (v := .int .u64 S2) (set_other (c := gJ) (i := 28) (v := .int .u64 0) (set_other (c := gJ) (i := 27) (v := .int .u64 0) BX_4.out HXJ.out) HXJ.out) HXJ.out) HXJ.out)
    have HB_5 := Lib.hid (CMem.below_set (b := gJ) (i := 30) (CMem.below_set (b := gJ) (i := 29) (CMem.below_set (b := gJ) (i := 28) (CMem.below_set (b := gJ) (i := 27) HB_4.out (Nat.le_of_lt HJ.out) (.int .u64 0)) (Nat.le_of_lt HJ.out) (.int .u64 0)) (Nat.le_of_lt HJ.out) (.int .u64 S2)) (Nat.le_of_lt HJ.out) (.int .u64 0))
    clear lx n3 n4 n5 n6 c3 d3 c4 d4 c5 d5 c6 d6 OJ_4 BN_4 BX_4 HB_4
    generalize ((((v4.setCell ⟨gJ, 27, none⟩ (.int .u64 0)).setCell ⟨gJ, 28, none⟩ (.int .u64 0)).setCell ⟨gJ, 29, none⟩ (.int .u64 S2)).setCell ⟨gJ, 30, none⟩ (.int .u64 0)) = v5 at *
    have lx := blk_cell BX_5.out 0 (.slice (some ⟨gJ, 0, none⟩) 3 cJ) rfl
    have n8 := blk_cell BN_5.out 8 (.int .i64 MX) rfl
    have c8 : v5.cell? ⟨gJ, 32, none⟩ = some (.int .i64 0) := OJ_5.out.cellAt 32 (by decide)
    have d8 := OJ_5.out.frozenAt 32
    go_wp2_with ((with_reducible show wpList _ _ _ (⟨some 113, _, _, _, _, _⟩ :: _) _ _); refine hold ?_)
    refine Lib.hid ?_
    have OJ_6 := Lib.hid (World.ownsRow.stored OJ_5.out 32 (.int .i64 MX)).1
    have BN_6 := Lib.hid (set_other (c := gJ) (i := 32) (v := .int .i64 MX) BN_5.out (Nat.ne_of_lt HJ.out))
    have BX_6 := Lib.hid (set_other (c := gJ) (i := 32) (v := .int .i64 MX) BX_5.out HXJ.out)
    have HB_6 := Lib.hid (CMem.below_set (b := gJ) (i := 32) HB_5.out (Nat.le_of_lt HJ.out) (.int .i64 MX))
    clear lx n8 c8 d8 OJ_5 BN_5 BX_5 HB_5
    generalize (v5.setCell ⟨gJ, 32, none⟩ (.int .i64 MX)) = v6 at *
    have lx := blk_cell BX_6.out 0 (.slice (some ⟨gJ, 0, none⟩) 3 cJ) rfl
    have n10 := blk_cell BN_6.out 10 (.int .i64 NN) rfl
    have c10 : v6.cell? ⟨gJ, 34, none⟩ = some (.int .i64 0) := OJ_6.out.cellAt 34 (by decide)
    have d10 := OJ_6.out.frozenAt 34
    go_wp2_with ((with_reducible show wpList _ _ _ (⟨some 123, _, _, _, _, _⟩ :: _) _ _); refine hold ?_)
    refine Lib.hid ?_
    have OJ_7 := Lib.hid (World.ownsRow.stored OJ_6.out 34 (.int .i64 NN)).1
    have BN_7 := Lib.hid (set_other (c := gJ) (i := 34) (v := .int .i64 NN) BN_6.out (Nat.ne_of_lt HJ.out))
    have BX_7 := Lib.hid (set_other (c := gJ) (i := 34) (v := .int .i64 NN) BX_6.out HXJ.out)
    have HB_7 := Lib.hid (CMem.below_set (b := gJ) (i := 34) HB_6.out (Nat.le_of_lt HJ.out) (.int .i64 NN))
    clear lx n10 c10 d10 OJ_6 BN_6 BX_6 HB_6
    generalize (v6.setCell ⟨gJ, 34, none⟩ (.int .i64 NN)) = v7 at *
    have lx := blk_cell BX_7.out 0 (.slice (some ⟨gJ, 0, none⟩) 3 cJ) rfl
    have n11 := blk_cell BN_7.out 11 (.bool FO) rfl
    have c11 : v7.cell? ⟨gJ, 35, none⟩ = some (.bool false) := OJ_7.out.cellAt 35 (by decide)
    have d11 := OJ_7.out.frozenAt 35
    go_wp2_with ((with_reducible show wpList _ _ _ (⟨some 133, _, _, _, _, _⟩ :: _) _ _); refine hold ?_)
    refine Lib.hid ?_
    have OJ_8 := Lib.hid (World.ownsRow.stored OJ_7.out 35 (.bool FO)).1
    have BN_8 := Lib.hid (set_other (c := gJ) (i := 35) (v := .bool FO) BN_7.out (Nat.ne_of_lt HJ.out))
    have BX_8 := Lib.hid (set_other (c := gJ) (i := 35) (v := .bool FO) BX_7.out HXJ.out)
    have HB_8 := Lib.hid (CMem.below_set (b := gJ) (i := 35) HB_7.out (Nat.le_of_lt HJ.out) (.bool FO))
    clear lx n11 c11 d11 OJ_7 BN_7 BX_7 HB_7
    generalize (v7.setCell ⟨gJ, 35, none⟩ (.bool FO)) = v8 at *
    have OJ : Hid (v8.ownsRow v3.heap.size 43 12 (.slice (some ⟨gJ, 0, none⟩) 3 cJ) 3 (ra [z43, z43, ⟨9, 0, 1, ⟨⟨0, 0, S2, 0⟩⟩, 0, MX, 0, NN, FO⟩])) := OJ_8
    have lx := blk_cell BX_8.out 0 (.slice (some ⟨gJ, 0, none⟩) 3 cJ) rfl
    go_wp2_with fail
    refine (right_tree (some ⟨gJ, 0, none⟩) cJ [z43, z43, ⟨9, 0, 1, ⟨⟨0, 0, S2, 0⟩⟩, 0, MX, 0, NN, FO⟩] 3 _ rfl (by decide) hres.out _ (own_Cs (n := 3) rfl (by decide) OJ.out)).mono ?_
    rintro e w9 ⟨rfl, hb⟩
    have HB_9 := Lib.hid (below_step HB_8.out hb)
    go_wp2_with fail
    refine (fixed_calls _).mono ?_
    rintro e w10 ⟨rfl, hb10⟩
    have HB_10 := Lib.hid (below_step HB_9.out hb10)
    go_wp2
    go_ret
    exact ⟨rfl, HB_10.out⟩
theorem astFields_row (kk ff : Int) (w : World) (h1 : (Lit.int .u8 kk).wf = true) (h2 : (Lit.int .u8 ff).wf = true) :
    Calls Try.prog 8 #[.int .u8 kk, .int .u8 ff] w fun e w' => e = .returned (.bool true) ∧ Below w.heap.size w w' := by
  have e1 : IntKind.u8.min = 0 := rfl
  have e2 : IntKind.u8.max = 255 := rfl
  simp [Lit.wf, e1, e2] at h1 h2
  have hk : kk.tmod 18 = kk % 18 := Int.tmod_eq_emod_of_nonneg (by omega)
  obtain ⟨K, hK⟩ : ∃ K, kk.tmod 18 = K := ⟨_, rfl⟩
  have hr : 0 ≤ K ∧ K < 18 := by rw [← hK, hk]; omega
  have hc : (K = 0 ∨ K = 2 ∨ K = 3 ∨ K = 4 ∨ K = 5 ∨ K = 6 ∨ K = 7) ∨ K = 1 ∨ K = 12 ∨ K = 10 ∨ K = 11 ∨ (K = 13 ∨ K = 14 ∨ K = 15 ∨ K = 16 ∨ K = 17) ∨ K = 8 ∨ K = 9 := by omega
  rcases hc with h | h | h | h | h | h | h | h
  · exact walk_leaf kk ff w (by omega) (by omega) (by omega) (by omega) K hK h
  · exact walk_k1 kk ff w (by omega) (by omega) (by omega) (by omega) (by omega)
  · exact walk_k12 kk ff w (by omega) (by omega) (by omega) (by omega) (by omega)
  · exact walk_k10 kk ff w (by omega) (by omega) (by omega) (by omega) (by omega)
  · exact walk_k11 kk ff w (by omega) (by omega) (by omega) (by omega) (by omega)
  · exact walk_wrap kk ff w (by omega) (by omega) (by omega) (by omega) K hK h
  · exact walk_k8 kk ff w (by omega) (by omega) (by omega) (by omega) (by omega)
  · exact walk_k9 kk ff w (by omega) (by omega) (by omega) (by omega) (by omega)
end Go.Proofs.Ytjeoiebdchlilaa.LAstFields
