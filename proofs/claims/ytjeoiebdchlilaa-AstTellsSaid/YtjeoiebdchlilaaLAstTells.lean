/- AstTells: what is wrong with any tree, how deep it is, how many groups it has, how many bytes the tree of any node has: the program says what the document says. -/
import Derived.Test.YtjeoiebdchlilaaZ2
import Derived.Test.YtjeoiebdchlilaaZ1
namespace Go.Proofs.Ytjeoiebdchlilaa.LAstTells
open Go.RowKit CMem DRow DDeep DSizes DFits DLens DSpec DGrp DCon DOdd DRowN DWrap DJoin DGrouped DRight DRJoin DRFits DRef DRefB DCut DTree DKit DFix DFixed DArg Q Go.Proofs.YtjeoiebdchlilaaW.PrintWords Go.Proofs.YtjeoiebdchlilaaW.PrintLast Go.Proofs.YtjeoiebdchlilaaW.PrintMore
set_option linter.unusedVariables false
set_option linter.unusedSimpArgs false
set_option maxRecDepth 100000
set_option maxHeartbeats 12800000 in
theorem walk (z : TreeArg) (i : Int) (w : World) (hz : TreeIn w z) :
    Calls Try.prog 3 #[.agg #[.slice z.A z.n z.c], .int .i64 i] w fun e w' => e = .returned (.bool true) ∧ Below w.heap.size w w' := by
  obtain ⟨At, n, c, L⟩ := z
  obtain ⟨h1, hlet, hcapt, hC⟩ := hz
  simp only [] at h1 hlet hcapt hC ⊢
  obtain ⟨k, hkt⟩ : ∃ k, k = min n 60 := ⟨_, rfl⟩
  obtain ⟨Lt, hLt⟩ : ∃ l, L.take k = l := ⟨_, rfl⟩
  have hnt : Lt.length = k := by rw [← hLt, List.length_take]; omega
  have hk5 : k ≤ 60 := by omega
  have hk6 : k ≤ 500 := by omega
  have HCt := Lib.hid (fun W (hb : Below w.heap.size w W) => (hLt ▸ C_take (Kd.C_below (w1 := W) hC hb) (show k ≤ n by omega) : Kd.C k43 W At k Lt))
  obtain ⟨R, hR⟩ : ∃ r, rgt Lt = r := ⟨_, rfl⟩
  obtain ⟨D, hD⟩ : ∃ r, dep Lt = r := ⟨_, rfl⟩
  obtain ⟨G, hG⟩ : ∃ r, grn Lt = r := ⟨_, rfl⟩
  obtain ⟨⟨x1, x2, x3⟩, hX⟩ : ∃ r, lenr Lt i = r := ⟨_, rfl⟩
  have HR := Lib.hid hR
  have HD := Lib.hid hD
  have HG := Lib.hid hG
  have HX := Lib.hid hX
  have hmt : Hid (k ≤ 1000) := Lib.hid (by omega)
  clear hR hD hG hX hC h1 hLt hk5
  replace hkt := Lib.hid hkt
  replace hlet := Lib.hid hlet
  replace hcapt := Lib.hid hcapt
  replace hnt := Lib.hid hnt
  replace hk6 := Lib.hid hk6
  have Q0_0 := Lib.hid (heap_alloc_new w (.cells #[.slice At n c] 24))
  have HB_0 := Lib.hid (below1 w (.cells #[.slice At n c] 24))
  have M0_0 := blk_cell Q0_0.out 0 (.slice At n c) rfl
  go_enter Try.func3, Try.ntmps3
  go_wp2_with fail
  generalize hW : w.alloc (.cells #[.slice At n c] 24) = v0 at *
  clear hW
  refine (cut_calls At c n k 60 hkt.out hlet.out hcapt.out (by decide) _).mono ?_
  -- cut
  rintro e w1 ⟨⟨ct, rfl, hct⟩, hb⟩
  have R_ := below_blk hb Q0_0.out
  have q_ := blk_cell R_ 0 (.slice At n c) rfl
  have f_ := blk_free R_ 0
  have Q0_1 := Lib.hid (set_blk (i := 0) R_ (.slice At k ct))
  have HB_1 := Lib.hid (CMem.below_set (b := w.heap.size) (i := 0) (below_step HB_0.out hb) (by omega) (.slice At k ct))
  have HHt := Lib.hid hct
  clear hb R_ hct HB_0 Q0_0 M0_0
  have M0_1 := blk_cell Q0_1.out 0 (.slice At k ct) rfl
  go_wp2_with fail
  generalize hW : w1.setCell ⟨w.heap.size, 0, none⟩ (.slice At k ct) = v1 at *
  clear hW q_ f_
  have Bt_1 := Q0_1
  have Lt_1 := M0_1
  clear Q0_1 M0_1
  refine (ref_calls At ct Lt k hnt.out hmt.out HHt.out _ (HCt.out _ HB_1.out)).mono ?_
  rintro e w2 ⟨⟨Al, cl, rfl, hle, C⟩, hb⟩
  have Cl_2 := Lib.hid C
  have Hl := Lib.hid hle
  clear C hle
  have Bt_2 := Lib.hid (below_blk hb Bt_1.out)
  have Lt_2 := blk_cell Bt_2.out 0 (.slice At k ct) rfl
  have HB_2 := Lib.hid (below_step HB_1.out hb)
  clear hb HB_1 Bt_1 Lt_1
  go_wp2_with fail
  refine (len_tree At ct Lt k i x1 x2 x3 hnt.out hk6.out HX.out _ (HCt.out _ HB_2.out)).mono ?_
  rintro e w3 ⟨rfl, hb⟩
  have Cl_3 := Lib.hid (Kd.C_below Cl_2.out hb)
  have Bt_3 := Lib.hid (below_blk hb Bt_2.out)
  have Lt_3 := blk_cell Bt_3.out 0 (.slice At k ct) rfl
  have HB_3 := Lib.hid (below_step HB_2.out hb)
  clear hb HB_2 Cl_2 Bt_2 Lt_2
  go_wp2_with fail
  refine (rlen_tree Al cl Lt k i x1 x2 x3 hnt.out hk6.out Hl.out HX.out _ Cl_3.out).mono ?_
  rintro e w4 ⟨rfl, hb⟩
  have Cl_4 := Lib.hid (Kd.C_below Cl_3.out hb)
  have Bt_4 := Lib.hid (below_blk hb Bt_3.out)
  have Lt_4 := blk_cell Bt_4.out 0 (.slice At k ct) rfl
  have HB_4 := Lib.hid (below_step HB_3.out hb)
  clear hb HB_3 Cl_3 Bt_3 Lt_3
  go_wp2_with fail
  refine (right_tree At ct Lt k R hnt.out hk6.out HR.out _ (HCt.out _ HB_4.out)).mono ?_
  rintro e w5 ⟨rfl, hb⟩
  have Cl_5 := Lib.hid (Kd.C_below Cl_4.out hb)
  have Bt_5 := Lib.hid (below_blk hb Bt_4.out)
  have Lt_5 := blk_cell Bt_5.out 0 (.slice At k ct) rfl
  have HB_5 := Lib.hid (below_step HB_4.out hb)
  clear hb HB_4 Cl_4 Bt_4 Lt_4
  go_wp2_with fail
  refine (rright_tree Al cl Lt k R hnt.out hk6.out Hl.out HR.out _ Cl_5.out).mono ?_
  rintro e w6 ⟨rfl, hb⟩
  have Cl_6 := Lib.hid (Kd.C_below Cl_5.out hb)
  have Bt_6 := Lib.hid (below_blk hb Bt_5.out)
  have Lt_6 := blk_cell Bt_6.out 0 (.slice At k ct) rfl
  have HB_6 := Lib.hid (below_step HB_5.out hb)
  clear hb HB_5 Cl_5 Bt_5 Lt_5
  go_wp2_with fail
  refine (deep_tree At ct Lt k D hnt.out hk6.out HD.out _ (HCt.out _ HB_6.out)).mono ?_
  rintro e w7 ⟨rfl, hb⟩
  have Cl_7 := Lib.hid (Kd.C_below Cl_6.out hb)
  have Bt_7 := Lib.hid (below_blk hb Bt_6.out)
  have Lt_7 := blk_cell Bt_7.out 0 (.slice At k ct) rfl
  have HB_7 := Lib.hid (below_step HB_6.out hb)
  clear hb HB_6 Cl_6 Bt_6 Lt_6
  go_wp2_with fail
  refine (rdeep_tree Al cl Lt k D hnt.out hk6.out Hl.out HD.out _ Cl_7.out).mono ?_
  rintro e w8 ⟨rfl, hb⟩
  have Cl_8 := Lib.hid (Kd.C_below Cl_7.out hb)
  have Bt_8 := Lib.hid (below_blk hb Bt_7.out)
  have Lt_8 := blk_cell Bt_8.out 0 (.slice At k ct) rfl
  have HB_8 := Lib.hid (below_step HB_7.out hb)
  clear hb HB_7 Cl_7 Bt_7 Lt_7
  go_wp2_with fail
  refine (groups_tree At ct Lt k G hnt.out hk6.out HHt.out HG.out _ (HCt.out _ HB_8.out)).mono ?_
  rintro e w9 ⟨rfl, hb⟩
  have Cl_9 := Lib.hid (Kd.C_below Cl_8.out hb)
  have Bt_9 := Lib.hid (below_blk hb Bt_8.out)
  have Lt_9 := blk_cell Bt_9.out 0 (.slice At k ct) rfl
  have HB_9 := Lib.hid (below_step HB_8.out hb)
  clear hb HB_8 Cl_8 Bt_8 Lt_8
  go_wp2_with fail
  refine (rgroups_tree Al cl Lt k G hnt.out hk6.out Hl.out HG.out _ Cl_9.out).mono ?_
  rintro e w10 ⟨rfl, hb⟩
  have Cl_10 := Lib.hid (Kd.C_below Cl_9.out hb)
  have Bt_10 := Lib.hid (below_blk hb Bt_9.out)
  have Lt_10 := blk_cell Bt_10.out 0 (.slice At k ct) rfl
  have HB_10 := Lib.hid (below_step HB_9.out hb)
  clear hb HB_9 Cl_9 Bt_9 Lt_9
  go_wp2_with fail
  refine (fixed_calls _).mono ?_
  rintro e w11 ⟨rfl, hb⟩
  have Cl_11 := Lib.hid (Kd.C_below Cl_10.out hb)
  have Bt_11 := Lib.hid (below_blk hb Bt_10.out)
  have Lt_11 := blk_cell Bt_11.out 0 (.slice At k ct) rfl
  have HB_11 := Lib.hid (below_step HB_10.out hb)
  clear hb HB_10 Cl_10 Bt_10 Lt_10
  go_wp2
  go_ret
  exact ⟨rfl, HB_11.out⟩
theorem astTells_row (z : TreeArg) (i : Int) (w : World) (hz : TreeIn w z) (hi : (Lit.int .i64 i).wf = true) :
    Calls Try.prog 3 #[.agg #[.slice z.A z.n z.c], .int .i64 i] w fun e w' => e = .returned (.bool true) ∧ Below w.heap.size w w' :=
  walk z i w hz
end Go.Proofs.Ytjeoiebdchlilaa.LAstTells
