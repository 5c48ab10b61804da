/- Groups: the calls whose answers the document fixes: the walk. -/
import Derived.Test.YtpeccbdobdnpiaaDoorAFix
namespace Go.Proofs.YtpeccbdobdnpiaaDoor.AFixW
open Go.RowKit CMem ACap AGet AWith AText ASame AAgain AShow AFix Go.Proofs.YtpeccbdobdnpiaaDoorW.PrintWords Go.Proofs.YtpeccbdobdnpiaaDoorW.PrintLast Go.Proofs.YtpeccbdobdnpiaaDoorW.PrintMore
set_option linter.unusedVariables false
set_option linter.unusedSimpArgs false
set_option maxRecDepth 100000
set_option maxHeartbeats 12800000
attribute [-go_sem] Go.loadCells in
theorem fixed_calls (w : World) (hT : Tab w) : Calls Tryd.prog 19 #[] w fun e w' => e = .returned (.bool true) ∧ Below w.heap.size w w' := by
  have HT_0 := Lib.hid hT
  have HB_0 := Lib.hid (Below.refl w.heap.size w)
  clear hT
  have k1 := f_with
  have k2 := f_no0
  have k3 := f_no1
  have k4 := f_no2
  have k5 := f_get
  have k6 := f_getn
  have k7 := f_text
  have k8 := f_short
  have k9 := f_fold
  have kA := f_plain
  have kB := f_show
  have kC := f_show0
  have kD := f_show9
  have sc := store_new B2 Y2 26
  have sz := store_new (fun _ => false) (fun _ => 0) 26
  have hs := cc_size
  have hz := zero_c
  generalize B2 = B at *
  generalize Y2 = Y at *
  have K1 := Lib.hid k1
  clear k1
  have K2 := Lib.hid k2
  clear k2
  have K3 := Lib.hid k3
  clear k3
  have K4 := Lib.hid k4
  clear k4
  have K5 := Lib.hid k5
  clear k5
  have K6 := Lib.hid k6
  clear k6
  have K7 := Lib.hid k7
  clear k7
  have K8 := Lib.hid k8
  clear k8
  have K9 := Lib.hid k9
  clear k9
  have KA := Lib.hid kA
  clear kA
  have KB := Lib.hid kB
  clear kB
  have KC := Lib.hid kC
  clear kC
  have KD := Lib.hid kD
  clear kD
  go_enter Tryd.func19, Tryd.ntmps19
  go_wp2_with fail
  refine (K1.out _).mono ?_
  rintro e w1 ⟨rfl, hb⟩
  have C_1 := Lib.hid (heap_alloc_new w1 (.cells (cc B Y) 26))
  have LC_1 := load27 C_1.out
  have HB_1 := Lib.hid ((below_step HB_0.out hb).alloc (Nat.le_trans (HB_0.out.size) hb.size) (.cells (cc B Y) 26))
  have HT_1 := Lib.hid (Tab.below (HT_0.out.below hb) (below1 _ (.cells (cc B Y) 26)))
  clear hb HB_0 HT_0
  go_wp2_with fail
  generalize hW : w1.alloc (.cells (cc B Y) 26) = v1 at *
  clear hW
  generalize w1.heap.size = PC at *
  refine (K2.out _).mono ?_
  rintro e w2 ⟨rfl, hb⟩
  have Z2_2 := Lib.hid (heap_alloc_new w2 (.cells (zc) 26))
  have C_2 := Lib.hid (blk_alloc (below_blk hb C_1.out) (.cells (zc) 26))
  have LC_2 := load27 C_2.out
  have HB_2 := Lib.hid ((below_step HB_1.out hb).alloc (Nat.le_trans (HB_1.out.size) hb.size) (.cells (zc) 26))
  have HT_2 := Lib.hid (Tab.below (HT_1.out.below hb) (below1 _ (.cells (zc) 26)))
  clear hb C_1 HB_1 HT_1 LC_1
  go_wp2_with fail
  generalize hW : w2.alloc (.cells (zc) 26) = v2 at *
  clear hW
  generalize w2.heap.size = PZ2 at *
  refine (K3.out _).mono ?_
  rintro e w3 ⟨rfl, hb⟩
  have Z3_3 := Lib.hid (heap_alloc_new w3 (.cells (zc) 26))
  have C_3 := Lib.hid (blk_alloc (below_blk hb C_2.out) (.cells (zc) 26))
  have LC_3 := load27 C_3.out
  have Z2_3 := Lib.hid (blk_alloc (below_blk hb Z2_2.out) (.cells (zc) 26))
  have HB_3 := Lib.hid ((below_step HB_2.out hb).alloc (Nat.le_trans (HB_2.out.size) hb.size) (.cells (zc) 26))
  have HT_3 := Lib.hid (Tab.below (HT_2.out.below hb) (below1 _ (.cells (zc) 26)))
  clear hb C_2 Z2_2 HB_2 HT_2 LC_2
  go_wp2_with fail
  generalize hW : w3.alloc (.cells (zc) 26) = v3 at *
  clear hW
  generalize w3.heap.size = PZ3 at *
  refine (K4.out _).mono ?_
  rintro e w4 ⟨rfl, hb⟩
  have Z4_4 := Lib.hid (heap_alloc_new w4 (.cells (zc) 26))
  have C_4 := Lib.hid (blk_alloc (below_blk hb C_3.out) (.cells (zc) 26))
  have LC_4 := load27 C_4.out
  have Z2_4 := Lib.hid (blk_alloc (below_blk hb Z2_3.out) (.cells (zc) 26))
  have Z3_4 := Lib.hid (blk_alloc (below_blk hb Z3_3.out) (.cells (zc) 26))
  have HB_4 := Lib.hid ((below_step HB_3.out hb).alloc (Nat.le_trans (HB_3.out.size) hb.size) (.cells (zc) 26))
  have HT_4 := Lib.hid (Tab.below (HT_3.out.below hb) (below1 _ (.cells (zc) 26)))
  clear hb C_3 Z2_3 Z3_3 HB_3 HT_3 LC_3
  go_wp2_with fail
  generalize hW : w4.alloc (.cells (zc) 26) = v4 at *
  clear hW
  generalize w4.heap.size = PZ4 at *
  refine (K5.out _).mono ?_
  rintro e w5 ⟨rfl, hb⟩
  have C_5 := Lib.hid (below_blk hb C_4.out)
  have LC_5 := load27 C_5.out
  have Z2_5 := Lib.hid (below_blk hb Z2_4.out)
  have Z3_5 := Lib.hid (below_blk hb Z3_4.out)
  have Z4_5 := Lib.hid (below_blk hb Z4_4.out)
  have HB_5 := Lib.hid (below_step HB_4.out hb)
  have HT_5 := Lib.hid (HT_4.out.below hb)
  clear hb C_4 Z2_4 Z3_4 Z4_4 HB_4 HT_4 LC_4
  go_wp2_with fail
  refine (K6.out _).mono ?_
  rintro e w6 ⟨rfl, hb⟩
  have C_6 := Lib.hid (below_blk hb C_5.out)
  have LC_6 := load27 C_6.out
  have Z2_6 := Lib.hid (below_blk hb Z2_5.out)
  have Z3_6 := Lib.hid (below_blk hb Z3_5.out)
  have Z4_6 := Lib.hid (below_blk hb Z4_5.out)
  have HB_6 := Lib.hid (below_step HB_5.out hb)
  have HT_6 := Lib.hid (HT_5.out.below hb)
  clear hb C_5 Z2_5 Z3_5 Z4_5 HB_5 HT_5 LC_5
  go_wp2_with fail
  refine (K7.out _).mono ?_
  rintro e w7 ⟨rfl, hb⟩
  have C_7 := Lib.hid (below_blk hb C_6.out)
  have LC_7 := load27 C_7.out
  have Z2_7 := Lib.hid (below_blk hb Z2_6.out)
  have Z3_7 := Lib.hid (below_blk hb Z3_6.out)
  have Z4_7 := Lib.hid (below_blk hb Z4_6.out)
  have HB_7 := Lib.hid (below_step HB_6.out hb)
  have HT_7 := Lib.hid (HT_6.out.below hb)
  clear hb C_6 Z2_6 Z3_6 Z4_6 HB_6 HT_6 LC_6
  go_wp2_with fail
  refine (K8.out _).mono ?_
  rintro e w8 ⟨rfl, hb⟩
  have C_8 := Lib.hid (below_blk hb C_7.out)
  have LC_8 := load27 C_8.out
  have Z2_8 := Lib.hid (below_blk hb Z2_7.out)
  have Z3_8 := Lib.hid (below_blk hb Z3_7.out)
  have Z4_8 := Lib.hid (below_blk hb Z4_7.out)
  have HB_8 := Lib.hid (below_step HB_7.out hb)
  have HT_8 := Lib.hid (HT_7.out.below hb)
  clear hb C_7 Z2_7 Z3_7 Z4_7 HB_7 HT_7 LC_7
  go_wp2_with fail
  refine (K9.out _).mono ?_
  rintro e w9 ⟨rfl, hb⟩
  have C_9 := Lib.hid (below_blk hb C_8.out)
  have LC_9 := load27 C_9.out
  have Z2_9 := Lib.hid (below_blk hb Z2_8.out)
  have Z3_9 := Lib.hid (below_blk hb Z3_8.out)
  have Z4_9 := Lib.hid (below_blk hb Z4_8.out)
  have HB_9 := Lib.hid (below_step HB_8.out hb)
  have HT_9 := Lib.hid (HT_8.out.below hb)
  clear hb C_8 Z2_8 Z3_8 Z4_8 HB_8 HT_8 LC_8
  go_wp2_with fail
  refine (KA.out _).mono ?_
  rintro e w10 ⟨rfl, hb⟩
  have C_10 := Lib.hid (below_blk hb C_9.out)
  have LC_10 := load27 C_10.out
  have Z2_10 := Lib.hid (below_blk hb Z2_9.out)
  have Z3_10 := Lib.hid (below_blk hb Z3_9.out)
  have Z4_10 := Lib.hid (below_blk hb Z4_9.out)
  have HB_10 := Lib.hid (below_step HB_9.out hb)
  have HT_10 := Lib.hid (HT_9.out.below hb)
  clear hb C_9 Z2_9 Z3_9 Z4_9 HB_9 HT_9 LC_9
  go_wp2_with (first | ((go_at_call 15); (with_reducible refine (KB.out _ HT_10.out).mono ?_); (rintro e w11 ⟨rfl, hb⟩); (have C_11 := Lib.hid (below_blk hb C_10.out)); (have LC_11 := load27 C_11.out); (have Z2_11 := Lib.hid (below_blk hb Z2_10.out)); (have Z3_11 := Lib.hid (below_blk hb Z3_10.out)); (have Z4_11 := Lib.hid (below_blk hb Z4_10.out)); (have HB_11 := Lib.hid (below_step HB_10.out hb)); (have HT_11 := Lib.hid (HT_10.out.below hb)); (clear hb C_10 Z2_10 Z3_10 Z4_10 HB_10 HT_10 LC_10); (clear KB)) | ((go_at_call 15); (with_reducible refine (KC.out _ HT_11.out).mono ?_); (rintro e w12 ⟨rfl, hb⟩); (have C_12 := Lib.hid (below_blk hb C_11.out)); (have LC_12 := load27 C_12.out); (have Z2_12 := Lib.hid (below_blk hb Z2_11.out)); (have Z3_12 := Lib.hid (below_blk hb Z3_11.out)); (have Z4_12 := Lib.hid (below_blk hb Z4_11.out)); (have HB_12 := Lib.hid (below_step HB_11.out hb)); (have HT_12 := Lib.hid (HT_11.out.below hb)); (clear hb C_11 Z2_11 Z3_11 Z4_11 HB_11 HT_11 LC_11); (clear KC)) | ((go_at_call 15); (with_reducible refine (KD.out _ HT_12.out).mono ?_); (rintro e w13 ⟨rfl, hb⟩); (have C_13 := Lib.hid (below_blk hb C_12.out)); (have LC_13 := load27 C_13.out); (have Z2_13 := Lib.hid (below_blk hb Z2_12.out)); (have Z3_13 := Lib.hid (below_blk hb Z3_12.out)); (have Z4_13 := Lib.hid (below_blk hb Z4_12.out)); (have HB_13 := Lib.hid (below_step HB_12.out hb)); (have HT_13 := Lib.hid (HT_12.out.below hb)); (clear hb C_12 Z2_12 Z3_12 Z4_12 HB_12 HT_12 LC_12); (clear KD)))
  go_ret
  exact ⟨rfl, HB_13.out⟩
end Go.Proofs.YtpeccbdobdnpiaaDoor.AFixW
