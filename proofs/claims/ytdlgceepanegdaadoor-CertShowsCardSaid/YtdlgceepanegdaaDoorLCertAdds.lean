/- CertAdds: its walk. -/
import Derived.Test.YtdlgceepanegdaaDoorHCon
import Derived.Test.YtdlgceepanegdaaDoorHArg
namespace Go.Proofs.YtdlgceepanegdaaDoor.LCertAdds
open Go.RowKit HAppd HAppC HShow HSpec HCon HArg Go.Proofs.YtdlgceepanegdaaDoorW.PrintWords Go.Proofs.YtdlgceepanegdaaDoorW.PrintLast Go.Proofs.YtdlgceepanegdaaDoorW.PrintMore
set_option linter.unusedVariables false
set_option linter.unusedSimpArgs false
theorem min_fact (n : Nat) : ∃ m : Nat, m ≤ 60 ∧ m ≤ n ∧ ∀ ats ty, Builtin.min_ ats ty #[.int .i64 (n : Int), .int .i64 60] = pure (.int .i64 (m : Int)) := by
  by_cases h : n < 60
  · refine ⟨n, by omega, by omega, fun ats ty => ?_⟩
    simp only [min_two, min2_int, pure_bind]
    rw [if_neg (by omega)]
  · refine ⟨60, by omega, by omega, fun ats ty => ?_⟩
    simp only [min_two, min2_int, pure_bind]
    by_cases h2 : (60 : Int) < n
    · rw [if_pos h2]; rfl
    · rw [if_neg h2, show (n : Int) = ((60 : Nat) : Int) by omega]
set_option maxRecDepth 100000 in
set_option maxHeartbeats 6400000 in
theorem walk_0 (A : Option Addr) (len cap m : Nat) (a n v : Int) (M : List P) (w : World) (hT : Tab w) (hlc : len ≤ cap) (hcm : cap ≤ 9223372036854775807) (ha0 : 0 ≤ a) (ha1 : a ≤ 255) (hn0 : 0 ≤ n) (hn1 : n ≤ 65535)
    (hm6 : m ≤ 60) (hml : m ≤ len) (hmin : ∀ ats ty, Builtin.min_ ats ty #[.int .i64 (len : Int), .int .i64 60] = pure (.int .i64 (m : Int))) (hR : Ro w A M) (hM : M.length = m) (hq : a % 6 = 0) (hv : 1 + n % 500 = v) (hv0 : 1 ≤ v) (hv1 : v ≤ 500) :
    Calls Tryd.prog 4 #[.slice A len cap, .int .u8 a, .int .u16 n] w fun e w' => e = .returned (.bool true) ∧ Below w.heap.size w w' := by
  have HR := Lib.hid hR
  have HT := Lib.hid hT
  have HM := Lib.hid hM
  have HMT : Hid (M.take 60 = M) := Lib.hid (List.take_of_length_le (by omega))
  have HPL : Hid (pl (0, v) = v) := by unfold Hid pl; simp [skp] <;> omega
  have HMK : Hid (mk (0, v) = 0) := by unfold Hid mk; simp
  clear hR hT hM
  go_enter Tryd.func4, Tryd.ntmps4
  go_wp2_with fail
  clear hmin
  refine (c_ref HR.out HM.out (by omega) (by omega) 60).mono ?_
  rintro e w1 ⟨⟨B, d, rfl, hd, hRB⟩, hb⟩
  rw [HMT.out, HM.out] at hd
  rw [HMT.out] at hRB ⊢
  rw [HM.out]
  have HT1 := Lib.hid (HT.out.below hb)
  have HR1 := Lib.hid (HR.out.below hb)
  have HB1 := Lib.hid hb
  have HRB := Lib.hid hRB
  clear hb HT HR hRB
  go_wp2_with fail
  have hb := CMem.below1 w1 (.cells #[.int .i64 0, .int .i64 v] 24)
  have HG := Lib.hid (CMem.blk_cell (p := (0, 0)) (heap_alloc_new w1 (.cells #[.int .i64 0, .int .i64 v] 24)) 0 _ rfl)
  have HH := Lib.hid (CMem.blk_cell (p := (0, 0)) (heap_alloc_new w1 (.cells #[.int .i64 0, .int .i64 v] 24)) 1 _ rfl)
  have HT2 := Lib.hid (HT1.out.below hb)
  have HR2 := Lib.hid (HR1.out.below hb)
  have HB2 := Lib.hid (below_step HB1.out hb)
  have HRB2 := Lib.hid (HRB.out.below hb)
  clear hb HT1 HR1 HB1 HRB
  generalize hW : w1.alloc (.cells #[.int .i64 0, .int .i64 v] 24) = w2 at *
  clear hW
  generalize hqb : w1.heap.size = qb at *
  clear hqb hq hv
  refine (c_add HR2.out HM.out (by omega) (by omega) 0 v).mono ?_
  rintro e w3 ⟨⟨C, dc, rfl, hdc, hRC⟩, hb⟩
  have HT_3 := Lib.hid (HT2.out.below hb)
  have HR_3 := Lib.hid (HR2.out.below hb)
  have HB_3 := Lib.hid (below_step HB2.out hb)
  have HRB_3 := Lib.hid (HRB2.out.below hb)
  have HG_3 := Lib.hid (CMem.below_of hb HG.out)
  have HH_3 := Lib.hid (CMem.below_of hb HH.out)
  clear hb HT2 HR2 HB2 HRB2 HG HH
  have HRC_3 := Lib.hid hRC
  clear hRC
  have hal := add_length M (0, v)
  have HAM := Lib.hid (add_marks M (0, v))
  have HAP := Lib.hid (add_places M (0, v))
  have hp1 := places_le M
  have hm1 := marks_le M
  rw [HM.out] at hal hp1 hm1
  rw [HPL.out] at HAP
  rw [HMK.out] at HAM
  generalize add M (0, v) = N at *
  obtain ⟨x, hx⟩ : ∃ x, N.length = x := ⟨_, rfl⟩
  rw [hx] at hal hdc ⊢
  have HX := Lib.hid hx
  clear hx
  have gg := HG_3.out
  have gh := HH_3.out
  go_wp2_with fail
  refine (c_ref HR_3.out HM.out (by omega) (by omega) 60).mono ?_
  rintro e w4 ⟨⟨D, dd, rfl, hdd, hRD⟩, hb⟩
  rw [HMT.out, HM.out] at hdd
  rw [HMT.out] at hRD ⊢
  rw [HM.out]
  clear gg gh
  have HT_4 := Lib.hid (HT_3.out.below hb)
  have HR_4 := Lib.hid (HR_3.out.below hb)
  have HB_4 := Lib.hid (below_step HB_3.out hb)
  have HRB_4 := Lib.hid (HRB_3.out.below hb)
  have HG_4 := Lib.hid (CMem.below_of hb HG_3.out)
  have HH_4 := Lib.hid (CMem.below_of hb HH_3.out)
  have HRC_4 := Lib.hid (HRC_3.out.below hb)
  clear hb HT_3 HR_3 HB_3 HRB_3 HG_3 HH_3 HRC_3
  have HRD_4 := Lib.hid hRD
  clear hRD
  go_wp2_with fail
  refine (c_same HRD_4.out HRB_4.out HM.out (by omega) hdd HM.out (by omega) hd).mono ?_
  rintro e w5 ⟨rfl, hb⟩
  rw [decide_eq_true rfl]
  have HT_5 := Lib.hid (HT_4.out.below hb)
  have HR_5 := Lib.hid (HR_4.out.below hb)
  have HB_5 := Lib.hid (below_step HB_4.out hb)
  have HRB_5 := Lib.hid (HRB_4.out.below hb)
  have HG_5 := Lib.hid (CMem.below_of hb HG_4.out)
  have HH_5 := Lib.hid (CMem.below_of hb HH_4.out)
  have HRC_5 := Lib.hid (HRC_4.out.below hb)
  have HRD_5 := Lib.hid (HRD_4.out.below hb)
  clear hb HT_4 HR_4 HB_4 HRB_4 HG_4 HH_4 HRC_4 HRD_4
  go_wp2_with fail
  refine (c_places HRC_5.out HX.out (by omega) (by omega)).mono ?_
  rintro e w6 ⟨rfl, hb⟩
  rw [HAP.out]
  have HT_6 := Lib.hid (HT_5.out.below hb)
  have HR_6 := Lib.hid (HR_5.out.below hb)
  have HB_6 := Lib.hid (below_step HB_5.out hb)
  have HRB_6 := Lib.hid (HRB_5.out.below hb)
  have HG_6 := Lib.hid (CMem.below_of hb HG_5.out)
  have HH_6 := Lib.hid (CMem.below_of hb HH_5.out)
  have HRC_6 := Lib.hid (HRC_5.out.below hb)
  have HRD_6 := Lib.hid (HRD_5.out.below hb)
  clear hb HT_5 HR_5 HB_5 HRB_5 HG_5 HH_5 HRC_5 HRD_5
  go_wp2_with fail
  refine (c_places HR_6.out HM.out (by omega) (by omega)).mono ?_
  rintro e w7 ⟨rfl, hb⟩
  generalize places M = pm at *
  have HT_7 := Lib.hid (HT_6.out.below hb)
  have HR_7 := Lib.hid (HR_6.out.below hb)
  have HB_7 := Lib.hid (below_step HB_6.out hb)
  have HRB_7 := Lib.hid (HRB_6.out.below hb)
  have HG_7 := Lib.hid (CMem.below_of hb HG_6.out)
  have HH_7 := Lib.hid (CMem.below_of hb HH_6.out)
  have HRC_7 := Lib.hid (HRC_6.out.below hb)
  have HRD_7 := Lib.hid (HRD_6.out.below hb)
  clear hb HT_6 HR_6 HB_6 HRB_6 HG_6 HH_6 HRC_6 HRD_6
  go_wp2_with fail
  refine (c_marks HRC_7.out HX.out (by omega) (by omega)).mono ?_
  rintro e w8 ⟨rfl, hb⟩
  rw [HAM.out]
  have HT_8 := Lib.hid (HT_7.out.below hb)
  have HR_8 := Lib.hid (HR_7.out.below hb)
  have HB_8 := Lib.hid (below_step HB_7.out hb)
  have HRB_8 := Lib.hid (HRB_7.out.below hb)
  have HG_8 := Lib.hid (CMem.below_of hb HG_7.out)
  have HH_8 := Lib.hid (CMem.below_of hb HH_7.out)
  have HRC_8 := Lib.hid (HRC_7.out.below hb)
  have HRD_8 := Lib.hid (HRD_7.out.below hb)
  clear hb HT_7 HR_7 HB_7 HRB_7 HG_7 HH_7 HRC_7 HRD_7
  go_wp2_with fail
  refine (c_marks HR_8.out HM.out (by omega) (by omega)).mono ?_
  rintro e w9 ⟨rfl, hb⟩
  generalize marks M = mm at *
  have HT_9 := Lib.hid (HT_8.out.below hb)
  have HR_9 := Lib.hid (HR_8.out.below hb)
  have HB_9 := Lib.hid (below_step HB_8.out hb)
  have HRB_9 := Lib.hid (HRB_8.out.below hb)
  have HG_9 := Lib.hid (CMem.below_of hb HG_8.out)
  have HH_9 := Lib.hid (CMem.below_of hb HH_8.out)
  have HRC_9 := Lib.hid (HRC_8.out.below hb)
  have HRD_9 := Lib.hid (HRD_8.out.below hb)
  clear hb HT_8 HR_8 HB_8 HRB_8 HG_8 HH_8 HRC_8 HRD_8
  have gg := HG_9.out
  have gh := HH_9.out
  rcases hal with hal | ⟨hal, _⟩
  · subst hal
    go_wp2_with fail
    refine (Q.clewlaw15_fixed.calls true _ HT_9.out rfl).mono ?_
    rintro e w9 ⟨rfl, hb⟩
    go_wp2
    go_ret
    exact ⟨rfl, below_step HB_9.out hb⟩
  · subst hal
    go_wp2_with fail
    refine (Q.clewlaw15_fixed.calls true _ HT_9.out rfl).mono ?_
    rintro e w9 ⟨rfl, hb⟩
    go_wp2
    go_ret
    exact ⟨rfl, below_step HB_9.out hb⟩
set_option maxRecDepth 100000 in
set_option maxHeartbeats 6400000 in
theorem walk_1 (A : Option Addr) (len cap m : Nat) (a n v : Int) (M : List P) (w : World) (hT : Tab w) (hlc : len ≤ cap) (hcm : cap ≤ 9223372036854775807) (ha0 : 0 ≤ a) (ha1 : a ≤ 255) (hn0 : 0 ≤ n) (hn1 : n ≤ 65535)
    (hm6 : m ≤ 60) (hml : m ≤ len) (hmin : ∀ ats ty, Builtin.min_ ats ty #[.int .i64 (len : Int), .int .i64 60] = pure (.int .i64 (m : Int))) (hR : Ro w A M) (hM : M.length = m) (hq : a % 6 = 1) (hv : 1 + n % 500 = v) (hv0 : 1 ≤ v) (hv1 : v ≤ 500) :
    Calls Tryd.prog 4 #[.slice A len cap, .int .u8 a, .int .u16 n] w fun e w' => e = .returned (.bool true) ∧ Below w.heap.size w w' := by
  have HR := Lib.hid hR
  have HT := Lib.hid hT
  have HM := Lib.hid hM
  have HMT : Hid (M.take 60 = M) := Lib.hid (List.take_of_length_le (by omega))
  have HPL : Hid (pl (1, 0) = 1) := by unfold Hid pl; simp [skp] <;> omega
  have HMK : Hid (mk (1, 0) = 0) := by unfold Hid mk; simp
  clear hR hT hM
  go_enter Tryd.func4, Tryd.ntmps4
  go_wp2_with fail
  clear hmin
  refine (c_ref HR.out HM.out (by omega) (by omega) 60).mono ?_
  rintro e w1 ⟨⟨B, d, rfl, hd, hRB⟩, hb⟩
  rw [HMT.out, HM.out] at hd
  rw [HMT.out] at hRB ⊢
  rw [HM.out]
  have HT1 := Lib.hid (HT.out.below hb)
  have HR1 := Lib.hid (HR.out.below hb)
  have HB1 := Lib.hid hb
  have HRB := Lib.hid hRB
  clear hb HT HR hRB
  go_wp2_with fail
  have hb := CMem.below1 w1 (.cells #[.int .i64 1, .int .i64 0] 24)
  have HG := Lib.hid (CMem.blk_cell (p := (0, 0)) (heap_alloc_new w1 (.cells #[.int .i64 1, .int .i64 0] 24)) 0 _ rfl)
  have HH := Lib.hid (CMem.blk_cell (p := (0, 0)) (heap_alloc_new w1 (.cells #[.int .i64 1, .int .i64 0] 24)) 1 _ rfl)
  have HT2 := Lib.hid (HT1.out.below hb)
  have HR2 := Lib.hid (HR1.out.below hb)
  have HB2 := Lib.hid (below_step HB1.out hb)
  have HRB2 := Lib.hid (HRB.out.below hb)
  clear hb HT1 HR1 HB1 HRB
  generalize hW : w1.alloc (.cells #[.int .i64 1, .int .i64 0] 24) = w2 at *
  clear hW
  generalize hqb : w1.heap.size = qb at *
  clear hqb hq hv
  refine (c_add HR2.out HM.out (by omega) (by omega) 1 0).mono ?_
  rintro e w3 ⟨⟨C, dc, rfl, hdc, hRC⟩, hb⟩
  have HT_3 := Lib.hid (HT2.out.below hb)
  have HR_3 := Lib.hid (HR2.out.below hb)
  have HB_3 := Lib.hid (below_step HB2.out hb)
  have HRB_3 := Lib.hid (HRB2.out.below hb)
  have HG_3 := Lib.hid (CMem.below_of hb HG.out)
  have HH_3 := Lib.hid (CMem.below_of hb HH.out)
  clear hb HT2 HR2 HB2 HRB2 HG HH
  have HRC_3 := Lib.hid hRC
  clear hRC
  have hal := add_length M (1, 0)
  have HAM := Lib.hid (add_marks M (1, 0))
  have HAP := Lib.hid (add_places M (1, 0))
  have hp1 := places_le M
  have hm1 := marks_le M
  rw [HM.out] at hal hp1 hm1
  rw [HPL.out] at HAP
  rw [HMK.out] at HAM
  generalize add M (1, 0) = N at *
  obtain ⟨x, hx⟩ : ∃ x, N.length = x := ⟨_, rfl⟩
  rw [hx] at hal hdc ⊢
  have HX := Lib.hid hx
  clear hx
  have gg := HG_3.out
  have gh := HH_3.out
  go_wp2_with fail
  refine (c_ref HR_3.out HM.out (by omega) (by omega) 60).mono ?_
  rintro e w4 ⟨⟨D, dd, rfl, hdd, hRD⟩, hb⟩
  rw [HMT.out, HM.out] at hdd
  rw [HMT.out] at hRD ⊢
  rw [HM.out]
  clear gg gh
  have HT_4 := Lib.hid (HT_3.out.below hb)
  have HR_4 := Lib.hid (HR_3.out.below hb)
  have HB_4 := Lib.hid (below_step HB_3.out hb)
  have HRB_4 := Lib.hid (HRB_3.out.below hb)
  have HG_4 := Lib.hid (CMem.below_of hb HG_3.out)
  have HH_4 := Lib.hid (CMem.below_of hb HH_3.out)
  have HRC_4 := Lib.hid (HRC_3.out.below hb)
  clear hb HT_3 HR_3 HB_3 HRB_3 HG_3 HH_3 HRC_3
  have HRD_4 := Lib.hid hRD
  clear hRD
  go_wp2_with fail
  refine (c_same HRD_4.out HRB_4.out HM.out (by omega) hdd HM.out (by omega) hd).mono ?_
  rintro e w5 ⟨rfl, hb⟩
  rw [decide_eq_true rfl]
  have HT_5 := Lib.hid (HT_4.out.below hb)
  have HR_5 := Lib.hid (HR_4.out.below hb)
  have HB_5 := Lib.hid (below_step HB_4.out hb)
  have HRB_5 := Lib.hid (HRB_4.out.below hb)
  have HG_5 := Lib.hid (CMem.below_of hb HG_4.out)
  have HH_5 := Lib.hid (CMem.below_of hb HH_4.out)
  have HRC_5 := Lib.hid (HRC_4.out.below hb)
  have HRD_5 := Lib.hid (HRD_4.out.below hb)
  clear hb HT_4 HR_4 HB_4 HRB_4 HG_4 HH_4 HRC_4 HRD_4
  go_wp2_with fail
  refine (c_places HRC_5.out HX.out (by omega) (by omega)).mono ?_
  rintro e w6 ⟨rfl, hb⟩
  rw [HAP.out]
  have HT_6 := Lib.hid (HT_5.out.below hb)
  have HR_6 := Lib.hid (HR_5.out.below hb)
  have HB_6 := Lib.hid (below_step HB_5.out hb)
  have HRB_6 := Lib.hid (HRB_5.out.below hb)
  have HG_6 := Lib.hid (CMem.below_of hb HG_5.out)
  have HH_6 := Lib.hid (CMem.below_of hb HH_5.out)
  have HRC_6 := Lib.hid (HRC_5.out.below hb)
  have HRD_6 := Lib.hid (HRD_5.out.below hb)
  clear hb HT_5 HR_5 HB_5 HRB_5 HG_5 HH_5 HRC_5 HRD_5
  go_wp2_with fail
  refine (c_places HR_6.out HM.out (by omega) (by omega)).mono ?_
  rintro e w7 ⟨rfl, hb⟩
  generalize places M = pm at *
  have HT_7 := Lib.hid (HT_6.out.below hb)
  have HR_7 := Lib.hid (HR_6.out.below hb)
  have HB_7 := Lib.hid (below_step HB_6.out hb)
  have HRB_7 := Lib.hid (HRB_6.out.below hb)
  have HG_7 := Lib.hid (CMem.below_of hb HG_6.out)
  have HH_7 := Lib.hid (CMem.below_of hb HH_6.out)
  have HRC_7 := Lib.hid (HRC_6.out.below hb)
  have HRD_7 := Lib.hid (HRD_6.out.below hb)
  clear hb HT_6 HR_6 HB_6 HRB_6 HG_6 HH_6 HRC_6 HRD_6
  go_wp2_with fail
  refine (c_marks HRC_7.out HX.out (by omega) (by omega)).mono ?_
  rintro e w8 ⟨rfl, hb⟩
  rw [HAM.out]
  have HT_8 := Lib.hid (HT_7.out.below hb)
  have HR_8 := Lib.hid (HR_7.out.below hb)
  have HB_8 := Lib.hid (below_step HB_7.out hb)
  have HRB_8 := Lib.hid (HRB_7.out.below hb)
  have HG_8 := Lib.hid (CMem.below_of hb HG_7.out)
  have HH_8 := Lib.hid (CMem.below_of hb HH_7.out)
  have HRC_8 := Lib.hid (HRC_7.out.below hb)
  have HRD_8 := Lib.hid (HRD_7.out.below hb)
  clear hb HT_7 HR_7 HB_7 HRB_7 HG_7 HH_7 HRC_7 HRD_7
  go_wp2_with fail
  refine (c_marks HR_8.out HM.out (by omega) (by omega)).mono ?_
  rintro e w9 ⟨rfl, hb⟩
  generalize marks M = mm at *
  have HT_9 := Lib.hid (HT_8.out.below hb)
  have HR_9 := Lib.hid (HR_8.out.below hb)
  have HB_9 := Lib.hid (below_step HB_8.out hb)
  have HRB_9 := Lib.hid (HRB_8.out.below hb)
  have HG_9 := Lib.hid (CMem.below_of hb HG_8.out)
  have HH_9 := Lib.hid (CMem.below_of hb HH_8.out)
  have HRC_9 := Lib.hid (HRC_8.out.below hb)
  have HRD_9 := Lib.hid (HRD_8.out.below hb)
  clear hb HT_8 HR_8 HB_8 HRB_8 HG_8 HH_8 HRC_8 HRD_8
  have gg := HG_9.out
  have gh := HH_9.out
  rcases hal with hal | ⟨_, hal⟩
  · subst hal
    go_wp2_with fail
    refine (Q.clewlaw15_fixed.calls true _ HT_9.out rfl).mono ?_
    rintro e w9 ⟨rfl, hb⟩
    go_wp2
    go_ret
    exact ⟨rfl, below_step HB_9.out hb⟩
  · exact absurd hal (by decide)
set_option maxRecDepth 100000 in
set_option maxHeartbeats 6400000 in
theorem walk_2 (A : Option Addr) (len cap m : Nat) (a n v : Int) (M : List P) (w : World) (hT : Tab w) (hlc : len ≤ cap) (hcm : cap ≤ 9223372036854775807) (ha0 : 0 ≤ a) (ha1 : a ≤ 255) (hn0 : 0 ≤ n) (hn1 : n ≤ 65535)
    (hm6 : m ≤ 60) (hml : m ≤ len) (hmin : ∀ ats ty, Builtin.min_ ats ty #[.int .i64 (len : Int), .int .i64 60] = pure (.int .i64 (m : Int))) (hR : Ro w A M) (hM : M.length = m) (hq : a % 6 = 2) (hv : 1 + n % 500 = v) (hv0 : 1 ≤ v) (hv1 : v ≤ 500) :
    Calls Tryd.prog 4 #[.slice A len cap, .int .u8 a, .int .u16 n] w fun e w' => e = .returned (.bool true) ∧ Below w.heap.size w w' := by
  have HR := Lib.hid hR
  have HT := Lib.hid hT
  have HM := Lib.hid hM
  have HMT : Hid (M.take 60 = M) := Lib.hid (List.take_of_length_le (by omega))
  have HPL : Hid (pl (2, 0) = 0) := by unfold Hid pl; simp [skp] <;> omega
  have HMK : Hid (mk (2, 0) = 0) := by unfold Hid mk; simp
  clear hR hT hM
  go_enter Tryd.func4, Tryd.ntmps4
  go_wp2_with fail
  clear hmin
  refine (c_ref HR.out HM.out (by omega) (by omega) 60).mono ?_
  rintro e w1 ⟨⟨B, d, rfl, hd, hRB⟩, hb⟩
  rw [HMT.out, HM.out] at hd
  rw [HMT.out] at hRB ⊢
  rw [HM.out]
  have HT1 := Lib.hid (HT.out.below hb)
  have HR1 := Lib.hid (HR.out.below hb)
  have HB1 := Lib.hid hb
  have HRB := Lib.hid hRB
  clear hb HT HR hRB
  go_wp2_with fail
  have hb := CMem.below1 w1 (.cells #[.int .i64 2, .int .i64 0] 24)
  have HG := Lib.hid (CMem.blk_cell (p := (0, 0)) (heap_alloc_new w1 (.cells #[.int .i64 2, .int .i64 0] 24)) 0 _ rfl)
  have HH := Lib.hid (CMem.blk_cell (p := (0, 0)) (heap_alloc_new w1 (.cells #[.int .i64 2, .int .i64 0] 24)) 1 _ rfl)
  have HT2 := Lib.hid (HT1.out.below hb)
  have HR2 := Lib.hid (HR1.out.below hb)
  have HB2 := Lib.hid (below_step HB1.out hb)
  have HRB2 := Lib.hid (HRB.out.below hb)
  clear hb HT1 HR1 HB1 HRB
  generalize hW : w1.alloc (.cells #[.int .i64 2, .int .i64 0] 24) = w2 at *
  clear hW
  generalize hqb : w1.heap.size = qb at *
  clear hqb hq hv
  refine (c_add HR2.out HM.out (by omega) (by omega) 2 0).mono ?_
  rintro e w3 ⟨⟨C, dc, rfl, hdc, hRC⟩, hb⟩
  have HT_3 := Lib.hid (HT2.out.below hb)
  have HR_3 := Lib.hid (HR2.out.below hb)
  have HB_3 := Lib.hid (below_step HB2.out hb)
  have HRB_3 := Lib.hid (HRB2.out.below hb)
  have HG_3 := Lib.hid (CMem.below_of hb HG.out)
  have HH_3 := Lib.hid (CMem.below_of hb HH.out)
  clear hb HT2 HR2 HB2 HRB2 HG HH
  have HRC_3 := Lib.hid hRC
  clear hRC
  have hal := add_length M (2, 0)
  have HAM := Lib.hid (add_marks M (2, 0))
  have HAP := Lib.hid (add_places M (2, 0))
  have hp1 := places_le M
  have hm1 := marks_le M
  rw [HM.out] at hal hp1 hm1
  rw [HPL.out] at HAP
  rw [HMK.out] at HAM
  generalize add M (2, 0) = N at *
  obtain ⟨x, hx⟩ : ∃ x, N.length = x := ⟨_, rfl⟩
  rw [hx] at hal hdc ⊢
  have HX := Lib.hid hx
  clear hx
  have gg := HG_3.out
  have gh := HH_3.out
  go_wp2_with fail
  refine (c_ref HR_3.out HM.out (by omega) (by omega) 60).mono ?_
  rintro e w4 ⟨⟨D, dd, rfl, hdd, hRD⟩, hb⟩
  rw [HMT.out, HM.out] at hdd
  rw [HMT.out] at hRD ⊢
  rw [HM.out]
  clear gg gh
  have HT_4 := Lib.hid (HT_3.out.below hb)
  have HR_4 := Lib.hid (HR_3.out.below hb)
  have HB_4 := Lib.hid (below_step HB_3.out hb)
  have HRB_4 := Lib.hid (HRB_3.out.below hb)
  have HG_4 := Lib.hid (CMem.below_of hb HG_3.out)
  have HH_4 := Lib.hid (CMem.below_of hb HH_3.out)
  have HRC_4 := Lib.hid (HRC_3.out.below hb)
  clear hb HT_3 HR_3 HB_3 HRB_3 HG_3 HH_3 HRC_3
  have HRD_4 := Lib.hid hRD
  clear hRD
  go_wp2_with fail
  refine (c_same HRD_4.out HRB_4.out HM.out (by omega) hdd HM.out (by omega) hd).mono ?_
  rintro e w5 ⟨rfl, hb⟩
  rw [decide_eq_true rfl]
  have HT_5 := Lib.hid (HT_4.out.below hb)
  have HR_5 := Lib.hid (HR_4.out.below hb)
  have HB_5 := Lib.hid (below_step HB_4.out hb)
  have HRB_5 := Lib.hid (HRB_4.out.below hb)
  have HG_5 := Lib.hid (CMem.below_of hb HG_4.out)
  have HH_5 := Lib.hid (CMem.below_of hb HH_4.out)
  have HRC_5 := Lib.hid (HRC_4.out.below hb)
  have HRD_5 := Lib.hid (HRD_4.out.below hb)
  clear hb HT_4 HR_4 HB_4 HRB_4 HG_4 HH_4 HRC_4 HRD_4
  go_wp2_with fail
  refine (c_places HRC_5.out HX.out (by omega) (by omega)).mono ?_
  rintro e w6 ⟨rfl, hb⟩
  rw [HAP.out]
  have HT_6 := Lib.hid (HT_5.out.below hb)
  have HR_6 := Lib.hid (HR_5.out.below hb)
  have HB_6 := Lib.hid (below_step HB_5.out hb)
  have HRB_6 := Lib.hid (HRB_5.out.below hb)
  have HG_6 := Lib.hid (CMem.below_of hb HG_5.out)
  have HH_6 := Lib.hid (CMem.below_of hb HH_5.out)
  have HRC_6 := Lib.hid (HRC_5.out.below hb)
  have HRD_6 := Lib.hid (HRD_5.out.below hb)
  clear hb HT_5 HR_5 HB_5 HRB_5 HG_5 HH_5 HRC_5 HRD_5
  go_wp2_with fail
  refine (c_places HR_6.out HM.out (by omega) (by omega)).mono ?_
  rintro e w7 ⟨rfl, hb⟩
  generalize places M = pm at *
  have HT_7 := Lib.hid (HT_6.out.below hb)
  have HR_7 := Lib.hid (HR_6.out.below hb)
  have HB_7 := Lib.hid (below_step HB_6.out hb)
  have HRB_7 := Lib.hid (HRB_6.out.below hb)
  have HG_7 := Lib.hid (CMem.below_of hb HG_6.out)
  have HH_7 := Lib.hid (CMem.below_of hb HH_6.out)
  have HRC_7 := Lib.hid (HRC_6.out.below hb)
  have HRD_7 := Lib.hid (HRD_6.out.below hb)
  clear hb HT_6 HR_6 HB_6 HRB_6 HG_6 HH_6 HRC_6 HRD_6
  go_wp2_with fail
  refine (c_marks HRC_7.out HX.out (by omega) (by omega)).mono ?_
  rintro e w8 ⟨rfl, hb⟩
  rw [HAM.out]
  have HT_8 := Lib.hid (HT_7.out.below hb)
  have HR_8 := Lib.hid (HR_7.out.below hb)
  have HB_8 := Lib.hid (below_step HB_7.out hb)
  have HRB_8 := Lib.hid (HRB_7.out.below hb)
  have HG_8 := Lib.hid (CMem.below_of hb HG_7.out)
  have HH_8 := Lib.hid (CMem.below_of hb HH_7.out)
  have HRC_8 := Lib.hid (HRC_7.out.below hb)
  have HRD_8 := Lib.hid (HRD_7.out.below hb)
  clear hb HT_7 HR_7 HB_7 HRB_7 HG_7 HH_7 HRC_7 HRD_7
  go_wp2_with fail
  refine (c_marks HR_8.out HM.out (by omega) (by omega)).mono ?_
  rintro e w9 ⟨rfl, hb⟩
  generalize marks M = mm at *
  have HT_9 := Lib.hid (HT_8.out.below hb)
  have HR_9 := Lib.hid (HR_8.out.below hb)
  have HB_9 := Lib.hid (below_step HB_8.out hb)
  have HRB_9 := Lib.hid (HRB_8.out.below hb)
  have HG_9 := Lib.hid (CMem.below_of hb HG_8.out)
  have HH_9 := Lib.hid (CMem.below_of hb HH_8.out)
  have HRC_9 := Lib.hid (HRC_8.out.below hb)
  have HRD_9 := Lib.hid (HRD_8.out.below hb)
  clear hb HT_8 HR_8 HB_8 HRB_8 HG_8 HH_8 HRC_8 HRD_8
  have gg := HG_9.out
  have gh := HH_9.out
  rcases hal with hal | ⟨_, hal⟩
  · subst hal
    go_wp2_with fail
    refine (Q.clewlaw15_fixed.calls true _ HT_9.out rfl).mono ?_
    rintro e w9 ⟨rfl, hb⟩
    go_wp2
    go_ret
    exact ⟨rfl, below_step HB_9.out hb⟩
  · exact absurd hal (by decide)
set_option maxRecDepth 100000 in
set_option maxHeartbeats 6400000 in
theorem walk_3 (A : Option Addr) (len cap m : Nat) (a n v : Int) (M : List P) (w : World) (hT : Tab w) (hlc : len ≤ cap) (hcm : cap ≤ 9223372036854775807) (ha0 : 0 ≤ a) (ha1 : a ≤ 255) (hn0 : 0 ≤ n) (hn1 : n ≤ 65535)
    (hm6 : m ≤ 60) (hml : m ≤ len) (hmin : ∀ ats ty, Builtin.min_ ats ty #[.int .i64 (len : Int), .int .i64 60] = pure (.int .i64 (m : Int))) (hR : Ro w A M) (hM : M.length = m) (hq : a % 6 = 3) (hv : 1 + n % 500 = v) (hv0 : 1 ≤ v) (hv1 : v ≤ 500) :
    Calls Tryd.prog 4 #[.slice A len cap, .int .u8 a, .int .u16 n] w fun e w' => e = .returned (.bool true) ∧ Below w.heap.size w w' := by
  have HR := Lib.hid hR
  have HT := Lib.hid hT
  have HM := Lib.hid hM
  have HMT : Hid (M.take 60 = M) := Lib.hid (List.take_of_length_le (by omega))
  have HPL : Hid (pl (3, 0) = 0) := by unfold Hid pl; simp [skp] <;> omega
  have HMK : Hid (mk (3, 0) = 0) := by unfold Hid mk; simp
  clear hR hT hM
  go_enter Tryd.func4, Tryd.ntmps4
  go_wp2_with fail
  clear hmin
  refine (c_ref HR.out HM.out (by omega) (by omega) 60).mono ?_
  rintro e w1 ⟨⟨B, d, rfl, hd, hRB⟩, hb⟩
  rw [HMT.out, HM.out] at hd
  rw [HMT.out] at hRB ⊢
  rw [HM.out]
  have HT1 := Lib.hid (HT.out.below hb)
  have HR1 := Lib.hid (HR.out.below hb)
  have HB1 := Lib.hid hb
  have HRB := Lib.hid hRB
  clear hb HT HR hRB
  go_wp2_with fail
  have hb := CMem.below1 w1 (.cells #[.int .i64 3, .int .i64 0] 24)
  have HG := Lib.hid (CMem.blk_cell (p := (0, 0)) (heap_alloc_new w1 (.cells #[.int .i64 3, .int .i64 0] 24)) 0 _ rfl)
  have HH := Lib.hid (CMem.blk_cell (p := (0, 0)) (heap_alloc_new w1 (.cells #[.int .i64 3, .int .i64 0] 24)) 1 _ rfl)
  have HT2 := Lib.hid (HT1.out.below hb)
  have HR2 := Lib.hid (HR1.out.below hb)
  have HB2 := Lib.hid (below_step HB1.out hb)
  have HRB2 := Lib.hid (HRB.out.below hb)
  clear hb HT1 HR1 HB1 HRB
  generalize hW : w1.alloc (.cells #[.int .i64 3, .int .i64 0] 24) = w2 at *
  clear hW
  generalize hqb : w1.heap.size = qb at *
  clear hqb hq hv
  refine (c_add HR2.out HM.out (by omega) (by omega) 3 0).mono ?_
  rintro e w3 ⟨⟨C, dc, rfl, hdc, hRC⟩, hb⟩
  have HT_3 := Lib.hid (HT2.out.below hb)
  have HR_3 := Lib.hid (HR2.out.below hb)
  have HB_3 := Lib.hid (below_step HB2.out hb)
  have HRB_3 := Lib.hid (HRB2.out.below hb)
  have HG_3 := Lib.hid (CMem.below_of hb HG.out)
  have HH_3 := Lib.hid (CMem.below_of hb HH.out)
  clear hb HT2 HR2 HB2 HRB2 HG HH
  have HRC_3 := Lib.hid hRC
  clear hRC
  have hal := add_length M (3, 0)
  have HAM := Lib.hid (add_marks M (3, 0))
  have HAP := Lib.hid (add_places M (3, 0))
  have hp1 := places_le M
  have hm1 := marks_le M
  rw [HM.out] at hal hp1 hm1
  rw [HPL.out] at HAP
  rw [HMK.out] at HAM
  generalize add M (3, 0) = N at *
  obtain ⟨x, hx⟩ : ∃ x, N.length = x := ⟨_, rfl⟩
  rw [hx] at hal hdc ⊢
  have HX := Lib.hid hx
  clear hx
  have gg := HG_3.out
  have gh := HH_3.out
  go_wp2_with fail
  refine (c_ref HR_3.out HM.out (by omega) (by omega) 60).mono ?_
  rintro e w4 ⟨⟨D, dd, rfl, hdd, hRD⟩, hb⟩
  rw [HMT.out, HM.out] at hdd
  rw [HMT.out] at hRD ⊢
  rw [HM.out]
  clear gg gh
  have HT_4 := Lib.hid (HT_3.out.below hb)
  have HR_4 := Lib.hid (HR_3.out.below hb)
  have HB_4 := Lib.hid (below_step HB_3.out hb)
  have HRB_4 := Lib.hid (HRB_3.out.below hb)
  have HG_4 := Lib.hid (CMem.below_of hb HG_3.out)
  have HH_4 := Lib.hid (CMem.below_of hb HH_3.out)
  have HRC_4 := Lib.hid (HRC_3.out.below hb)
  clear hb HT_3 HR_3 HB_3 HRB_3 HG_3 HH_3 HRC_3
  have HRD_4 := Lib.hid hRD
  clear hRD
  go_wp2_with fail
  refine (c_same HRD_4.out HRB_4.out HM.out (by omega) hdd HM.out (by omega) hd).mono ?_
  rintro e w5 ⟨rfl, hb⟩
  rw [decide_eq_true rfl]
  have HT_5 := Lib.hid (HT_4.out.below hb)
  have HR_5 := Lib.hid (HR_4.out.below hb)
  have HB_5 := Lib.hid (below_step HB_4.out hb)
  have HRB_5 := Lib.hid (HRB_4.out.below hb)
  have HG_5 := Lib.hid (CMem.below_of hb HG_4.out)
  have HH_5 := Lib.hid (CMem.below_of hb HH_4.out)
  have HRC_5 := Lib.hid (HRC_4.out.below hb)
  have HRD_5 := Lib.hid (HRD_4.out.below hb)
  clear hb HT_4 HR_4 HB_4 HRB_4 HG_4 HH_4 HRC_4 HRD_4
  go_wp2_with fail
  refine (c_places HRC_5.out HX.out (by omega) (by omega)).mono ?_
  rintro e w6 ⟨rfl, hb⟩
  rw [HAP.out]
  have HT_6 := Lib.hid (HT_5.out.below hb)
  have HR_6 := Lib.hid (HR_5.out.below hb)
  have HB_6 := Lib.hid (below_step HB_5.out hb)
  have HRB_6 := Lib.hid (HRB_5.out.below hb)
  have HG_6 := Lib.hid (CMem.below_of hb HG_5.out)
  have HH_6 := Lib.hid (CMem.below_of hb HH_5.out)
  have HRC_6 := Lib.hid (HRC_5.out.below hb)
  have HRD_6 := Lib.hid (HRD_5.out.below hb)
  clear hb HT_5 HR_5 HB_5 HRB_5 HG_5 HH_5 HRC_5 HRD_5
  go_wp2_with fail
  refine (c_places HR_6.out HM.out (by omega) (by omega)).mono ?_
  rintro e w7 ⟨rfl, hb⟩
  generalize places M = pm at *
  have HT_7 := Lib.hid (HT_6.out.below hb)
  have HR_7 := Lib.hid (HR_6.out.below hb)
  have HB_7 := Lib.hid (below_step HB_6.out hb)
  have HRB_7 := Lib.hid (HRB_6.out.below hb)
  have HG_7 := Lib.hid (CMem.below_of hb HG_6.out)
  have HH_7 := Lib.hid (CMem.below_of hb HH_6.out)
  have HRC_7 := Lib.hid (HRC_6.out.below hb)
  have HRD_7 := Lib.hid (HRD_6.out.below hb)
  clear hb HT_6 HR_6 HB_6 HRB_6 HG_6 HH_6 HRC_6 HRD_6
  go_wp2_with fail
  refine (c_marks HRC_7.out HX.out (by omega) (by omega)).mono ?_
  rintro e w8 ⟨rfl, hb⟩
  rw [HAM.out]
  have HT_8 := Lib.hid (HT_7.out.below hb)
  have HR_8 := Lib.hid (HR_7.out.below hb)
  have HB_8 := Lib.hid (below_step HB_7.out hb)
  have HRB_8 := Lib.hid (HRB_7.out.below hb)
  have HG_8 := Lib.hid (CMem.below_of hb HG_7.out)
  have HH_8 := Lib.hid (CMem.below_of hb HH_7.out)
  have HRC_8 := Lib.hid (HRC_7.out.below hb)
  have HRD_8 := Lib.hid (HRD_7.out.below hb)
  clear hb HT_7 HR_7 HB_7 HRB_7 HG_7 HH_7 HRC_7 HRD_7
  go_wp2_with fail
  refine (c_marks HR_8.out HM.out (by omega) (by omega)).mono ?_
  rintro e w9 ⟨rfl, hb⟩
  generalize marks M = mm at *
  have HT_9 := Lib.hid (HT_8.out.below hb)
  have HR_9 := Lib.hid (HR_8.out.below hb)
  have HB_9 := Lib.hid (below_step HB_8.out hb)
  have HRB_9 := Lib.hid (HRB_8.out.below hb)
  have HG_9 := Lib.hid (CMem.below_of hb HG_8.out)
  have HH_9 := Lib.hid (CMem.below_of hb HH_8.out)
  have HRC_9 := Lib.hid (HRC_8.out.below hb)
  have HRD_9 := Lib.hid (HRD_8.out.below hb)
  clear hb HT_8 HR_8 HB_8 HRB_8 HG_8 HH_8 HRC_8 HRD_8
  have gg := HG_9.out
  have gh := HH_9.out
  rcases hal with hal | ⟨_, hal⟩
  · subst hal
    go_wp2_with fail
    refine (Q.clewlaw15_fixed.calls true _ HT_9.out rfl).mono ?_
    rintro e w9 ⟨rfl, hb⟩
    go_wp2
    go_ret
    exact ⟨rfl, below_step HB_9.out hb⟩
  · exact absurd hal (by decide)
set_option maxRecDepth 100000 in
set_option maxHeartbeats 6400000 in
theorem walk_4 (A : Option Addr) (len cap m : Nat) (a n v : Int) (M : List P) (w : World) (hT : Tab w) (hlc : len ≤ cap) (hcm : cap ≤ 9223372036854775807) (ha0 : 0 ≤ a) (ha1 : a ≤ 255) (hn0 : 0 ≤ n) (hn1 : n ≤ 65535)
    (hm6 : m ≤ 60) (hml : m ≤ len) (hmin : ∀ ats ty, Builtin.min_ ats ty #[.int .i64 (len : Int), .int .i64 60] = pure (.int .i64 (m : Int))) (hR : Ro w A M) (hM : M.length = m) (hq : a % 6 = 4) (hv : 1 + n % 500 = v) (hv0 : 1 ≤ v) (hv1 : v ≤ 500) :
    Calls Tryd.prog 4 #[.slice A len cap, .int .u8 a, .int .u16 n] w fun e w' => e = .returned (.bool true) ∧ Below w.heap.size w w' := by
  have HR := Lib.hid hR
  have HT := Lib.hid hT
  have HM := Lib.hid hM
  have HMT : Hid (M.take 60 = M) := Lib.hid (List.take_of_length_le (by omega))
  have HPL : Hid (pl (4, 0) = 0) := by unfold Hid pl; simp [skp] <;> omega
  have HMK : Hid (mk (4, 0) = 1) := by unfold Hid mk; simp
  clear hR hT hM
  go_enter Tryd.func4, Tryd.ntmps4
  go_wp2_with fail
  clear hmin
  refine (c_ref HR.out HM.out (by omega) (by omega) 60).mono ?_
  rintro e w1 ⟨⟨B, d, rfl, hd, hRB⟩, hb⟩
  rw [HMT.out, HM.out] at hd
  rw [HMT.out] at hRB ⊢
  rw [HM.out]
  have HT1 := Lib.hid (HT.out.below hb)
  have HR1 := Lib.hid (HR.out.below hb)
  have HB1 := Lib.hid hb
  have HRB := Lib.hid hRB
  clear hb HT HR hRB
  go_wp2_with fail
  have hb := CMem.below1 w1 (.cells #[.int .i64 4, .int .i64 0] 24)
  have HG := Lib.hid (CMem.blk_cell (p := (0, 0)) (heap_alloc_new w1 (.cells #[.int .i64 4, .int .i64 0] 24)) 0 _ rfl)
  have HH := Lib.hid (CMem.blk_cell (p := (0, 0)) (heap_alloc_new w1 (.cells #[.int .i64 4, .int .i64 0] 24)) 1 _ rfl)
  have HT2 := Lib.hid (HT1.out.below hb)
  have HR2 := Lib.hid (HR1.out.below hb)
  have HB2 := Lib.hid (below_step HB1.out hb)
  have HRB2 := Lib.hid (HRB.out.below hb)
  clear hb HT1 HR1 HB1 HRB
  generalize hW : w1.alloc (.cells #[.int .i64 4, .int .i64 0] 24) = w2 at *
  clear hW
  generalize hqb : w1.heap.size = qb at *
  clear hqb hq hv
  refine (c_add HR2.out HM.out (by omega) (by omega) 4 0).mono ?_
  rintro e w3 ⟨⟨C, dc, rfl, hdc, hRC⟩, hb⟩
  have HT_3 := Lib.hid (HT2.out.below hb)
  have HR_3 := Lib.hid (HR2.out.below hb)
  have HB_3 := Lib.hid (below_step HB2.out hb)
  have HRB_3 := Lib.hid (HRB2.out.below hb)
  have HG_3 := Lib.hid (CMem.below_of hb HG.out)
  have HH_3 := Lib.hid (CMem.below_of hb HH.out)
  clear hb HT2 HR2 HB2 HRB2 HG HH
  have HRC_3 := Lib.hid hRC
  clear hRC
  have hal := add_length M (4, 0)
  have HAM := Lib.hid (add_marks M (4, 0))
  have HAP := Lib.hid (add_places M (4, 0))
  have hp1 := places_le M
  have hm1 := marks_le M
  rw [HM.out] at hal hp1 hm1
  rw [HPL.out] at HAP
  rw [HMK.out] at HAM
  generalize add M (4, 0) = N at *
  obtain ⟨x, hx⟩ : ∃ x, N.length = x := ⟨_, rfl⟩
  rw [hx] at hal hdc ⊢
  have HX := Lib.hid hx
  clear hx
  have gg := HG_3.out
  have gh := HH_3.out
  go_wp2_with fail
  refine (c_ref HR_3.out HM.out (by omega) (by omega) 60).mono ?_
  rintro e w4 ⟨⟨D, dd, rfl, hdd, hRD⟩, hb⟩
  rw [HMT.out, HM.out] at hdd
  rw [HMT.out] at hRD ⊢
  rw [HM.out]
  clear gg gh
  have HT_4 := Lib.hid (HT_3.out.below hb)
  have HR_4 := Lib.hid (HR_3.out.below hb)
  have HB_4 := Lib.hid (below_step HB_3.out hb)
  have HRB_4 := Lib.hid (HRB_3.out.below hb)
  have HG_4 := Lib.hid (CMem.below_of hb HG_3.out)
  have HH_4 := Lib.hid (CMem.below_of hb HH_3.out)
  have HRC_4 := Lib.hid (HRC_3.out.below hb)
  clear hb HT_3 HR_3 HB_3 HRB_3 HG_3 HH_3 HRC_3
  have HRD_4 := Lib.hid hRD
  clear hRD
  go_wp2_with fail
  refine (c_same HRD_4.out HRB_4.out HM.out (by omega) hdd HM.out (by omega) hd).mono ?_
  rintro e w5 ⟨rfl, hb⟩
  rw [decide_eq_true rfl]
  have HT_5 := Lib.hid (HT_4.out.below hb)
  have HR_5 := Lib.hid (HR_4.out.below hb)
  have HB_5 := Lib.hid (below_step HB_4.out hb)
  have HRB_5 := Lib.hid (HRB_4.out.below hb)
  have HG_5 := Lib.hid (CMem.below_of hb HG_4.out)
  have HH_5 := Lib.hid (CMem.below_of hb HH_4.out)
  have HRC_5 := Lib.hid (HRC_4.out.below hb)
  have HRD_5 := Lib.hid (HRD_4.out.below hb)
  clear hb HT_4 HR_4 HB_4 HRB_4 HG_4 HH_4 HRC_4 HRD_4
  go_wp2_with fail
  refine (c_places HRC_5.out HX.out (by omega) (by omega)).mono ?_
  rintro e w6 ⟨rfl, hb⟩
  rw [HAP.out]
  have HT_6 := Lib.hid (HT_5.out.below hb)
  have HR_6 := Lib.hid (HR_5.out.below hb)
  have HB_6 := Lib.hid (below_step HB_5.out hb)
  have HRB_6 := Lib.hid (HRB_5.out.below hb)
  have HG_6 := Lib.hid (CMem.below_of hb HG_5.out)
  have HH_6 := Lib.hid (CMem.below_of hb HH_5.out)
  have HRC_6 := Lib.hid (HRC_5.out.below hb)
  have HRD_6 := Lib.hid (HRD_5.out.below hb)
  clear hb HT_5 HR_5 HB_5 HRB_5 HG_5 HH_5 HRC_5 HRD_5
  go_wp2_with fail
  refine (c_places HR_6.out HM.out (by omega) (by omega)).mono ?_
  rintro e w7 ⟨rfl, hb⟩
  generalize places M = pm at *
  have HT_7 := Lib.hid (HT_6.out.below hb)
  have HR_7 := Lib.hid (HR_6.out.below hb)
  have HB_7 := Lib.hid (below_step HB_6.out hb)
  have HRB_7 := Lib.hid (HRB_6.out.below hb)
  have HG_7 := Lib.hid (CMem.below_of hb HG_6.out)
  have HH_7 := Lib.hid (CMem.below_of hb HH_6.out)
  have HRC_7 := Lib.hid (HRC_6.out.below hb)
  have HRD_7 := Lib.hid (HRD_6.out.below hb)
  clear hb HT_6 HR_6 HB_6 HRB_6 HG_6 HH_6 HRC_6 HRD_6
  go_wp2_with fail
  refine (c_marks HRC_7.out HX.out (by omega) (by omega)).mono ?_
  rintro e w8 ⟨rfl, hb⟩
  rw [HAM.out]
  have HT_8 := Lib.hid (HT_7.out.below hb)
  have HR_8 := Lib.hid (HR_7.out.below hb)
  have HB_8 := Lib.hid (below_step HB_7.out hb)
  have HRB_8 := Lib.hid (HRB_7.out.below hb)
  have HG_8 := Lib.hid (CMem.below_of hb HG_7.out)
  have HH_8 := Lib.hid (CMem.below_of hb HH_7.out)
  have HRC_8 := Lib.hid (HRC_7.out.below hb)
  have HRD_8 := Lib.hid (HRD_7.out.below hb)
  clear hb HT_7 HR_7 HB_7 HRB_7 HG_7 HH_7 HRC_7 HRD_7
  go_wp2_with fail
  refine (c_marks HR_8.out HM.out (by omega) (by omega)).mono ?_
  rintro e w9 ⟨rfl, hb⟩
  generalize marks M = mm at *
  have HT_9 := Lib.hid (HT_8.out.below hb)
  have HR_9 := Lib.hid (HR_8.out.below hb)
  have HB_9 := Lib.hid (below_step HB_8.out hb)
  have HRB_9 := Lib.hid (HRB_8.out.below hb)
  have HG_9 := Lib.hid (CMem.below_of hb HG_8.out)
  have HH_9 := Lib.hid (CMem.below_of hb HH_8.out)
  have HRC_9 := Lib.hid (HRC_8.out.below hb)
  have HRD_9 := Lib.hid (HRD_8.out.below hb)
  clear hb HT_8 HR_8 HB_8 HRB_8 HG_8 HH_8 HRC_8 HRD_8
  have gg := HG_9.out
  have gh := HH_9.out
  rcases hal with hal | ⟨_, hal⟩
  · subst hal
    go_wp2_with fail
    refine (Q.clewlaw15_fixed.calls true _ HT_9.out rfl).mono ?_
    rintro e w9 ⟨rfl, hb⟩
    go_wp2
    go_ret
    exact ⟨rfl, below_step HB_9.out hb⟩
  · exact absurd hal (by decide)
set_option maxRecDepth 100000 in
set_option maxHeartbeats 6400000 in
theorem walk_5 (A : Option Addr) (len cap m : Nat) (a n v : Int) (M : List P) (w : World) (hT : Tab w) (hlc : len ≤ cap) (hcm : cap ≤ 9223372036854775807) (ha0 : 0 ≤ a) (ha1 : a ≤ 255) (hn0 : 0 ≤ n) (hn1 : n ≤ 65535)
    (hm6 : m ≤ 60) (hml : m ≤ len) (hmin : ∀ ats ty, Builtin.min_ ats ty #[.int .i64 (len : Int), .int .i64 60] = pure (.int .i64 (m : Int))) (hR : Ro w A M) (hM : M.length = m) (hq : a % 6 = 5) (hv : 1 + n % 500 = v) (hv0 : 1 ≤ v) (hv1 : v ≤ 500) :
    Calls Tryd.prog 4 #[.slice A len cap, .int .u8 a, .int .u16 n] w fun e w' => e = .returned (.bool true) ∧ Below w.heap.size w w' := by
  have HR := Lib.hid hR
  have HT := Lib.hid hT
  have HM := Lib.hid hM
  have HMT : Hid (M.take 60 = M) := Lib.hid (List.take_of_length_le (by omega))
  have HPL : Hid (pl (5, v) = 0) := by unfold Hid pl; simp [skp] <;> omega
  have HMK : Hid (mk (5, v) = 0) := by unfold Hid mk; simp
  clear hR hT hM
  go_enter Tryd.func4, Tryd.ntmps4
  go_wp2_with fail
  clear hmin
  refine (c_ref HR.out HM.out (by omega) (by omega) 60).mono ?_
  rintro e w1 ⟨⟨B, d, rfl, hd, hRB⟩, hb⟩
  rw [HMT.out, HM.out] at hd
  rw [HMT.out] at hRB ⊢
  rw [HM.out]
  have HT1 := Lib.hid (HT.out.below hb)
  have HR1 := Lib.hid (HR.out.below hb)
  have HB1 := Lib.hid hb
  have HRB := Lib.hid hRB
  clear hb HT HR hRB
  go_wp2_with fail
  have hb := CMem.below1 w1 (.cells #[.int .i64 5, .int .i64 v] 24)
  have HG := Lib.hid (CMem.blk_cell (p := (0, 0)) (heap_alloc_new w1 (.cells #[.int .i64 5, .int .i64 v] 24)) 0 _ rfl)
  have HH := Lib.hid (CMem.blk_cell (p := (0, 0)) (heap_alloc_new w1 (.cells #[.int .i64 5, .int .i64 v] 24)) 1 _ rfl)
  have HT2 := Lib.hid (HT1.out.below hb)
  have HR2 := Lib.hid (HR1.out.below hb)
  have HB2 := Lib.hid (below_step HB1.out hb)
  have HRB2 := Lib.hid (HRB.out.below hb)
  clear hb HT1 HR1 HB1 HRB
  generalize hW : w1.alloc (.cells #[.int .i64 5, .int .i64 v] 24) = w2 at *
  clear hW
  generalize hqb : w1.heap.size = qb at *
  clear hqb hq hv
  refine (c_add HR2.out HM.out (by omega) (by omega) 5 v).mono ?_
  rintro e w3 ⟨⟨C, dc, rfl, hdc, hRC⟩, hb⟩
  have HT_3 := Lib.hid (HT2.out.below hb)
  have HR_3 := Lib.hid (HR2.out.below hb)
  have HB_3 := Lib.hid (below_step HB2.out hb)
  have HRB_3 := Lib.hid (HRB2.out.below hb)
  have HG_3 := Lib.hid (CMem.below_of hb HG.out)
  have HH_3 := Lib.hid (CMem.below_of hb HH.out)
  clear hb HT2 HR2 HB2 HRB2 HG HH
  have HRC_3 := Lib.hid hRC
  clear hRC
  have hal := add_length M (5, v)
  have HAM := Lib.hid (add_marks M (5, v))
  have HAP := Lib.hid (add_places M (5, v))
  have hp1 := places_le M
  have hm1 := marks_le M
  rw [HM.out] at hal hp1 hm1
  rw [HPL.out] at HAP
  rw [HMK.out] at HAM
  generalize add M (5, v) = N at *
  obtain ⟨x, hx⟩ : ∃ x, N.length = x := ⟨_, rfl⟩
  rw [hx] at hal hdc ⊢
  have HX := Lib.hid hx
  clear hx
  have gg := HG_3.out
  have gh := HH_3.out
  go_wp2_with fail
  refine (c_ref HR_3.out HM.out (by omega) (by omega) 60).mono ?_
  rintro e w4 ⟨⟨D, dd, rfl, hdd, hRD⟩, hb⟩
  rw [HMT.out, HM.out] at hdd
  rw [HMT.out] at hRD ⊢
  rw [HM.out]
  clear gg gh
  have HT_4 := Lib.hid (HT_3.out.below hb)
  have HR_4 := Lib.hid (HR_3.out.below hb)
  have HB_4 := Lib.hid (below_step HB_3.out hb)
  have HRB_4 := Lib.hid (HRB_3.out.below hb)
  have HG_4 := Lib.hid (CMem.below_of hb HG_3.out)
  have HH_4 := Lib.hid (CMem.below_of hb HH_3.out)
  have HRC_4 := Lib.hid (HRC_3.out.below hb)
  clear hb HT_3 HR_3 HB_3 HRB_3 HG_3 HH_3 HRC_3
  have HRD_4 := Lib.hid hRD
  clear hRD
  go_wp2_with fail
  refine (c_same HRD_4.out HRB_4.out HM.out (by omega) hdd HM.out (by omega) hd).mono ?_
  rintro e w5 ⟨rfl, hb⟩
  rw [decide_eq_true rfl]
  have HT_5 := Lib.hid (HT_4.out.below hb)
  have HR_5 := Lib.hid (HR_4.out.below hb)
  have HB_5 := Lib.hid (below_step HB_4.out hb)
  have HRB_5 := Lib.hid (HRB_4.out.below hb)
  have HG_5 := Lib.hid (CMem.below_of hb HG_4.out)
  have HH_5 := Lib.hid (CMem.below_of hb HH_4.out)
  have HRC_5 := Lib.hid (HRC_4.out.below hb)
  have HRD_5 := Lib.hid (HRD_4.out.below hb)
  clear hb HT_4 HR_4 HB_4 HRB_4 HG_4 HH_4 HRC_4 HRD_4
  go_wp2_with fail
  refine (c_places HRC_5.out HX.out (by omega) (by omega)).mono ?_
  rintro e w6 ⟨rfl, hb⟩
  rw [HAP.out]
  have HT_6 := Lib.hid (HT_5.out.below hb)
  have HR_6 := Lib.hid (HR_5.out.below hb)
  have HB_6 := Lib.hid (below_step HB_5.out hb)
  have HRB_6 := Lib.hid (HRB_5.out.below hb)
  have HG_6 := Lib.hid (CMem.below_of hb HG_5.out)
  have HH_6 := Lib.hid (CMem.below_of hb HH_5.out)
  have HRC_6 := Lib.hid (HRC_5.out.below hb)
  have HRD_6 := Lib.hid (HRD_5.out.below hb)
  clear hb HT_5 HR_5 HB_5 HRB_5 HG_5 HH_5 HRC_5 HRD_5
  go_wp2_with fail
  refine (c_places HR_6.out HM.out (by omega) (by omega)).mono ?_
  rintro e w7 ⟨rfl, hb⟩
  generalize places M = pm at *
  have HT_7 := Lib.hid (HT_6.out.below hb)
  have HR_7 := Lib.hid (HR_6.out.below hb)
  have HB_7 := Lib.hid (below_step HB_6.out hb)
  have HRB_7 := Lib.hid (HRB_6.out.below hb)
  have HG_7 := Lib.hid (CMem.below_of hb HG_6.out)
  have HH_7 := Lib.hid (CMem.below_of hb HH_6.out)
  have HRC_7 := Lib.hid (HRC_6.out.below hb)
  have HRD_7 := Lib.hid (HRD_6.out.below hb)
  clear hb HT_6 HR_6 HB_6 HRB_6 HG_6 HH_6 HRC_6 HRD_6
  go_wp2_with fail
  refine (c_marks HRC_7.out HX.out (by omega) (by omega)).mono ?_
  rintro e w8 ⟨rfl, hb⟩
  rw [HAM.out]
  have HT_8 := Lib.hid (HT_7.out.below hb)
  have HR_8 := Lib.hid (HR_7.out.below hb)
  have HB_8 := Lib.hid (below_step HB_7.out hb)
  have HRB_8 := Lib.hid (HRB_7.out.below hb)
  have HG_8 := Lib.hid (CMem.below_of hb HG_7.out)
  have HH_8 := Lib.hid (CMem.below_of hb HH_7.out)
  have HRC_8 := Lib.hid (HRC_7.out.below hb)
  have HRD_8 := Lib.hid (HRD_7.out.below hb)
  clear hb HT_7 HR_7 HB_7 HRB_7 HG_7 HH_7 HRC_7 HRD_7
  go_wp2_with fail
  refine (c_marks HR_8.out HM.out (by omega) (by omega)).mono ?_
  rintro e w9 ⟨rfl, hb⟩
  generalize marks M = mm at *
  have HT_9 := Lib.hid (HT_8.out.below hb)
  have HR_9 := Lib.hid (HR_8.out.below hb)
  have HB_9 := Lib.hid (below_step HB_8.out hb)
  have HRB_9 := Lib.hid (HRB_8.out.below hb)
  have HG_9 := Lib.hid (CMem.below_of hb HG_8.out)
  have HH_9 := Lib.hid (CMem.below_of hb HH_8.out)
  have HRC_9 := Lib.hid (HRC_8.out.below hb)
  have HRD_9 := Lib.hid (HRD_8.out.below hb)
  clear hb HT_8 HR_8 HB_8 HRB_8 HG_8 HH_8 HRC_8 HRD_8
  have gg := HG_9.out
  have gh := HH_9.out
  rcases hal with hal | ⟨_, hal⟩
  · subst hal
    go_wp2_with fail
    refine (Q.clewlaw15_fixed.calls true _ HT_9.out rfl).mono ?_
    rintro e w9 ⟨rfl, hb⟩
    go_wp2
    go_ret
    exact ⟨rfl, below_step HB_9.out hb⟩
  · exact absurd hal (by decide)
theorem u8_of {a : Int} (h : (Lit.int .u8 a).wf = true) : 0 ≤ a ∧ a ≤ 255 := by
  simp [Lit.wf, IntKind.min, IntKind.max, IntKind.signed, IntKind.bits] at h
  omega
theorem u16_of {a : Int} (h : (Lit.int .u16 a).wf = true) : 0 ≤ a ∧ a ≤ 65535 := by
  simp [Lit.wf, IntKind.min, IntKind.max, IntKind.signed, IntKind.bits] at h
  omega
theorem certAdds_row (A : Option Addr) (len cap : Nat) (L : List P) (a n : Int) (w : World) (hT : Tab w) (hA : TkArg w A len cap L) (ha : (Lit.int .u8 a).wf = true) (hn : (Lit.int .u16 n).wf = true) :
    Calls Tryd.prog 4 #[.slice A len cap, .int .u8 a, .int .u16 n] w fun e w' => e = .returned (.bool true) ∧ Below w.heap.size w w' := by
  obtain ⟨hl, hlc, hcm, hno, hI, hRo⟩ := hA
  unfold maxLen at hcm
  obtain ⟨m, hm6, hml, hmin⟩ := min_fact len
  have hR : Ro w A (L.take m) := Ro.take hRo m
  have hM : (L.take m).length = m := by rw [List.length_take]; omega
  obtain ⟨a0, a1⟩ := u8_of ha
  obtain ⟨n0, n1⟩ := u16_of hn
  have hq : a % 6 = 0 ∨ a % 6 = 1 ∨ a % 6 = 2 ∨ a % 6 = 3 ∨ a % 6 = 4 ∨ a % 6 = 5 := by omega
  rcases hq with hq | hq | hq | hq | hq | hq
  · exact walk_0 A len cap m a n _ (L.take m) w hT hlc hcm a0 a1 n0 n1 hm6 hml hmin hR hM hq rfl (by omega) (by omega)
  · exact walk_1 A len cap m a n _ (L.take m) w hT hlc hcm a0 a1 n0 n1 hm6 hml hmin hR hM hq rfl (by omega) (by omega)
  · exact walk_2 A len cap m a n _ (L.take m) w hT hlc hcm a0 a1 n0 n1 hm6 hml hmin hR hM hq rfl (by omega) (by omega)
  · exact walk_3 A len cap m a n _ (L.take m) w hT hlc hcm a0 a1 n0 n1 hm6 hml hmin hR hM hq rfl (by omega) (by omega)
  · exact walk_4 A len cap m a n _ (L.take m) w hT hlc hcm a0 a1 n0 n1 hm6 hml hmin hR hM hq rfl (by omega) (by omega)
  · exact walk_5 A len cap m a n _ (L.take m) w hT hlc hcm a0 a1 n0 n1 hm6 hml hmin hR hM hq rfl (by omega) (by omega)
end Go.Proofs.YtdlgceepanegdaaDoor.LCertAdds
