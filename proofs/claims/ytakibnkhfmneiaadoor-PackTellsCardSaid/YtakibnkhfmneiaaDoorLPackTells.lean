/- PackTells: its walk. -/
import Derived.Test.YtakibnkhfmneiaaDoorZ1
namespace Go.Proofs.YtakibnkhfmneiaaDoor.LPackTells
open Go.RowKit CMem HShow HAppd HAppC HSpec HCon HArg WMath BMath CEq WEq PSpec PDec PEnc PCon PFix PArg Q Go.Proofs.YtakibnkhfmneiaaDoorW.PrintWords Go.Proofs.YtakibnkhfmneiaaDoorW.PrintLast Go.Proofs.YtakibnkhfmneiaaDoorW.PrintMore
set_option linter.unusedVariables false
set_option linter.unusedSimpArgs false
set_option maxRecDepth 100000 in
set_option maxHeartbeats 6400000 in
theorem walk (A : Option Addr) (len cap m : Nat) (M : List P) (s t : ByteArray) (k : Nat) (w : World) (hT : HOn.Tab w) (hlc : len ≤ cap) (hcm : cap ≤ 9223372036854775807)
    (hm6 : m ≤ 60) (hml : m ≤ len) (hmin : ∀ ats ty, Builtin.min_ ats ty #[.int .i64 (len : Int), .int .i64 60] = pure (.int .i64 (m : Int))) (hR : Ro w A M) (hM : M.length = m)
    (hk3 : k ≤ 300) (hks : k ≤ s.size) (hs : s.size ≤ 9223372036854775807) (hmin' : ∀ ats ty, Builtin.min_ ats ty #[.int .i64 (s.size : Int), .int .i64 300] = pure (.int .i64 (k : Int))) (ht : s.extract 0 k = t) :
    Calls Tryd.prog 3 #[.slice A len cap, .string s] w fun e w' => e = .returned (.bool true) ∧ Below w.heap.size w w' := by
  have hts : t.size ≤ 300 := by rw [← ht]; simp; omega
  have HTS := Lib.hid hts
  obtain ⟨L1, x1⟩ : List P × Nat := dec t
  obtain ⟨p1, hp1⟩ : ∃ p, dec t = p := ⟨_, rfl⟩
  obtain ⟨p2, hp2⟩ : ∃ p, dec (sealB t) = p := ⟨_, rfl⟩
  have hl1 := dec_len t
  have hl2 := dec_len (sealB t)
  have hss := sealB_size t
  rw [hp1] at hl1
  rw [hp2] at hl2
  clear L1 x1
  obtain ⟨L1, x1⟩ := p1
  obtain ⟨L2, x2⟩ := p2
  obtain ⟨n1, hn1⟩ : ∃ n, L1.length = n := ⟨_, rfl⟩
  obtain ⟨n2, hn2⟩ : ∃ n, L2.length = n := ⟨_, rfl⟩
  obtain ⟨y1, hy1⟩ : ∃ y : Int, (x1 : Int) = y := ⟨_, rfl⟩
  obtain ⟨y2, hy2⟩ : ∃ y : Int, (x2 : Int) = y := ⟨_, rfl⟩
  simp only [] at hl1 hl2
  have hn1k : n1 ≤ 300 := by omega
  have hn2k : n2 ≤ 303 := by omega
  have HP1 := Lib.hid hp1
  have HP2 := Lib.hid hp2
  have HN1 := Lib.hid hn1
  have HN2 := Lib.hid hn2
  have HY1 := Lib.hid hy1
  have HY2 := Lib.hid hy2
  have HSS : Hid ((sealB t).size ≤ 1000) := by unfold Hid; omega
  have HT1 : Hid (L1.take 1000 = L1) := Lib.hid (List.take_of_length_le (by omega))
  have HT2 : Hid (L2.take 1000 = L2) := Lib.hid (List.take_of_length_le (by omega))
  have HMT : Hid (M.take 60 = M) := Lib.hid (List.take_of_length_le (by omega))
  have HR := Lib.hid hR
  have HT := Lib.hid hT
  have HM := Lib.hid hM
  obtain ⟨u, hu⟩ : ∃ u, sealB t = u := ⟨_, rfl⟩
  rw [hu] at HP2 HSS
  have HU := Lib.hid hu
  clear hR hT hM hp1 hp2 hn1 hn2 hy1 hy2 hl1 hl2 hss hts hu
  go_enter Tryd.func3, Tryd.ntmps3
  go_wp2_with fail
  clear hmin hmin' ht
  have HB := Lib.hid (Below.refl w.heap.size w)
  refine (c_dec (by have := HTS.out; omega) HP1.out HN1.out HY1.out HT.out).mono ?_
  rintro e w2 ⟨⟨B1, dB1, rfl, hdB1, hB1⟩, hb⟩
  have HT_2 := Lib.hid (HT.out.below hb)
  have HB_2 := Lib.hid (below_step HB.out hb)
  have HR_2 := Lib.hid (HR.out.below hb)
  clear hb HT HB HR
  have HB1_2 := Lib.hid hB1
  clear hB1
  go_wp2_with fail
  refine (r_dec (by have := HTS.out; omega) HP1.out HN1.out HY1.out _).mono ?_
  rintro e w3 ⟨⟨B2, dB2, rfl, hdB2, hB2⟩, hb⟩
  have HT_3 := Lib.hid (HT_2.out.below hb)
  have HB_3 := Lib.hid (below_step HB_2.out hb)
  have HR_3 := Lib.hid (HR_2.out.below hb)
  have HB1_3 := Lib.hid (HB1_2.out.below hb)
  clear hb HT_2 HB_2 HR_2 HB1_2
  have HB2_3 := Lib.hid hB2
  clear hB2
  go_wp2_with fail
  refine (k_seal _ (by have := HTS.out; omega) _ HT_3.out).mono ?_
  rintro e w4 ⟨rfl, hb⟩
  rw [HU.out]
  have HT_4 := Lib.hid (HT_3.out.below hb)
  have HB_4 := Lib.hid (below_step HB_3.out hb)
  have HR_4 := Lib.hid (HR_3.out.below hb)
  have HB1_4 := Lib.hid (HB1_3.out.below hb)
  have HB2_4 := Lib.hid (HB2_3.out.below hb)
  clear hb HT_3 HB_3 HR_3 HB1_3 HB2_3
  go_wp2_with fail
  refine (c_dec HSS.out HP2.out HN2.out HY2.out HT_4.out).mono ?_
  rintro e w5 ⟨⟨B3, dB3, rfl, hdB3, hB3⟩, hb⟩
  have HT_5 := Lib.hid (HT_4.out.below hb)
  have HB_5 := Lib.hid (below_step HB_4.out hb)
  have HR_5 := Lib.hid (HR_4.out.below hb)
  have HB1_5 := Lib.hid (HB1_4.out.below hb)
  have HB2_5 := Lib.hid (HB2_4.out.below hb)
  clear hb HT_4 HB_4 HR_4 HB1_4 HB2_4
  have HB3_5 := Lib.hid hB3
  clear hB3
  go_wp2_with fail
  refine (r_dec HSS.out HP2.out HN2.out HY2.out _).mono ?_
  rintro e w6 ⟨⟨B4, dB4, rfl, hdB4, hB4⟩, hb⟩
  have HT_6 := Lib.hid (HT_5.out.below hb)
  have HB_6 := Lib.hid (below_step HB_5.out hb)
  have HR_6 := Lib.hid (HR_5.out.below hb)
  have HB1_6 := Lib.hid (HB1_5.out.below hb)
  have HB2_6 := Lib.hid (HB2_5.out.below hb)
  have HB3_6 := Lib.hid (HB3_5.out.below hb)
  clear hb HT_5 HB_5 HR_5 HB1_5 HB2_5 HB3_5
  have HB4_6 := Lib.hid hB4
  clear hB4
  go_wp2_with fail
  refine (c_encode HT_6.out HR_6.out HM.out (by omega) (by omega) hcm).mono ?_
  rintro e w7 ⟨rfl, hb⟩
  have HT_7 := Lib.hid (HT_6.out.below hb)
  have HB_7 := Lib.hid (below_step HB_6.out hb)
  have HR_7 := Lib.hid (HR_6.out.below hb)
  have HB1_7 := Lib.hid (HB1_6.out.below hb)
  have HB2_7 := Lib.hid (HB2_6.out.below hb)
  have HB3_7 := Lib.hid (HB3_6.out.below hb)
  have HB4_7 := Lib.hid (HB4_6.out.below hb)
  clear hb HT_6 HB_6 HR_6 HB1_6 HB2_6 HB3_6 HB4_6
  go_wp2_with fail
  refine (c_ref_eq HR_7.out HM.out (by omega) (by omega) 60 HMT.out HM.out).mono ?_
  rintro e w8 ⟨⟨B5, dB5, rfl, hdB5, hB5⟩, hb⟩
  have HT_8 := Lib.hid (HT_7.out.below hb)
  have HB_8 := Lib.hid (below_step HB_7.out hb)
  have HR_8 := Lib.hid (HR_7.out.below hb)
  have HB1_8 := Lib.hid (HB1_7.out.below hb)
  have HB2_8 := Lib.hid (HB2_7.out.below hb)
  have HB3_8 := Lib.hid (HB3_7.out.below hb)
  have HB4_8 := Lib.hid (HB4_7.out.below hb)
  clear hb HT_7 HB_7 HR_7 HB1_7 HB2_7 HB3_7 HB4_7
  have HB5_8 := Lib.hid hB5
  clear hB5
  go_wp2_with fail
  refine (r_encode HB5_8.out HM.out (by omega) hdB5).mono ?_
  rintro e w9 ⟨rfl, hb⟩
  have HT_9 := Lib.hid (HT_8.out.below hb)
  have HB_9 := Lib.hid (below_step HB_8.out hb)
  have HR_9 := Lib.hid (HR_8.out.below hb)
  have HB1_9 := Lib.hid (HB1_8.out.below hb)
  have HB2_9 := Lib.hid (HB2_8.out.below hb)
  have HB3_9 := Lib.hid (HB3_8.out.below hb)
  have HB4_9 := Lib.hid (HB4_8.out.below hb)
  have HB5_9 := Lib.hid (HB5_8.out.below hb)
  clear hb HT_8 HB_8 HR_8 HB1_8 HB2_8 HB3_8 HB4_8 HB5_8
  go_wp2_with fail
  refine (c_ref_eq HB1_9.out HN1.out (by omega) hdB1 1000 HT1.out HN1.out).mono ?_
  rintro e w10 ⟨⟨B6, dB6, rfl, hdB6, hB6⟩, hb⟩
  have HT_10 := Lib.hid (HT_9.out.below hb)
  have HB_10 := Lib.hid (below_step HB_9.out hb)
  have HR_10 := Lib.hid (HR_9.out.below hb)
  have HB1_10 := Lib.hid (HB1_9.out.below hb)
  have HB2_10 := Lib.hid (HB2_9.out.below hb)
  have HB3_10 := Lib.hid (HB3_9.out.below hb)
  have HB4_10 := Lib.hid (HB4_9.out.below hb)
  have HB5_10 := Lib.hid (HB5_9.out.below hb)
  clear hb HT_9 HB_9 HR_9 HB1_9 HB2_9 HB3_9 HB4_9 HB5_9
  have HB6_10 := Lib.hid hB6
  clear hB6
  go_wp2_with fail
  refine (c_same HB6_10.out HB2_10.out HN1.out (by omega) hdB6 HN1.out (by omega) hdB2).mono ?_
  rintro e w11 ⟨rfl, hb⟩
  rw [decide_eq_true rfl]
  have HT_11 := Lib.hid (HT_10.out.below hb)
  have HB_11 := Lib.hid (below_step HB_10.out hb)
  have HR_11 := Lib.hid (HR_10.out.below hb)
  have HB1_11 := Lib.hid (HB1_10.out.below hb)
  have HB2_11 := Lib.hid (HB2_10.out.below hb)
  have HB3_11 := Lib.hid (HB3_10.out.below hb)
  have HB4_11 := Lib.hid (HB4_10.out.below hb)
  have HB5_11 := Lib.hid (HB5_10.out.below hb)
  have HB6_11 := Lib.hid (HB6_10.out.below hb)
  clear hb HT_10 HB_10 HR_10 HB1_10 HB2_10 HB3_10 HB4_10 HB5_10 HB6_10
  go_wp2_with fail
  refine (c_ref_eq HB3_11.out HN2.out (by omega) hdB3 1000 HT2.out HN2.out).mono ?_
  rintro e w12 ⟨⟨B7, dB7, rfl, hdB7, hB7⟩, hb⟩
  have HT_12 := Lib.hid (HT_11.out.below hb)
  have HB_12 := Lib.hid (below_step HB_11.out hb)
  have HR_12 := Lib.hid (HR_11.out.below hb)
  have HB1_12 := Lib.hid (HB1_11.out.below hb)
  have HB2_12 := Lib.hid (HB2_11.out.below hb)
  have HB3_12 := Lib.hid (HB3_11.out.below hb)
  have HB4_12 := Lib.hid (HB4_11.out.below hb)
  have HB5_12 := Lib.hid (HB5_11.out.below hb)
  have HB6_12 := Lib.hid (HB6_11.out.below hb)
  clear hb HT_11 HB_11 HR_11 HB1_11 HB2_11 HB3_11 HB4_11 HB5_11 HB6_11
  have HB7_12 := Lib.hid hB7
  clear hB7
  go_wp2_with fail
  refine (c_same HB7_12.out HB4_12.out HN2.out (by omega) hdB7 HN2.out (by omega) hdB4).mono ?_
  rintro e w13 ⟨rfl, hb⟩
  rw [decide_eq_true rfl]
  have HT_13 := Lib.hid (HT_12.out.below hb)
  have HB_13 := Lib.hid (below_step HB_12.out hb)
  have HR_13 := Lib.hid (HR_12.out.below hb)
  have HB1_13 := Lib.hid (HB1_12.out.below hb)
  have HB2_13 := Lib.hid (HB2_12.out.below hb)
  have HB3_13 := Lib.hid (HB3_12.out.below hb)
  have HB4_13 := Lib.hid (HB4_12.out.below hb)
  have HB5_13 := Lib.hid (HB5_12.out.below hb)
  have HB6_13 := Lib.hid (HB6_12.out.below hb)
  have HB7_13 := Lib.hid (HB7_12.out.below hb)
  clear hb HT_12 HB_12 HR_12 HB1_12 HB2_12 HB3_12 HB4_12 HB5_12 HB6_12 HB7_12
  go_wp2_with fail
  refine (fixed_walk _ HT_13.out).mono ?_
  rintro e w99 ⟨rfl, hb⟩
  go_wp2
  go_ret
  exact ⟨rfl, below_step HB_13.out hb⟩
theorem packTells_row (A : Option Addr) (len cap : Nat) (L : List P) (s : ByteArray) (w : World) (hT : HOn.Tab w) (hA : TkArg w A len cap L) (hs : s.size ≤ 140737488351232) :
    Calls Tryd.prog 3 #[.slice A len cap, .string s] w fun e w' => e = .returned (.bool true) ∧ Below w.heap.size w w' := by
  obtain ⟨hl, hlc, hcm, hno, hI, hRo⟩ := hA
  unfold maxLen at hcm
  obtain ⟨m, hm6, hml, hmin⟩ := min_fact len
  obtain ⟨k, hk3, hks, hmin'⟩ := min_300 s.size
  exact walk A len cap m (L.take m) s (s.extract 0 k) k w hT hlc hcm hm6 hml hmin (Ro.take hRo m) (by rw [List.length_take]; omega) hk3 hks (by omega) hmin' rfl
end Go.Proofs.YtakibnkhfmneiaaDoor.LPackTells
