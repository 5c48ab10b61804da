/- PackBack: its walk. -/
import Derived.Test.YtakibnkhfmneiaaDoorZ1
namespace Go.Proofs.YtakibnkhfmneiaaDoor.LPackBack
open Go.RowKit CMem HShow HAppd HAppC HSpec HCon HArg WMath BMath CEq WEq PSpec PDec PEnc PCon PFix PArg Q Go.Proofs.YtakibnkhfmneiaaDoorW.PrintWords Go.Proofs.YtakibnkhfmneiaaDoorW.PrintLast Go.Proofs.YtakibnkhfmneiaaDoorW.PrintMore
set_option linter.unusedVariables false
set_option linter.unusedSimpArgs false
theorem nonempty {s : ByteArray} (h : 0 < s.size) : (s.toList == []) = false ∧ (s.toList != []) = true := by
  have : s.toList ≠ [] := fun e => by
    rw [toList_nil] at e
    have : s.size = 0 := by rw [← bl_length, e]; rfl
    omega
  simp [this]
theorem row_cap {w : World} {b n d : Nat} {B : Option Addr} {L : List P} (h : Kd.R k43 43 w b (fun _ => True) (.slice B n d) (T L)) : d ≤ 9223372036854775807 := by
  obtain ⟨_, inner, ho, _⟩ := h
  rcases ho.2 with ⟨q2, _⟩ | ⟨g, cap, cur, q2, _, _, _, q6, _, _⟩
  · simp only [Value.slice.injEq] at q2
    omega
  · simp only [Value.slice.injEq] at q2
    unfold maxLen at q6
    omega
theorem c_dec' {s : ByteArray} (hs : s.size ≤ 1000) {L : List P} {n x : Nat} {y : Int} (hd : dec s = (L, x)) (hn : L.length = n) (hy : (x : Int) = y) {w : World} (hT : HOn.Tab w) : Calls Tryd.prog 7 #[.string s] w fun e w' =>
    (∃ B d, e = .returned (.tuple #[.slice B n d, .int .i64 y]) ∧ (n ≤ d ∧ d ≤ 9223372036854775807) ∧ Ro w' B L) ∧ Below w.heap.size w w' := by
  refine (pack_Decode.calls 2001 s _ _ w hT (dec_eq s hs)).mono ?_
  rintro e w' ⟨v, rfl, hr, hb⟩
  rw [hd] at hr ⊢
  simp only [] at hr ⊢
  obtain ⟨B, d, rfl, h1, h2⟩ := row_T hr
  have h3 := row_cap hr
  rw [hn] at h1 ⊢
  rw [hy]
  exact ⟨⟨B, d, rfl, ⟨h1, h3⟩, h2⟩, hb⟩
set_option maxRecDepth 100000 in
set_option maxHeartbeats 6400000 in
theorem walk_no_bad (A : Option Addr) (len cap m : Nat) (M : List P) (s t u : ByteArray) (k n1 x1 : Nat) (y1 : Int) (L1 : List P) (w : World) (hT : HOn.Tab w) (hlc : len ≤ cap) (hcm : cap ≤ 9223372036854775807)
    (hm6 : m ≤ 60) (hml : m ≤ len) (hmin : ∀ ats ty, Builtin.min_ ats ty #[.int .i64 (len : Int), .int .i64 60] = pure (.int .i64 (m : Int))) (hR : Ro w A M) (hM : M.length = m)
    (hk3 : k ≤ 300) (hks : k ≤ s.size) (hs : s.size ≤ 9223372036854775807) (hmin' : ∀ ats ty, Builtin.min_ ats ty #[.int .i64 (s.size : Int), .int .i64 300] = pure (.int .i64 (k : Int))) (ht : s.extract 0 k = t)
    (hr : right M = false) (hu : enc M = ⟨#[]⟩) (hd : dec t = (L1, x1)) (hy : (x1 : Int) = y1) (hn1 : L1.length = n1) (hx : x1 ≠ 0) :
    Calls Tryd.prog 4 #[.slice A len cap, .string s] w fun e w' => e = .returned (.bool true) ∧ Below w.heap.size w w' := by
  have hts : t.size ≤ 300 := by rw [← ht]; simp; omega
  have hl1 := dec_len t
  rw [hd] at hl1
  simp only [] at hl1
  have hn1k : n1 ≤ 300 := by omega
  have HTS := Lib.hid hts
  have HD := Lib.hid hd
  have HN1 := Lib.hid hn1
  have HU := Lib.hid hu
  have HRM := Lib.hid hr
  have HR := Lib.hid hR
  have HT := Lib.hid hT
  have HM := Lib.hid hM
  have HMT : Hid (M.take 60 = M) := Lib.hid (List.take_of_length_le (by omega))
  have hnil := dec_nil (s := t) (by rw [hd]; exact hx)
  rw [hd] at hnil
  simp only [] at hnil
  obtain rfl : n1 = 0 := by rw [← hn1, hnil]; rfl
  have zy : (y1 != 0) = true := by simp; omega
  have HY := Lib.hid hy
  clear hnil hx hy
  clear hR hT hM hd hn1 hu hr hts hl1
  go_enter Tryd.func4, Tryd.ntmps4
  go_wp2_with fail
  clear hmin hmin' ht
  have HB := Lib.hid (Below.refl w.heap.size w)
  refine (c_encode HT.out HR.out HM.out (by omega) (by omega) hcm).mono ?_
  rintro e w2 ⟨rfl, hb⟩
  rw [HU.out]
  have HT_2 := Lib.hid (HT.out.below hb)
  have HB_2 := Lib.hid (below_step HB.out hb)
  have HR_2 := Lib.hid (HR.out.below hb)
  clear hb HT HB HR
  go_wp2_with fail
  refine (c_right HR_2.out HM.out (by omega) (by omega)).mono ?_
  rintro e w3 ⟨rfl, hb⟩
  rw [HRM.out]
  have HT_3 := Lib.hid (HT_2.out.below hb)
  have HB_3 := Lib.hid (below_step HB_2.out hb)
  have HR_3 := Lib.hid (HR_2.out.below hb)
  clear hb HT_2 HB_2 HR_2
  go_wp2_with fail
  refine (c_dec' (by have := HTS.out; omega) HD.out HN1.out HY.out HT_3.out).mono ?_
  rintro e w4 ⟨⟨B4, dB4, rfl, ⟨hdB4, hdC4⟩, hB4⟩, hb⟩
  have HT_4 := Lib.hid (HT_3.out.below hb)
  have HB_4 := Lib.hid (below_step HB_3.out hb)
  have HR_4 := Lib.hid (HR_3.out.below hb)
  clear hb HT_3 HB_3 HR_3
  have HB4_4 := Lib.hid hB4
  clear hB4
  go_wp2_with fail
  refine (fixed_walk _ HT_4.out).mono ?_
  rintro e w99 ⟨rfl, hb⟩
  go_wp2
  go_ret
  exact ⟨rfl, below_step HB_4.out hb⟩
set_option maxRecDepth 100000 in
set_option maxHeartbeats 6400000 in
theorem walk_no_ok (A : Option Addr) (len cap m : Nat) (M : List P) (s t u : ByteArray) (k n1 x1 : Nat) (y1 : Int) (L1 : List P) (w : World) (hT : HOn.Tab w) (hlc : len ≤ cap) (hcm : cap ≤ 9223372036854775807)
    (hm6 : m ≤ 60) (hml : m ≤ len) (hmin : ∀ ats ty, Builtin.min_ ats ty #[.int .i64 (len : Int), .int .i64 60] = pure (.int .i64 (m : Int))) (hR : Ro w A M) (hM : M.length = m)
    (hk3 : k ≤ 300) (hks : k ≤ s.size) (hs : s.size ≤ 9223372036854775807) (hmin' : ∀ ats ty, Builtin.min_ ats ty #[.int .i64 (s.size : Int), .int .i64 300] = pure (.int .i64 (k : Int))) (ht : s.extract 0 k = t)
    (hr : right M = false) (hu : enc M = ⟨#[]⟩) (hd : dec t = (L1, x1)) (hy : (x1 : Int) = y1) (hn1 : L1.length = n1) (hx : x1 = 0) :
    Calls Tryd.prog 4 #[.slice A len cap, .string s] w fun e w' => e = .returned (.bool true) ∧ Below w.heap.size w w' := by
  have hts : t.size ≤ 300 := by rw [← ht]; simp; omega
  have hl1 := dec_len t
  rw [hd] at hl1
  simp only [] at hl1
  have hn1k : n1 ≤ 300 := by omega
  have HTS := Lib.hid hts
  have HD := Lib.hid hd
  have HN1 := Lib.hid hn1
  have HU := Lib.hid hu
  have HRM := Lib.hid hr
  have HR := Lib.hid hR
  have HT := Lib.hid hT
  have HM := Lib.hid hM
  have HMT : Hid (M.take 60 = M) := Lib.hid (List.take_of_length_le (by omega))
  have hed := enc_dec (s := t) (by rw [hd]; exact hx)
  rw [hd] at hed
  have HE1 := Lib.hid hed.1
  have HE2 := Lib.hid hed.2
  have et : (t.toList == t.toList) = true := by simp
  obtain rfl : y1 = 0 := by omega
  have HY := Lib.hid hy
  clear hed hx hy
  clear hR hT hM hd hn1 hu hr hts hl1
  go_enter Tryd.func4, Tryd.ntmps4
  go_wp2_with fail
  clear hmin hmin' ht
  have HB := Lib.hid (Below.refl w.heap.size w)
  refine (c_encode HT.out HR.out HM.out (by omega) (by omega) hcm).mono ?_
  rintro e w2 ⟨rfl, hb⟩
  rw [HU.out]
  have HT_2 := Lib.hid (HT.out.below hb)
  have HB_2 := Lib.hid (below_step HB.out hb)
  have HR_2 := Lib.hid (HR.out.below hb)
  clear hb HT HB HR
  go_wp2_with fail
  refine (c_right HR_2.out HM.out (by omega) (by omega)).mono ?_
  rintro e w3 ⟨rfl, hb⟩
  rw [HRM.out]
  have HT_3 := Lib.hid (HT_2.out.below hb)
  have HB_3 := Lib.hid (below_step HB_2.out hb)
  have HR_3 := Lib.hid (HR_2.out.below hb)
  clear hb HT_2 HB_2 HR_2
  go_wp2_with fail
  refine (c_dec' (by have := HTS.out; omega) HD.out HN1.out HY.out HT_3.out).mono ?_
  rintro e w4 ⟨⟨B4, dB4, rfl, ⟨hdB4, hdC4⟩, hB4⟩, hb⟩
  have HT_4 := Lib.hid (HT_3.out.below hb)
  have HB_4 := Lib.hid (below_step HB_3.out hb)
  have HR_4 := Lib.hid (HR_3.out.below hb)
  clear hb HT_3 HB_3 HR_3
  have HB4_4 := Lib.hid hB4
  clear hB4
  go_wp2_with fail
  refine (c_right HB4_4.out HN1.out (by omega) hdB4).mono ?_
  rintro e w5 ⟨rfl, hb⟩
  rw [HE1.out]
  have HT_5 := Lib.hid (HT_4.out.below hb)
  have HB_5 := Lib.hid (below_step HB_4.out hb)
  have HR_5 := Lib.hid (HR_4.out.below hb)
  have HB4_5 := Lib.hid (HB4_4.out.below hb)
  clear hb HT_4 HB_4 HR_4 HB4_4
  go_wp2_with fail
  refine (c_encode HT_5.out HB4_5.out HN1.out (by omega) hdB4 hdC4).mono ?_
  rintro e w6 ⟨rfl, hb⟩
  rw [HE2.out]
  have HT_6 := Lib.hid (HT_5.out.below hb)
  have HB_6 := Lib.hid (below_step HB_5.out hb)
  have HR_6 := Lib.hid (HR_5.out.below hb)
  have HB4_6 := Lib.hid (HB4_5.out.below hb)
  clear hb HT_5 HB_5 HR_5 HB4_5
  go_wp2_with fail
  refine (fixed_walk _ HT_6.out).mono ?_
  rintro e w99 ⟨rfl, hb⟩
  go_wp2
  go_ret
  exact ⟨rfl, below_step HB_6.out hb⟩
set_option maxRecDepth 100000 in
set_option maxHeartbeats 6400000 in
theorem walk_yes_bad (A : Option Addr) (len cap m : Nat) (M : List P) (s t u : ByteArray) (k n1 x1 : Nat) (y1 : Int) (L1 : List P) (w : World) (hT : HOn.Tab w) (hlc : len ≤ cap) (hcm : cap ≤ 9223372036854775807)
    (hm6 : m ≤ 60) (hml : m ≤ len) (hmin : ∀ ats ty, Builtin.min_ ats ty #[.int .i64 (len : Int), .int .i64 60] = pure (.int .i64 (m : Int))) (hR : Ro w A M) (hM : M.length = m)
    (hk3 : k ≤ 300) (hks : k ≤ s.size) (hs : s.size ≤ 9223372036854775807) (hmin' : ∀ ats ty, Builtin.min_ ats ty #[.int .i64 (s.size : Int), .int .i64 300] = pure (.int .i64 (k : Int))) (ht : s.extract 0 k = t)
    (hr : right M = true) (hu : enc M = u) (hd : dec t = (L1, x1)) (hy : (x1 : Int) = y1) (hn1 : L1.length = n1) (hx : x1 ≠ 0) :
    Calls Tryd.prog 4 #[.slice A len cap, .string s] w fun e w' => e = .returned (.bool true) ∧ Below w.heap.size w w' := by
  have hts : t.size ≤ 300 := by rw [← ht]; simp; omega
  have hl1 := dec_len t
  rw [hd] at hl1
  simp only [] at hl1
  have hn1k : n1 ≤ 300 := by omega
  have HTS := Lib.hid hts
  have HD := Lib.hid hd
  have HN1 := Lib.hid hn1
  have HU := Lib.hid hu
  have HRM := Lib.hid hr
  have HR := Lib.hid hR
  have HT := Lib.hid hT
  have HM := Lib.hid hM
  have HMT : Hid (M.take 60 = M) := Lib.hid (List.take_of_length_le (by omega))
  have HUS : Hid (u.size ≤ 1000) := by
    obtain ⟨g1, g2⟩ := right_good hr (by omega)
    have h1 := enc_size hr (by omega)
    have h2 := cat_le g1
    have h3 := put_range (n := M.length) (by omega)
    unfold body at h1
    simp only [List.length_append] at h1
    unfold Hid
    rw [← hu, h1]
    simp [PSpec.mark]
    omega
  have hu0 : 0 < u.size := by rw [← hu, enc_size hr (by omega)]; omega
  have HDU : Hid (dec u = (M, 0)) := by unfold Hid; rw [← hu]; exact dec_enc hr (by omega)
  obtain ⟨z1, z2⟩ := nonempty hu0
  clear hu0
  have hnil := dec_nil (s := t) (by rw [hd]; exact hx)
  rw [hd] at hnil
  simp only [] at hnil
  obtain rfl : n1 = 0 := by rw [← hn1, hnil]; rfl
  have zy : (y1 != 0) = true := by simp; omega
  have HY := Lib.hid hy
  clear hnil hx hy
  clear hR hT hM hd hn1 hu hr hts hl1
  go_enter Tryd.func4, Tryd.ntmps4
  go_wp2_with fail
  clear hmin hmin' ht
  have HB := Lib.hid (Below.refl w.heap.size w)
  refine (c_encode HT.out HR.out HM.out (by omega) (by omega) hcm).mono ?_
  rintro e w2 ⟨rfl, hb⟩
  rw [HU.out]
  have HT_2 := Lib.hid (HT.out.below hb)
  have HB_2 := Lib.hid (below_step HB.out hb)
  have HR_2 := Lib.hid (HR.out.below hb)
  clear hb HT HB HR
  go_wp2_with fail
  refine (c_right HR_2.out HM.out (by omega) (by omega)).mono ?_
  rintro e w3 ⟨rfl, hb⟩
  rw [HRM.out]
  have HT_3 := Lib.hid (HT_2.out.below hb)
  have HB_3 := Lib.hid (below_step HB_2.out hb)
  have HR_3 := Lib.hid (HR_2.out.below hb)
  clear hb HT_2 HB_2 HR_2
  go_wp2_with fail
  refine (c_dec HUS.out HDU.out HM.out (y := 0) rfl HT_3.out).mono ?_
  rintro e w4 ⟨⟨B1, dB1, rfl, hdB1, hB1⟩, hb⟩
  have HT_4 := Lib.hid (HT_3.out.below hb)
  have HB_4 := Lib.hid (below_step HB_3.out hb)
  have HR_4 := Lib.hid (HR_3.out.below hb)
  clear hb HT_3 HB_3 HR_3
  have HB1_4 := Lib.hid hB1
  clear hB1
  go_wp2_with fail
  refine (c_ref_eq HB1_4.out HM.out (by omega) hdB1 60 HMT.out HM.out).mono ?_
  rintro e w5 ⟨⟨B2, dB2, rfl, hdB2, hB2⟩, hb⟩
  have HT_5 := Lib.hid (HT_4.out.below hb)
  have HB_5 := Lib.hid (below_step HB_4.out hb)
  have HR_5 := Lib.hid (HR_4.out.below hb)
  have HB1_5 := Lib.hid (HB1_4.out.below hb)
  clear hb HT_4 HB_4 HR_4 HB1_4
  have HB2_5 := Lib.hid hB2
  clear hB2
  go_wp2_with fail
  refine (c_ref_eq HR_5.out HM.out (by omega) (by omega) 60 HMT.out HM.out).mono ?_
  rintro e w6 ⟨⟨B3, dB3, rfl, hdB3, hB3⟩, hb⟩
  have HT_6 := Lib.hid (HT_5.out.below hb)
  have HB_6 := Lib.hid (below_step HB_5.out hb)
  have HR_6 := Lib.hid (HR_5.out.below hb)
  have HB1_6 := Lib.hid (HB1_5.out.below hb)
  have HB2_6 := Lib.hid (HB2_5.out.below hb)
  clear hb HT_5 HB_5 HR_5 HB1_5 HB2_5
  have HB3_6 := Lib.hid hB3
  clear hB3
  go_wp2_with fail
  refine (c_same HB2_6.out HB3_6.out HM.out (by omega) hdB2 HM.out (by omega) hdB3).mono ?_
  rintro e w7 ⟨rfl, hb⟩
  rw [decide_eq_true rfl]
  have HT_7 := Lib.hid (HT_6.out.below hb)
  have HB_7 := Lib.hid (below_step HB_6.out hb)
  have HR_7 := Lib.hid (HR_6.out.below hb)
  have HB1_7 := Lib.hid (HB1_6.out.below hb)
  have HB2_7 := Lib.hid (HB2_6.out.below hb)
  have HB3_7 := Lib.hid (HB3_6.out.below hb)
  clear hb HT_6 HB_6 HR_6 HB1_6 HB2_6 HB3_6
  go_wp2_with fail
  refine (c_dec' (by have := HTS.out; omega) HD.out HN1.out HY.out HT_7.out).mono ?_
  rintro e w8 ⟨⟨B4, dB4, rfl, ⟨hdB4, hdC4⟩, hB4⟩, hb⟩
  have HT_8 := Lib.hid (HT_7.out.below hb)
  have HB_8 := Lib.hid (below_step HB_7.out hb)
  have HR_8 := Lib.hid (HR_7.out.below hb)
  have HB1_8 := Lib.hid (HB1_7.out.below hb)
  have HB2_8 := Lib.hid (HB2_7.out.below hb)
  have HB3_8 := Lib.hid (HB3_7.out.below hb)
  clear hb HT_7 HB_7 HR_7 HB1_7 HB2_7 HB3_7
  have HB4_8 := Lib.hid hB4
  clear hB4
  go_wp2_with fail
  refine (fixed_walk _ HT_8.out).mono ?_
  rintro e w99 ⟨rfl, hb⟩
  go_wp2
  go_ret
  exact ⟨rfl, below_step HB_8.out hb⟩
set_option maxRecDepth 100000 in
set_option maxHeartbeats 6400000 in
theorem walk_yes_ok (A : Option Addr) (len cap m : Nat) (M : List P) (s t u : ByteArray) (k n1 x1 : Nat) (y1 : Int) (L1 : List P) (w : World) (hT : HOn.Tab w) (hlc : len ≤ cap) (hcm : cap ≤ 9223372036854775807)
    (hm6 : m ≤ 60) (hml : m ≤ len) (hmin : ∀ ats ty, Builtin.min_ ats ty #[.int .i64 (len : Int), .int .i64 60] = pure (.int .i64 (m : Int))) (hR : Ro w A M) (hM : M.length = m)
    (hk3 : k ≤ 300) (hks : k ≤ s.size) (hs : s.size ≤ 9223372036854775807) (hmin' : ∀ ats ty, Builtin.min_ ats ty #[.int .i64 (s.size : Int), .int .i64 300] = pure (.int .i64 (k : Int))) (ht : s.extract 0 k = t)
    (hr : right M = true) (hu : enc M = u) (hd : dec t = (L1, x1)) (hy : (x1 : Int) = y1) (hn1 : L1.length = n1) (hx : x1 = 0) :
    Calls Tryd.prog 4 #[.slice A len cap, .string s] w fun e w' => e = .returned (.bool true) ∧ Below w.heap.size w w' := by
  have hts : t.size ≤ 300 := by rw [← ht]; simp; omega
  have hl1 := dec_len t
  rw [hd] at hl1
  simp only [] at hl1
  have hn1k : n1 ≤ 300 := by omega
  have HTS := Lib.hid hts
  have HD := Lib.hid hd
  have HN1 := Lib.hid hn1
  have HU := Lib.hid hu
  have HRM := Lib.hid hr
  have HR := Lib.hid hR
  have HT := Lib.hid hT
  have HM := Lib.hid hM
  have HMT : Hid (M.take 60 = M) := Lib.hid (List.take_of_length_le (by omega))
  have HUS : Hid (u.size ≤ 1000) := by
    obtain ⟨g1, g2⟩ := right_good hr (by omega)
    have h1 := enc_size hr (by omega)
    have h2 := cat_le g1
    have h3 := put_range (n := M.length) (by omega)
    unfold body at h1
    simp only [List.length_append] at h1
    unfold Hid
    rw [← hu, h1]
    simp [PSpec.mark]
    omega
  have hu0 : 0 < u.size := by rw [← hu, enc_size hr (by omega)]; omega
  have HDU : Hid (dec u = (M, 0)) := by unfold Hid; rw [← hu]; exact dec_enc hr (by omega)
  obtain ⟨z1, z2⟩ := nonempty hu0
  clear hu0
  have hed := enc_dec (s := t) (by rw [hd]; exact hx)
  rw [hd] at hed
  have HE1 := Lib.hid hed.1
  have HE2 := Lib.hid hed.2
  have et : (t.toList == t.toList) = true := by simp
  obtain rfl : y1 = 0 := by omega
  have HY := Lib.hid hy
  clear hed hx hy
  clear hR hT hM hd hn1 hu hr hts hl1
  go_enter Tryd.func4, Tryd.ntmps4
  go_wp2_with fail
  clear hmin hmin' ht
  have HB := Lib.hid (Below.refl w.heap.size w)
  refine (c_encode HT.out HR.out HM.out (by omega) (by omega) hcm).mono ?_
  rintro e w2 ⟨rfl, hb⟩
  rw [HU.out]
  have HT_2 := Lib.hid (HT.out.below hb)
  have HB_2 := Lib.hid (below_step HB.out hb)
  have HR_2 := Lib.hid (HR.out.below hb)
  clear hb HT HB HR
  go_wp2_with fail
  refine (c_right HR_2.out HM.out (by omega) (by omega)).mono ?_
  rintro e w3 ⟨rfl, hb⟩
  rw [HRM.out]
  have HT_3 := Lib.hid (HT_2.out.below hb)
  have HB_3 := Lib.hid (below_step HB_2.out hb)
  have HR_3 := Lib.hid (HR_2.out.below hb)
  clear hb HT_2 HB_2 HR_2
  go_wp2_with fail
  refine (c_dec HUS.out HDU.out HM.out (y := 0) rfl HT_3.out).mono ?_
  rintro e w4 ⟨⟨B1, dB1, rfl, hdB1, hB1⟩, hb⟩
  have HT_4 := Lib.hid (HT_3.out.below hb)
  have HB_4 := Lib.hid (below_step HB_3.out hb)
  have HR_4 := Lib.hid (HR_3.out.below hb)
  clear hb HT_3 HB_3 HR_3
  have HB1_4 := Lib.hid hB1
  clear hB1
  go_wp2_with fail
  refine (c_ref_eq HB1_4.out HM.out (by omega) hdB1 60 HMT.out HM.out).mono ?_
  rintro e w5 ⟨⟨B2, dB2, rfl, hdB2, hB2⟩, hb⟩
  have HT_5 := Lib.hid (HT_4.out.below hb)
  have HB_5 := Lib.hid (below_step HB_4.out hb)
  have HR_5 := Lib.hid (HR_4.out.below hb)
  have HB1_5 := Lib.hid (HB1_4.out.below hb)
  clear hb HT_4 HB_4 HR_4 HB1_4
  have HB2_5 := Lib.hid hB2
  clear hB2
  go_wp2_with fail
  refine (c_ref_eq HR_5.out HM.out (by omega) (by omega) 60 HMT.out HM.out).mono ?_
  rintro e w6 ⟨⟨B3, dB3, rfl, hdB3, hB3⟩, hb⟩
  have HT_6 := Lib.hid (HT_5.out.below hb)
  have HB_6 := Lib.hid (below_step HB_5.out hb)
  have HR_6 := Lib.hid (HR_5.out.below hb)
  have HB1_6 := Lib.hid (HB1_5.out.below hb)
  have HB2_6 := Lib.hid (HB2_5.out.below hb)
  clear hb HT_5 HB_5 HR_5 HB1_5 HB2_5
  have HB3_6 := Lib.hid hB3
  clear hB3
  go_wp2_with fail
  refine (c_same HB2_6.out HB3_6.out HM.out (by omega) hdB2 HM.out (by omega) hdB3).mono ?_
  rintro e w7 ⟨rfl, hb⟩
  rw [decide_eq_true rfl]
  have HT_7 := Lib.hid (HT_6.out.below hb)
  have HB_7 := Lib.hid (below_step HB_6.out hb)
  have HR_7 := Lib.hid (HR_6.out.below hb)
  have HB1_7 := Lib.hid (HB1_6.out.below hb)
  have HB2_7 := Lib.hid (HB2_6.out.below hb)
  have HB3_7 := Lib.hid (HB3_6.out.below hb)
  clear hb HT_6 HB_6 HR_6 HB1_6 HB2_6 HB3_6
  go_wp2_with fail
  refine (c_dec' (by have := HTS.out; omega) HD.out HN1.out HY.out HT_7.out).mono ?_
  rintro e w8 ⟨⟨B4, dB4, rfl, ⟨hdB4, hdC4⟩, hB4⟩, hb⟩
  have HT_8 := Lib.hid (HT_7.out.below hb)
  have HB_8 := Lib.hid (below_step HB_7.out hb)
  have HR_8 := Lib.hid (HR_7.out.below hb)
  have HB1_8 := Lib.hid (HB1_7.out.below hb)
  have HB2_8 := Lib.hid (HB2_7.out.below hb)
  have HB3_8 := Lib.hid (HB3_7.out.below hb)
  clear hb HT_7 HB_7 HR_7 HB1_7 HB2_7 HB3_7
  have HB4_8 := Lib.hid hB4
  clear hB4
  go_wp2_with fail
  refine (c_right HB4_8.out HN1.out (by omega) hdB4).mono ?_
  rintro e w9 ⟨rfl, hb⟩
  rw [HE1.out]
  have HT_9 := Lib.hid (HT_8.out.below hb)
  have HB_9 := Lib.hid (below_step HB_8.out hb)
  have HR_9 := Lib.hid (HR_8.out.below hb)
  have HB1_9 := Lib.hid (HB1_8.out.below hb)
  have HB2_9 := Lib.hid (HB2_8.out.below hb)
  have HB3_9 := Lib.hid (HB3_8.out.below hb)
  have HB4_9 := Lib.hid (HB4_8.out.below hb)
  clear hb HT_8 HB_8 HR_8 HB1_8 HB2_8 HB3_8 HB4_8
  go_wp2_with fail
  refine (c_encode HT_9.out HB4_9.out HN1.out (by omega) hdB4 hdC4).mono ?_
  rintro e w10 ⟨rfl, hb⟩
  rw [HE2.out]
  have HT_10 := Lib.hid (HT_9.out.below hb)
  have HB_10 := Lib.hid (below_step HB_9.out hb)
  have HR_10 := Lib.hid (HR_9.out.below hb)
  have HB1_10 := Lib.hid (HB1_9.out.below hb)
  have HB2_10 := Lib.hid (HB2_9.out.below hb)
  have HB3_10 := Lib.hid (HB3_9.out.below hb)
  have HB4_10 := Lib.hid (HB4_9.out.below hb)
  clear hb HT_9 HB_9 HR_9 HB1_9 HB2_9 HB3_9 HB4_9
  go_wp2_with fail
  refine (fixed_walk _ HT_10.out).mono ?_
  rintro e w99 ⟨rfl, hb⟩
  go_wp2
  go_ret
  exact ⟨rfl, below_step HB_10.out hb⟩
theorem packBack_row (A : Option Addr) (len cap : Nat) (L : List P) (s : ByteArray) (w : World) (hT : HOn.Tab w) (hA : TkArg w A len cap L) (hs : s.size ≤ 140737488351232) :
    Calls Tryd.prog 4 #[.slice A len cap, .string s] w fun e w' => e = .returned (.bool true) ∧ Below w.heap.size w w' := by
  obtain ⟨hl, hlc, hcm, hno, hI, hRo⟩ := hA
  unfold maxLen at hcm
  obtain ⟨m, hm6, hml, hmin⟩ := min_fact len
  obtain ⟨k, hk3, hks, hmin'⟩ := min_300 s.size
  have hM : (L.take m).length = m := by rw [List.length_take]; omega
  obtain ⟨p, hp⟩ : ∃ p, dec (s.extract 0 k) = p := ⟨_, rfl⟩
  obtain ⟨L1, x1⟩ := p
  cases hr : right (L.take m) with
  | false =>
    by_cases hx : x1 = 0
    · exact walk_no_ok A len cap m (L.take m) s _ ⟨#[]⟩ k _ x1 _ L1 w hT hlc hcm hm6 hml hmin (Ro.take hRo m) hM hk3 hks (by omega) hmin' rfl hr ((enc_empty _).2 hr) hp rfl rfl hx
    · exact walk_no_bad A len cap m (L.take m) s _ ⟨#[]⟩ k _ x1 _ L1 w hT hlc hcm hm6 hml hmin (Ro.take hRo m) hM hk3 hks (by omega) hmin' rfl hr ((enc_empty _).2 hr) hp rfl rfl hx
  | true =>
    by_cases hx : x1 = 0
    · exact walk_yes_ok A len cap m (L.take m) s _ _ k _ x1 _ L1 w hT hlc hcm hm6 hml hmin (Ro.take hRo m) hM hk3 hks (by omega) hmin' rfl hr rfl hp rfl rfl hx
    · exact walk_yes_bad A len cap m (L.take m) s _ _ k _ x1 _ L1 w hT hlc hcm hm6 hml hmin (Ro.take hRo m) hM hk3 hks (by omega) hmin' rfl hr rfl hp rfl rfl hx
end Go.Proofs.YtakibnkhfmneiaaDoor.LPackBack
