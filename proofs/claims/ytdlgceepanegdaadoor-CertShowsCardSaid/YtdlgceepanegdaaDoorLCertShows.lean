/- CertShows: its walk. -/
import Derived.Test.YtdlgceepanegdaaDoorHCon
import Derived.Test.YtdlgceepanegdaaDoorHArg
import Derived.Test.YtdlgceepanegdaaDoorLCertAdds
namespace Go.Proofs.YtdlgceepanegdaaDoor.LCertShows
open Go.RowKit HAppd HAppC HShow HSpec HCon HArg Go.Proofs.YtdlgceepanegdaaDoorW.PrintWords Go.Proofs.YtdlgceepanegdaaDoorW.PrintLast Go.Proofs.YtdlgceepanegdaaDoorW.PrintMore
set_option linter.unusedVariables false
set_option linter.unusedSimpArgs false
/-- does a word begin at i? -/
def fl (l : List UInt8) (i : Nat) : Bool := i == 0 || (l.getD (i - 1) 0 == 32)
theorem words_step (l : List UInt8) (i : Nat) (h : i < l.length) : words (l.drop i) (fl l i) = (if fl l i then 1 else 0) + words (l.drop (i + 1)) (fl l (i + 1)) := by
  rw [List.drop_eq_getElem_cons h]
  simp only [words]
  have : fl l (i + 1) = (l[i] == 32) := by
    unfold fl
    rw [show (i + 1 == 0) = false by simp, Bool.false_or, Nat.add_sub_cancel, List.getD_eq_getElem?_getD, List.getElem?_eq_getElem h]
    rfl
  rw [this]
set_option maxRecDepth 100000 in
set_option maxHeartbeats 6400000 in
theorem walk (A B : Option Addr) (len cap len' cap' m n : Nat) (M N : List P) (w : World) (hT : Tab w) (hlc : len ≤ cap) (hcm : cap ≤ 9223372036854775807) (hlc' : len' ≤ cap') (hcm' : cap' ≤ 9223372036854775807)
    (hm6 : m ≤ 60) (hml : m ≤ len) (hmin : ∀ ats ty, Builtin.min_ ats ty #[.int .i64 (len : Int), .int .i64 60] = pure (.int .i64 (m : Int))) (hR : Ro w A M) (hM : M.length = m) (hI : ∀ x ∈ M, -9223372036854775808 ≤ x.2 ∧ x.2 ≤ 9223372036854775807)
    (hn6 : n ≤ 60) (hnl : n ≤ len') (hmin' : ∀ ats ty, Builtin.min_ ats ty #[.int .i64 (len' : Int), .int .i64 60] = pure (.int .i64 (n : Int))) (hR' : Ro w B N) (hN : N.length = n) (hI' : ∀ x ∈ N, -9223372036854775808 ≤ x.2 ∧ x.2 ≤ 9223372036854775807) :
    Calls Tryd.prog 7 #[.slice A len cap, .slice B len' cap'] w fun e w' => e = .returned (.bool true) ∧ Below w.heap.size w w' := by
  have HR := Lib.hid hR
  have HT := Lib.hid hT
  have HM := Lib.hid hM
  have HS := Lib.hid hR'
  have HN := Lib.hid hN
  have HI := Lib.hid hI
  have HI' := Lib.hid hI'
  have HMT : Hid (M.take 60 = M) := Lib.hid (List.take_of_length_le (by omega))
  have HNT : Hid (N.take 60 = N) := Lib.hid (List.take_of_length_le (by omega))
  have hsl := shown_le M hI
  clear hR hT hM hI hR' hN hI'
  go_enter Tryd.func7, Tryd.ntmps7
  go_wp2_with fail
  clear hmin hmin'
  refine (c_show HR.out HT.out HM.out hm6 (by omega) HI.out).mono ?_
  rintro e w1 ⟨rfl, hb⟩
  have HT1 := Lib.hid (HT.out.below hb)
  have HR1 := Lib.hid (HR.out.below hb)
  have HS1 := Lib.hid (HS.out.below hb)
  have HB1 := Lib.hid hb
  clear hb HT HR HS
  obtain ⟨s, hs⟩ : ∃ s : ByteArray, (⟨(shown M).toArray⟩ : ByteArray) = s := ⟨_, rfl⟩
  have HSL : Hid (s.data.toList = shown M) := by unfold Hid; rw [← hs]
  have hsz : s.size ≤ 1380 := by
    have : s.data.toList.length = (shown M).length := by rw [HSL.out]
    rw [Array.length_toList] at this
    have h2 := HM.out
    have : s.size = (shown M).length := this
    omega
  rw [hs]
  clear hs hsl
  go_wp2
  go_loop [6, 7] (fun v t => ∃ (i x : Nat), i ≤ s.size ∧ x ≤ i ∧ v = .int .i64 (x : Nat) ∧ t = .int .i64 (i : Nat) ∧ Hid ((x : Int) + words (s.data.toList.drop i) (fl s.data.toList i) = (m : Nat))) (fun _ t => s.size - (intOf t).toNat)
  case atStart =>
    refine ⟨0, 0, by omega, by omega, rfl, rfl, ?_⟩
    unfold Hid
    rw [HSL.out, show fl (shown M) 0 = true from rfl, List.drop_zero, shown_words, HM.out]
    omega
  case round =>
    obtain ⟨i, x, hi, hx, rfl, rfl, HW⟩ := hrel
    by_cases h : i < s.size
    · have hst := words_step s.data.toList i (by simpa using h)
      have hw := HW.out
      rw [hst] at hw
      rcases Nat.eq_zero_or_pos i with h0 | h0
      · subst h0
        rw [show fl s.data.toList 0 = true from rfl, if_pos rfl] at hw
        have HW2 : Hid (((x + 1 : Nat) : Int) + words (s.data.toList.drop (0 + 1)) (fl s.data.toList (0 + 1)) = (m : Nat)) := by unfold Hid; omega
        clear hw hst HW
        go_wp2
        go_round
        case rel => exact ⟨1, x + 1, by omega, by omega, by go_num, by go_num, HW2⟩
        case measure => simp [intOf]; omega
      · have hk1 : (i : Int) - 1 = ((i - 1 : Nat) : Int) := by omega
        obtain ⟨c, hc⟩ : ∃ c : UInt8, s.data.toList.getD (i - 1) 0 = c := ⟨_, rfl⟩
        have hx1 : ∀ h : i - 1 < s.size, s[i - 1]'h = c := fun h' => by
          rw [← hc, List.getD_eq_getElem?_getD, List.getElem?_eq_getElem (by simpa using h')]
          rfl
        have hfl : fl s.data.toList i = (c == 32) := by
          unfold fl
          rw [hc, show (i == 0) = false by simp; omega, Bool.false_or]
        rw [hfl] at hw
        clear hst hfl hc HW
        by_cases h32 : c = 32
        · subst h32
          rw [show ((32 : UInt8) == 32) = true from rfl, if_pos rfl] at hw
          have HW2 : Hid (((x + 1 : Nat) : Int) + words (s.data.toList.drop (i + 1)) (fl s.data.toList (i + 1)) = (m : Nat)) := by unfold Hid; omega
          clear hw
          go_wp2
          go_round
          case rel => exact ⟨i + 1, x + 1, by omega, by omega, by go_num, by go_num, HW2⟩
          case measure => simp [intOf]; omega
        · rw [show (c == 32) = false by simpa using h32, if_neg (by decide), Int.zero_add] at hw
          have HW2 := Lib.hid hw
          have hc32 : (((c.toNat : Int)) == 32) = false := by
            simp
            intro e
            exact h32 (UInt8.toNat_inj.1 (by simpa using (Int.ofNat.inj e)))
          clear hw h32
          go_wp2
          go_round
          case rel => exact ⟨i + 1, x, by omega, by omega, rfl, by go_num, HW2⟩
          case measure => simp [intOf]; omega
    · obtain rfl : i = s.size := by omega
      have hw := HW.out
      rw [List.drop_of_length_le (by simp)] at hw
      simp only [words, Int.add_zero] at hw
      obtain rfl : x = m := by omega
      clear hw HW
      have HEQ : Hid (right M = true → right N = true → ∀ t : ByteArray, t.data.toList = shown N → (s.toList == t.toList) = decide (M = N)) := by
        intro h1 h2 t ht
        rw [Lib.toList_data, Lib.toList_data, HSL.out, ht]
        by_cases e : M = N
        · subst e; simp
        · rw [decide_eq_false e]
          simp
          exact fun h => e (shown_inj h1 h2 h)
      clear HSL
      go_wp2_with fail
      refine (c_right HR1.out HM.out (by omega) (by omega)).mono ?_
      rintro e w3 ⟨rfl, hb⟩
      have HT_3 := Lib.hid (HT1.out.below hb)
      have HR_3 := Lib.hid (HR1.out.below hb)
      have HS_3 := Lib.hid (HS1.out.below hb)
      have HB_3 := Lib.hid (below_step HB1.out hb)
      clear hb HT1 HR1 HS1 HB1
      cases hr : right M
      · clear hr HEQ
        go_wp2_with fail
        refine (Q.clewlaw15_fixed.calls true _ HT_3.out rfl).mono ?_
        rintro e w9 ⟨rfl, hb⟩
        go_wp2
        go_ret
        exact ⟨rfl, below_step HB_3.out hb⟩
      · have HRM := Lib.hid hr
        clear hr
        go_wp2_with fail
        refine (c_right HS_3.out HN.out (by omega) (by omega)).mono ?_
        rintro e w4 ⟨rfl, hb⟩
        have HT_4 := Lib.hid (HT_3.out.below hb)
        have HR_4 := Lib.hid (HR_3.out.below hb)
        have HS_4 := Lib.hid (HS_3.out.below hb)
        have HB_4 := Lib.hid (below_step HB_3.out hb)
        clear hb HT_3 HR_3 HS_3 HB_3
        cases hr : right N
        · clear hr HEQ
          go_wp2_with fail
          refine (Q.clewlaw15_fixed.calls true _ HT_4.out rfl).mono ?_
          rintro e w9 ⟨rfl, hb⟩
          go_wp2
          go_ret
          exact ⟨rfl, below_step HB_4.out hb⟩
        · have HE := Lib.hid (HEQ.out HRM.out hr)
          clear hr HEQ
          go_wp2_with fail
          refine (c_show HS_4.out HT_4.out HN.out hn6 (by omega) HI'.out).mono ?_
          rintro e w5 ⟨rfl, hb⟩
          obtain ⟨t, ht⟩ : ∃ t : ByteArray, (⟨(shown N).toArray⟩ : ByteArray) = t := ⟨_, rfl⟩
          have he := HE.out t (by rw [← ht])
          rw [ht]
          have HE2 := Lib.hid he
          clear ht he HE
          have HT_5 := Lib.hid (HT_4.out.below hb)
          have HR_5 := Lib.hid (HR_4.out.below hb)
          have HS_5 := Lib.hid (HS_4.out.below hb)
          have HB_5 := Lib.hid (below_step HB_4.out hb)
          clear hb HT_4 HR_4 HS_4 HB_4
          go_wp2_with fail
          refine (c_ref HR_5.out HM.out (by omega) (by omega) 60).mono ?_
          rintro e w6 ⟨⟨D, dd, rfl, hdd, hRD⟩, hb⟩
          rw [HMT.out, HM.out] at hdd
          rw [HMT.out] at hRD ⊢
          rw [HM.out]
          have HT_6 := Lib.hid (HT_5.out.below hb)
          have HR_6 := Lib.hid (HR_5.out.below hb)
          have HS_6 := Lib.hid (HS_5.out.below hb)
          have HB_6 := Lib.hid (below_step HB_5.out hb)
          clear hb HT_5 HR_5 HS_5 HB_5
          have HRD_6 := Lib.hid hRD
          clear hRD
          go_wp2_with fail
          refine (c_ref HS_6.out HN.out (by omega) (by omega) 60).mono ?_
          rintro e w7 ⟨⟨E, de, rfl, hde, hRE⟩, hb⟩
          rw [HNT.out, HN.out] at hde
          rw [HNT.out] at hRE ⊢
          rw [HN.out]
          have HT_7 := Lib.hid (HT_6.out.below hb)
          have HR_7 := Lib.hid (HR_6.out.below hb)
          have HS_7 := Lib.hid (HS_6.out.below hb)
          have HB_7 := Lib.hid (below_step HB_6.out hb)
          have HRD_7 := Lib.hid (HRD_6.out.below hb)
          clear hb HT_6 HR_6 HS_6 HB_6 HRD_6
          have HRE_7 := Lib.hid hRE
          clear hRE
          go_wp2_with fail
          refine (c_same HRD_7.out HRE_7.out HM.out (by omega) hdd HN.out (by omega) hde).mono ?_
          rintro e w8 ⟨rfl, hb⟩
          have HT_8 := Lib.hid (HT_7.out.below hb)
          have HR_8 := Lib.hid (HR_7.out.below hb)
          have HS_8 := Lib.hid (HS_7.out.below hb)
          have HB_8 := Lib.hid (below_step HB_7.out hb)
          have HRD_8 := Lib.hid (HRD_7.out.below hb)
          have HRE_8 := Lib.hid (HRE_7.out.below hb)
          clear hb HT_7 HR_7 HS_7 HB_7 HRD_7 HRE_7
          have he := HE2.out
          generalize decide (M = N) = bb at *
          cases bb
          · go_wp2_with fail
            refine (Q.clewlaw15_fixed.calls true _ HT_8.out rfl).mono ?_
            rintro e w9 ⟨rfl, hb⟩
            go_wp2
            go_ret
            exact ⟨rfl, below_step HB_8.out hb⟩
          · go_wp2_with fail
            refine (Q.clewlaw15_fixed.calls true _ HT_8.out rfl).mono ?_
            rintro e w9 ⟨rfl, hb⟩
            go_wp2
            go_ret
            exact ⟨rfl, below_step HB_8.out hb⟩
theorem certShows_row (A : Option Addr) (len cap : Nat) (L : List P) (B : Option Addr) (len' cap' : Nat) (L' : List P) (w : World) (hT : Tab w) (hA : TkArg w A len cap L) (hA' : TkArg w B len' cap' L') :
    Calls Tryd.prog 7 #[.slice A len cap, .slice B len' cap'] w fun e w' => e = .returned (.bool true) ∧ Below w.heap.size w w' := by
  obtain ⟨hl, hlc, hcm, hno, hI, hRo⟩ := hA
  obtain ⟨hl', hlc', hcm', hno', hI', hRo'⟩ := hA'
  unfold maxLen at hcm hcm'
  obtain ⟨m, hm6, hml, hmin⟩ := LCertAdds.min_fact len
  obtain ⟨n, hn6, hnl, hmin'⟩ := LCertAdds.min_fact len'
  exact walk A B len cap len' cap' m n (L.take m) (L'.take n) w hT hlc hcm hlc' hcm' hm6 hml hmin (Ro.take hRo m) (by rw [List.length_take]; omega) (fun x hx => (hI x (List.mem_of_mem_take hx)).2)
    hn6 hnl hmin' (Ro.take hRo' n) (by rw [List.length_take]; omega) (fun x hx => (hI' x (List.mem_of_mem_take hx)).2)
end Go.Proofs.YtdlgceepanegdaaDoor.LCertShows
