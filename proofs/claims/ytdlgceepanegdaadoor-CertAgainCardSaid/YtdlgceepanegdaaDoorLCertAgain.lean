/- CertAgain: its walk. -/
import Derived.Test.YtdlgceepanegdaaDoorHCon
import Derived.Test.YtdlgceepanegdaaDoorHArg
import Derived.Test.YtdlgceepanegdaaDoorLCertAdds
namespace Go.Proofs.YtdlgceepanegdaaDoor.LCertAgain
open Go.RowKit HAppd HAppC HShow HSpec HCon HArg Go.Proofs.YtdlgceepanegdaaDoorW.PrintWords Go.Proofs.YtdlgceepanegdaaDoorW.PrintLast Go.Proofs.YtdlgceepanegdaaDoorW.PrintMore
set_option linter.unusedVariables false
set_option linter.unusedSimpArgs false
/-- behind i of M, one by one -/
structure Inv (M N : List P) (i x : Nat) : Prop where
  len : N.length = x
  le : x ≤ i
  pl : places N = places (M.take i)
  ms : marks N = marks (M.take i)
  same : right M = true → N = M.take i
theorem Inv.zero (M : List P) : Inv M [] 0 0 := ⟨rfl, Nat.le_refl _, rfl, rfl, fun _ => rfl⟩
theorem Inv.succ {M N : List P} {i x : Nat} (h : Inv M N i x) (hi : i < M.length) (p : P) (hp : M[i]? = some p) : Inv M (add N p) (i + 1) (add N p).length := by
  have ht : M.take (i + 1) = M.take i ++ [p] := by rw [List.take_add_one, hp]; rfl
  refine ⟨rfl, ?_, ?_, ?_, fun hr => ?_⟩
  · have := h.le
    have := h.len
    rcases add_length N p with e | e <;> omega
  · rw [add_places, h.pl, ht, places_append]; simp [places]
  · rw [add_marks, h.ms, ht, marks_append]; simp [marks]
  · rw [ht, h.same hr]
    refine right_adds (M.take i) (M.drop (i + 1)) p ?_
    rw [show M.take i ++ p :: M.drop (i + 1) = M.take (i + 1) ++ M.drop (i + 1) by rw [ht, List.append_assoc]; rfl, List.take_append_drop]
    exact hr
set_option maxRecDepth 100000 in
set_option maxHeartbeats 6400000 in
theorem walk (A : Option Addr) (len cap m : Nat) (M : List P) (w : World) (hT : Tab w) (hlc : len ≤ cap) (hcm : cap ≤ 9223372036854775807)
    (hm6 : m ≤ 60) (hml : m ≤ len) (hmin : ∀ ats ty, Builtin.min_ ats ty #[.int .i64 (len : Int), .int .i64 60] = pure (.int .i64 (m : Int))) (hR : Ro w A M) (hM : M.length = m) :
    Calls Tryd.prog 6 #[.slice A len cap] w fun e w' => e = .returned (.bool true) ∧ Below w.heap.size w w' := by
  have HR := Lib.hid hR
  have HT := Lib.hid hT
  have HM := Lib.hid hM
  have HMT : Hid (M.take m = M) := Lib.hid (List.take_of_length_le (by omega))
  clear hR hT hM
  go_enter Tryd.func6, Tryd.ntmps6
  go_wp2
  clear hmin
  go_loopw [3, 4] (fun v t wr => ∃ (i x : Nat) (B : Option Addr) (d : Nat) (N : List P), i ≤ m ∧ x ≤ i ∧ x ≤ d ∧ v = .slice B x d ∧ t = .int .i64 (i : Nat) ∧ Hid (Inv M N i x) ∧ Hid (Ro wr B N) ∧ Hid (Below w.heap.size w wr)) (fun _ t _ => m - (intOf t).toNat)
  case atStart => 
    exact ⟨0, 0, some ⟨w.heap.size, 0, none⟩, 0, [], by omega, by omega, by omega, rfl, rfl, Inv.zero M, Ro.nil _ _, CMem.below1 _ _⟩
  case round =>
    obtain ⟨i, x, B, d, N, hi, hxi, hxd, rfl, rfl, HI, HRN, HB⟩ := hrel
    by_cases h : i < m
    · have hi2 : i < M.length := by have := HM.out; omega
      obtain ⟨ad, rfl, hc⟩ := (HR.out.below HB.out) (by omega)
      obtain ⟨c0, c1⟩ := hc i _ (List.getElem?_eq_getElem hi2)
      have HP := Lib.hid (HI.out.succ hi2 _ (List.getElem?_eq_getElem hi2))
      generalize M[i]'hi2 = p at *
      obtain ⟨p1, p2⟩ := p
      simp only [] at c0 c1
      have c2 : wr.cell? ⟨(ad.add (i * 2)).block, (ad.add (i * 2)).off + 1, none⟩ = some (.int .i64 p2) := by rw [← add_field _ _ 1 (by omega)]; exact c1
      clear hc c1
      go_wp2_with fail
      have HN := Lib.hid HI.out.len
      refine (c_add HRN.out HN.out (by omega) hxd p1 p2).mono ?_
      rintro e w2 ⟨⟨C, dc, rfl, hdc, hRC⟩, hb⟩
      have hle := HP.out.le
      generalize add N (p1, p2) = N2 at *
      generalize N2.length = x2 at *
      have HRC := Lib.hid hRC
      have HB2 := Lib.hid (below_step HB.out hb)
      clear hb hRC HB HRN c0 c2
      go_wp2
      go_roundw
      case rel => exact ⟨i + 1, x2, C, dc, N2, by omega, hle, hdc, rfl, by go_num, HP, HRC, HB2⟩
      case measure => simp [intOf]; omega
    · obtain rfl : i = m := by omega
      have HRm := Lib.hid (HR.out.below HB.out)
      have HTm := Lib.hid (HT.out.below HB.out)
      have hpl := HI.out.pl
      have hms := HI.out.ms
      have hsm := HI.out.same
      have hln := HI.out.len
      rw [HMT.out] at hpl hms hsm
      have HPL := Lib.hid hpl
      have HMS := Lib.hid hms
      have HSM := Lib.hid hsm
      have HN := Lib.hid hln
      clear hpl hms hsm hln HI HR HT
      go_wp2_with fail
      refine (c_places HRN.out HN.out (by omega) hxd).mono ?_
      rintro e w3 ⟨rfl, hb⟩
      rw [HPL.out]
      have HT_3 := Lib.hid (HTm.out.below hb)
      have HR_3 := Lib.hid (HRm.out.below hb)
      have HB_3 := Lib.hid (below_step HB.out hb)
      have HRN_3 := Lib.hid (HRN.out.below hb)
      clear hb HTm HRm HB HRN
      go_wp2_with fail
      refine (c_places HR_3.out HM.out (by omega) (by omega)).mono ?_
      rintro e w4 ⟨rfl, hb⟩
      generalize places M = pm at *
      have HT_4 := Lib.hid (HT_3.out.below hb)
      have HR_4 := Lib.hid (HR_3.out.below hb)
      have HB_4 := Lib.hid (below_step HB_3.out hb)
      have HRN_4 := Lib.hid (HRN_3.out.below hb)
      clear hb HT_3 HR_3 HB_3 HRN_3
      go_wp2_with fail
      refine (c_marks HRN_4.out HN.out (by omega) hxd).mono ?_
      rintro e w5 ⟨rfl, hb⟩
      rw [HMS.out]
      have HT_5 := Lib.hid (HT_4.out.below hb)
      have HR_5 := Lib.hid (HR_4.out.below hb)
      have HB_5 := Lib.hid (below_step HB_4.out hb)
      have HRN_5 := Lib.hid (HRN_4.out.below hb)
      clear hb HT_4 HR_4 HB_4 HRN_4
      go_wp2_with fail
      refine (c_marks HR_5.out HM.out (by omega) (by omega)).mono ?_
      rintro e w6 ⟨rfl, hb⟩
      generalize marks M = mm at *
      have HT_6 := Lib.hid (HT_5.out.below hb)
      have HR_6 := Lib.hid (HR_5.out.below hb)
      have HB_6 := Lib.hid (below_step HB_5.out hb)
      have HRN_6 := Lib.hid (HRN_5.out.below hb)
      clear hb HT_5 HR_5 HB_5 HRN_5
      go_wp2_with fail
      refine (c_right HR_6.out HM.out (by omega) (by omega)).mono ?_
      rintro e w7 ⟨rfl, hb⟩
      have HT_7 := Lib.hid (HT_6.out.below hb)
      have HR_7 := Lib.hid (HR_6.out.below hb)
      have HB_7 := Lib.hid (below_step HB_6.out hb)
      have HRN_7 := Lib.hid (HRN_6.out.below hb)
      clear hb HT_6 HR_6 HB_6 HRN_6
      cases hr : right M
      · clear hr
        go_wp2_with fail
        refine (Q.clewlaw15_fixed.calls true _ HT_7.out rfl).mono ?_
        rintro e w9 ⟨rfl, hb⟩
        go_wp2
        go_ret
        exact ⟨rfl, below_step HB_7.out hb⟩
      · have hNM := HSM.out hr
        subst hNM
        obtain rfl : x = i := HN.out.symm.trans HM.out
        have HM6 : Hid (N.take 60 = N) := Lib.hid (List.take_of_length_le (by have := HN.out; omega))
        clear hr HSM HMT
        go_wp2_with fail
        refine (c_ref HRN_7.out HN.out (by omega) hxd 60).mono ?_
        rintro e w8 ⟨⟨D, dd, rfl, hdd, hRD⟩, hb⟩
        rw [HM6.out, HN.out] at hdd
        rw [HM6.out] at hRD ⊢
        rw [HN.out]
        have HT_8 := Lib.hid (HT_7.out.below hb)
        have HR_8 := Lib.hid (HR_7.out.below hb)
        have HB_8 := Lib.hid (below_step HB_7.out hb)
        have HRN_8 := Lib.hid (HRN_7.out.below hb)
        clear hb HT_7 HR_7 HB_7 HRN_7
        have HRD_8 := Lib.hid hRD
        clear hRD
        go_wp2_with fail
        refine (c_ref HR_8.out HM.out (by omega) (by omega) 60).mono ?_
        rintro e w9 ⟨⟨E, de, rfl, hde, hRE⟩, hb⟩
        rw [HM6.out, HN.out] at hde
        rw [HM6.out] at hRE ⊢
        rw [HN.out]
        have HT_9 := Lib.hid (HT_8.out.below hb)
        have HR_9 := Lib.hid (HR_8.out.below hb)
        have HB_9 := Lib.hid (below_step HB_8.out hb)
        have HRN_9 := Lib.hid (HRN_8.out.below hb)
        have HRD_9 := Lib.hid (HRD_8.out.below hb)
        clear hb HT_8 HR_8 HB_8 HRN_8 HRD_8
        have HRE_9 := Lib.hid hRE
        clear hRE
        go_wp2_with fail
        refine (c_same HRD_9.out HRE_9.out HN.out (by omega) hdd HN.out (by omega) hde).mono ?_
        rintro e w10 ⟨rfl, hb⟩
        rw [decide_eq_true rfl]
        have HT_10 := Lib.hid (HT_9.out.below hb)
        have HR_10 := Lib.hid (HR_9.out.below hb)
        have HB_10 := Lib.hid (below_step HB_9.out hb)
        have HRN_10 := Lib.hid (HRN_9.out.below hb)
        have HRD_10 := Lib.hid (HRD_9.out.below hb)
        have HRE_10 := Lib.hid (HRE_9.out.below hb)
        clear hb HT_9 HR_9 HB_9 HRN_9 HRD_9 HRE_9
        go_wp2_with fail
        refine (Q.clewlaw15_fixed.calls true _ HT_10.out rfl).mono ?_
        rintro e w9 ⟨rfl, hb⟩
        go_wp2
        go_ret
        exact ⟨rfl, below_step HB_10.out hb⟩
theorem certAgain_row (A : Option Addr) (len cap : Nat) (L : List P) (w : World) (hT : Tab w) (hA : TkArg w A len cap L) :
    Calls Tryd.prog 6 #[.slice A len cap] w fun e w' => e = .returned (.bool true) ∧ Below w.heap.size w w' := by
  obtain ⟨hl, hlc, hcm, hno, hI, hRo⟩ := hA
  unfold maxLen at hcm
  obtain ⟨m, hm6, hml, hmin⟩ := LCertAdds.min_fact len
  have hR : Ro w A (L.take m) := Ro.take hRo m
  have hM : (L.take m).length = m := by rw [List.length_take]; omega
  exact walk A len cap m (L.take m) w hT hlc hcm hm6 hml hmin hR hM
end Go.Proofs.YtdlgceepanegdaaDoor.LCertAgain
