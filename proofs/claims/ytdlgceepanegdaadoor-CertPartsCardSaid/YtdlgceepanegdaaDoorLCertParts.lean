/- CertParts: its walk. -/
import Derived.Test.YtdlgceepanegdaaDoorHCon
import Derived.Test.YtdlgceepanegdaaDoorHArg
namespace Go.Proofs.YtdlgceepanegdaaDoor.LCertParts
open Go.RowKit HAppd HAppC HShow HSpec HCon HArg Go.Proofs.YtdlgceepanegdaaDoorW.PrintWords Go.Proofs.YtdlgceepanegdaaDoorW.PrintLast Go.Proofs.YtdlgceepanegdaaDoorW.PrintMore
set_option linter.unusedVariables false
set_option linter.unusedSimpArgs false
theorem min_fact (n : Nat) : ∃ m : Nat, m ≤ 60 ∧ m ≤ n ∧ ∀ ats ty, Builtin.min_ ats ty #[.int .i64 (n : Int), .int .i64 60] = pure (.int .i64 (m : Int)) := by
  by_cases h : n < 60
  · refine ⟨n, by omega, by omega, fun ats ty => ?_⟩
    simp only [min_two, min2_int, pure_bind]
    rw [if_neg (by omega)]
  · refine ⟨60, by omega, by omega, fun ats ty => ?_⟩
    simp only [min_two, min2_int, pure_bind]
    by_cases h2 : (60 : Int) < n
    · rw [if_pos h2]; rfl
    · rw [if_neg h2, show (n : Int) = ((60 : Nat) : Int) by omega]
theorem rem_fact (a : Int) (m : Nat) (ha : 0 ≤ a) (hm : m ≤ 60) : ∃ k : Nat, k ≤ m ∧ a % ((m : Int) + 1) = (k : Int) := by
  have h1 := Int.emod_nonneg a (show (m : Int) + 1 ≠ 0 by omega)
  have h2 := Int.emod_lt_of_pos a (show 0 < (m : Int) + 1 by omega)
  exact ⟨(a % ((m : Int) + 1)).toNat, by omega, by omega⟩
set_option maxRecDepth 100000 in
set_option maxHeartbeats 6400000 in
theorem walk (A : Option Addr) (len cap : Nat) (a : Int) (L : List P) (w : World) (hT : Tab w) (ha0 : 0 ≤ a) (ha1 : a ≤ 255) (hA : TkArg w A len cap L) :
    Calls Tryd.prog 5 #[.slice A len cap, .int .u8 a] w fun e w' => e = .returned (.bool true) ∧ Below w.heap.size w w' := by
  obtain ⟨hn, hlc, hcm, hno, hI, hRo⟩ := hA
  unfold maxLen at hcm
  obtain ⟨m, hm6, hml, hmin⟩ := min_fact len
  have hR : Ro w A (L.take m) := Ro.take hRo m
  have hM : (L.take m).length = m := by rw [List.length_take]; omega
  generalize L.take m = M at *
  have HR := Lib.hid hR
  have HT := Lib.hid hT
  have HM := Lib.hid hM
  clear hR hT hM hI hRo hno hn
  go_enter Tryd.func5, Tryd.ntmps5
  go_wp2_with fail
  clear hmin
  refine (c_right HR.out HM.out (by omega) (by omega)).mono ?_
  rintro e w1 ⟨rfl, hb⟩
  have HT1 := Lib.hid (HT.out.below hb)
  have HR1 := Lib.hid (HR.out.below hb)
  have HB1 := Lib.hid hb
  clear hb HT HR
  cases hr : right M
  · clear hr
    go_wp2_with fail
    refine (Q.clewlaw15_fixed.calls true _ HT1.out rfl).mono ?_
    rintro e w2 ⟨rfl, hb⟩
    go_wp2
    go_ret
    exact ⟨rfl, below_step HB1.out hb⟩
  · have HRM := Lib.hid hr
    clear hr
    obtain ⟨k, hk, hrem⟩ := rem_fact a m ha0 hm6
    have hRk : Ro w1 A (M.take k) := HR1.out.take k
    have hK : (M.take k).length = k := by rw [List.length_take]; have := HM.out; omega
    rcases Nat.eq_zero_or_pos k with h0 | h0
    · subst h0
      have HR0 := Lib.hid (Ro.nil w1 A)
      clear hRk hK HM HR1
      go_wp2_with fail
      refine (c_right HR0.out rfl (by decide) (Nat.zero_le _)).mono ?_
      rintro e w2 ⟨rfl, hb⟩
      have HT2 := Lib.hid (HT1.out.below hb)
      have HB2 := Lib.hid (below_step HB1.out hb)
      have HR2 := Lib.hid (Ro.nil w2 A)
      clear hb HR0
      rw [show right [] = true from rfl]
      go_wp2_with fail
      refine (c_add HR2.out rfl (by decide) (Nat.zero_le _) 1 0).mono ?_
      rintro e w3 ⟨⟨B, d, rfl, hd, hR3⟩, hb⟩
      have HT3 := Lib.hid (HT2.out.below hb)
      have HB3 := Lib.hid (below_step HB2.out hb)
      clear hb HR2
      rw [add_nil] at hR3 hd ⊢
      go_wp2_with fail
      refine (c_right hR3 rfl (by decide) hd).mono ?_
      rintro e w4 ⟨rfl, hb⟩
      have HT4 := Lib.hid (HT3.out.below hb)
      have HB4 := Lib.hid (below_step HB3.out hb)
      clear hb hR3
      rw [show right [(1, 0)] = true from rfl]
      go_wp2_with fail
      refine (Q.clewlaw15_fixed.calls true _ HT4.out rfl).mono ?_
      rintro e w5 ⟨rfl, hb⟩
      go_wp2
      go_ret
      exact ⟨rfl, below_step HB4.out hb⟩
    · obtain ⟨ad, rfl, hc⟩ := hRk (by omega)
      have hc1 := (hc (k - 1) _ (List.getElem?_eq_getElem (by omega))).1
      have hlast : (M.take k).getLastD (4, 0) = (M.take k)[k - 1]'(by omega) := by
        rw [List.getLastD_eq_getLast?, List.getLast?_eq_getElem?, show (M.take k).length - 1 = k - 1 by omega, List.getElem?_eq_getElem (by omega)]
        rfl
      generalize hp : (M.take k)[k - 1]'(by omega) = p at *
      have HL := Lib.hid hlast
      have HK := Lib.hid hK
      clear hlast hp hc hK
      have hRk2 : Ro w1 (some ad) (M.take k) := HR1.out.take k
      have HRk := Lib.hid hRk2
      have hk1 : (k : Int) - 1 = ((k - 1 : Nat) : Int) := by omega
      clear hRk2 hRk
      by_cases h4 : p.1 = 4
      · have hp4 : (p.1 == 4) = true := by simp [h4]
        have hrt : right (M.take k) = false := right_mark _ (fun e => by have h := HK.out; rw [e] at h; simp at h; omega) (by rw [HL.out]; exact h4)
        have HRT := Lib.hid hrt
        clear h4 hrt
        go_wp2_with fail
        refine (c_right HRk.out HK.out (by omega) (by omega)).mono ?_
        rintro e w2 ⟨rfl, hb⟩
        have HT2 := Lib.hid (HT1.out.below hb)
        have HB2 := Lib.hid (below_step HB1.out hb)
        clear hb
        rw [HRT.out]
        go_wp2_with fail
        refine (Q.clewlaw15_fixed.calls true _ HT2.out rfl).mono ?_
        rintro e w3 ⟨rfl, hb⟩
        go_wp2
        go_ret
        exact ⟨rfl, below_step HB2.out hb⟩
      · have hp4 : (p.1 == 4) = false := by simp [h4]
        have hrt : right (M.take k) = true := right_take M k HRM.out (by have := HM.out; omega) (.inr (by rw [HL.out]; exact h4))
        have HRT2 := Lib.hid (right_try _ hrt)
        have HLA := Lib.hid (add_other (M.take k) (1, 0) (.inl (by decide)))
        have HRT := Lib.hid hrt
        clear h4 hrt
        go_wp2_with fail
        refine (c_right HRk.out HK.out (by omega) (by omega)).mono ?_
        rintro e w2 ⟨rfl, hb⟩
        have HT2 := Lib.hid (HT1.out.below hb)
        have HR2 := Lib.hid (HRk.out.below hb)
        have HB2 := Lib.hid (below_step HB1.out hb)
        clear hb
        rw [HRT.out]
        go_wp2_with fail
        refine (c_add HR2.out HK.out (by omega) (by omega) 1 0).mono ?_
        rintro e w3 ⟨⟨B, d, rfl, hd, hR3⟩, hb⟩
        have HT3 := Lib.hid (HT2.out.below hb)
        have HB3 := Lib.hid (below_step HB2.out hb)
        have HLN : (add (M.take k) (1, 0)).length = k + 1 := by rw [HLA.out, List.length_append, HK.out]; rfl
        rw [HLN] at hd ⊢
        have HR3 := Lib.hid hR3
        have HLN := Lib.hid HLN
        clear hb hR3
        go_wp2_with fail
        refine (c_right HR3.out HLN.out (by omega) hd).mono ?_
        rintro e w4 ⟨rfl, hb⟩
        have HT4 := Lib.hid (HT3.out.below hb)
        have HB4 := Lib.hid (below_step HB3.out hb)
        clear hb
        rw [HRT2.out]
        go_wp2_with fail
        refine (Q.clewlaw15_fixed.calls true _ HT4.out rfl).mono ?_
        rintro e w5 ⟨rfl, hb⟩
        go_wp2
        go_ret
        exact ⟨rfl, below_step HB4.out hb⟩
theorem u8_of {a : Int} (h : (Lit.int .u8 a).wf = true) : 0 ≤ a ∧ a ≤ 255 := by
  simp [Lit.wf, IntKind.min, IntKind.max, IntKind.signed, IntKind.bits] at h
  omega
theorem certParts_row (A : Option Addr) (len cap : Nat) (L : List P) (a : Int) (w : World) (hT : Tab w) (hA : TkArg w A len cap L) (ha : (Lit.int .u8 a).wf = true) :
    Calls Tryd.prog 5 #[.slice A len cap, .int .u8 a] w fun e w' => e = .returned (.bool true) ∧ Below w.heap.size w w' :=
  walk A len cap a L w hT (u8_of ha).1 (u8_of ha).2 hA
end Go.Proofs.YtdlgceepanegdaaDoor.LCertParts
