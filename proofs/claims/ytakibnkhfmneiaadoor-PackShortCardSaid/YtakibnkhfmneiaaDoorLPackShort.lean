/- PackShort: its walk. -/
import Derived.Test.YtakibnkhfmneiaaDoorZ1
import Derived.Test.YtakibnkhfmneiaaDoorPSpoil
namespace Go.Proofs.YtakibnkhfmneiaaDoor.LPackShort
open Go.RowKit CMem HShow HAppd HAppC HSpec HCon HArg WMath BMath CEq WEq PSpec PDec PEnc PCon PFix PArg PSpoil Q Go.Proofs.YtakibnkhfmneiaaDoorW.PrintWords Go.Proofs.YtakibnkhfmneiaaDoorW.PrintLast Go.Proofs.YtakibnkhfmneiaaDoorW.PrintMore
set_option linter.unusedVariables false
set_option linter.unusedSimpArgs false
theorem nonempty {s : ByteArray} (h : 0 < s.size) : (s.toList == []) = false ∧ (s.toList != []) = true := by
  have : s.toList ≠ [] := fun e => by
    rw [toList_nil] at e
    have : s.size = 0 := by rw [← bl_length, e]; rfl
    omega
  simp [this]
theorem ext_le {t : ByteArray} {i : Nat} (h : i ≤ 603) : (t.extract 0 i).size ≤ 900 := by simp; omega
theorem le_aux {i j : Nat} (h : j ≤ i) (h2 : i ≤ 603) : j ≤ 603 := by omega
theorem sl_aux {t : ByteArray} (h : t.size ≤ 900) : (sealB t).size ≤ 1000 := by rw [sealB_size]; omega
theorem ne_aux {x : Nat} (h : x ≠ 0) : ((x : Int) != 0) = true := by simp; omega
theorem lt_aux {j k s : Nat} (h : j ≤ k) (h2 : s = k + 4) : j < s - 3 := by omega
theorem wrap_aux {k s : Nat} (h : s ≤ 603) (h2 : s = k + 4) : wrap64 (k : Int) = (k : Int) := by unfold wrap64; omega
theorem min_two_nat (i k : Nat) : ∃ j : Nat, j ≤ i ∧ j ≤ k ∧ min (i : Int) (k : Int) = (j : Int) ∧ ∀ ats ty, Builtin.min_ ats ty #[.int .i64 (i : Int), .int .i64 (k : Int)] = pure (.int .i64 (j : Int)) := by
  by_cases h : k < i
  · refine ⟨k, by omega, by omega, by omega, fun ats ty => ?_⟩
    simp only [min_two, min2_int, pure_bind]
    rw [if_pos (by omega)]
  · refine ⟨i, by omega, by omega, by omega, fun ats ty => ?_⟩
    simp only [min_two, min2_int, pure_bind]
    rw [if_neg (by omega)]
set_option maxRecDepth 100000 in
set_option maxHeartbeats 6400000 in
theorem walk_no (A : Option Addr) (len cap m : Nat) (M : List P) (a b : Int) (w : World) (hT : HOn.Tab w) (hlc : len ≤ cap) (hcm : cap ≤ 9223372036854775807)
    (hm6 : m ≤ 60) (hml : m ≤ len) (hmin : ∀ ats ty, Builtin.min_ ats ty #[.int .i64 (len : Int), .int .i64 60] = pure (.int .i64 (m : Int))) (hR : Ro w A M) (hM : M.length = m) (hr : right M = false) :
    Calls Tryd.prog 5 #[.slice A len cap, .int .u16 a, .int .u8 b] w fun e w' => e = .returned (.bool true) ∧ Below w.heap.size w w' := by
  have HU := Lib.hid ((enc_empty M).2 hr)
  have HRM := Lib.hid hr
  have HR := Lib.hid hR
  have HT := Lib.hid hT
  have HM := Lib.hid hM
  clear hR hT hM hr
  go_enter Tryd.func5, Tryd.ntmps5
  go_wp2_with fail
  clear hmin
  have HB := Lib.hid (Below.refl w.heap.size w)
  refine (c_encode HT.out HR.out HM.out (by omega) (by omega) hcm).mono ?_
  rintro e w2 ⟨rfl, hb⟩
  rw [HU.out]
  have HT_2 := Lib.hid (HT.out.below hb)
  have HB_2 := Lib.hid (below_step HB.out hb)
  have HR_2 := Lib.hid (HR.out.below hb)
  clear hb HT HB HR
  go_wp2_with fail
  refine (c_right HR_2.out HM.out (by omega) (by omega)).mono ?_
  rintro e w3 ⟨rfl, hb⟩
  rw [HRM.out]
  have HT_3 := Lib.hid (HT_2.out.below hb)
  have HB_3 := Lib.hid (below_step HB_2.out hb)
  have HR_3 := Lib.hid (HR_2.out.below hb)
  clear hb HT_2 HB_2 HR_2
  go_wp2_with fail
  refine (fixed_walk _ HT_3.out).mono ?_
  rintro e w99 ⟨rfl, hb⟩
  go_wp2
  go_ret
  exact ⟨rfl, below_step HB_3.out hb⟩
set_option maxRecDepth 100000 in
set_option maxHeartbeats 6400000 in
theorem walk_yes (A : Option Addr) (len cap m : Nat) (M : List P) (a b : Int) (w : World) (hT : HOn.Tab w) (hlc : len ≤ cap) (hcm : cap ≤ 9223372036854775807) (ha0 : 0 ≤ a) (ha1 : a ≤ 65535) (hb0 : 0 ≤ b) (hb1 : b ≤ 255)
    (hm6 : m ≤ 60) (hml : m ≤ len) (hmin : ∀ ats ty, Builtin.min_ ats ty #[.int .i64 (len : Int), .int .i64 60] = pure (.int .i64 (m : Int))) (hR : Ro w A M) (hM : M.length = m) (hr : right M = true) :
    Calls Tryd.prog 5 #[.slice A len cap, .int .u16 a, .int .u8 b] w fun e w' => e = .returned (.bool true) ∧ Below w.heap.size w w' := by
  obtain ⟨g1, g2⟩ := right_good hr (by omega)
  have hsz := enc_size hr (by omega)
  have h2 := cat_le g1
  have h3 := put_range (n := M.length) (by omega)
  have hbl : 5 ≤ (body M).length ∧ (body M).length ≤ 600 := by
    unfold body
    simp only [List.length_append]
    simp [PSpec.mark]
    omega
  have h0 := sum_enc hr
  have hcut := fun i hi => dec_cut (i := i) hr (by omega) hi
  have hres := fun j hj => dec_reseal (j := j) hr (by omega) hj
  obtain ⟨t, ht⟩ : ∃ t, enc M = t := ⟨_, rfl⟩
  have HU := Lib.hid ht
  rw [ht] at hsz h0 hcut hres
  have hts8 : 8 ≤ t.size ∧ t.size ≤ 603 := by omega
  have hbt : (body M).length = t.size - 3 := by omega
  rw [hbt] at hres
  clear hbt hbl h2 h3 g1 g2 hsz ht
  have HCUT := Lib.hid hcut
  have HRES := Lib.hid hres
  have HRM := Lib.hid hr
  have HR := Lib.hid hR
  have HT := Lib.hid hT
  have HM := Lib.hid hM
  have kb := fun W => print_bytes (P := Tryd.prog) 9 38 5 Tryd.underlying9 Tryd.underlying38 Tryd.underlying5 t W
  obtain ⟨z1, z2⟩ := nonempty (s := t) (by omega)
  obtain ⟨hts8, hts6⟩ := hts8
  clear hR hT hM hr hcut hres
  go_enter Tryd.func5, Tryd.ntmps5
  go_wp2_with fail
  clear hmin
  refine (c_encode HT.out HR.out HM.out (by omega) (by omega) hcm).mono ?_
  rintro e w2 ⟨rfl, hb⟩
  rw [HU.out]
  have HB := Lib.hid hb
  have HT1 := Lib.hid (HT.out.below hb)
  obtain ⟨i, hi, hit⟩ : ∃ i : Nat, a % (t.size : Int) = (i : Int) ∧ i < t.size := by
    have m0 := Int.emod_nonneg a (b := (t.size : Int)) (by omega)
    have m1 := Int.emod_lt_of_pos a (b := (t.size : Int)) (by omega)
    exact ⟨(a % (t.size : Int)).toNat, by omega, by omega⟩
  obtain ⟨d, hd, hd1, hd2⟩ : ∃ d : Nat, 1 + b % 255 = (d : Int) ∧ 1 ≤ d ∧ d < 256 := ⟨(1 + b % 255).toNat, by omega, by omega, by omega⟩
  have hcell := Lib.bytesWorld_cell w2 5 t i hit
  have hfr := bytes_frozen w2 5 t i hit
  have hcl : (t.data.toList.getD i 0).toNat < 256 := (t.data.toList.getD i 0).toNat_lt
  obtain ⟨x1, x2, x3⟩ := xor_other _ d hcl hd2 hd1
  have hsum := spoilt_sum (t := t) (i := i) (y := (t.data.toList.getD i 0).toNat ^^^ d) hit x2 x3 h0
  have hrd := fun y => spoilt_reads w2 5 t i y hit (by omega)
  have hbl : Below w2.heap.size w2 (Lib.bytesWorld w2 5 t) := bytes_below (Below.refl _ _) (Nat.le_refl _) _ _
  have kb2 := kb w2
  clear kb h0 hb HT
  generalize (t.data.toList.getD i 0).toNat = c at *
  generalize c ^^^ d = y at *
  have hrd := hrd y
  generalize Lib.bytesWorld w2 5 t = W at *
  have ks : Sem.run Tryd.prog (convert 38 9 (.slice (some ⟨w2.heap.size, 0, none⟩) t.size (grownCap w2 t.size 0 5))) (W.setCell ⟨w2.heap.size, i, none⟩ (.int .u8 (y : Int))) = .ok (.string (spoilt t i y)) (W.setCell ⟨w2.heap.size, i, none⟩ (.int .u8 (y : Int))) :=
    string_of_reads Tryd.underlying38 Tryd.underlying5 Tryd.underlying9 hrd
  have hsp := spoilt_size t i y
  have hds := dec_spoilt (s := spoilt t i y) (by omega) hsum
  have hsp6 : (spoilt t i y).size ≤ 1000 := by omega
  have HDS := Lib.hid hds
  have HSP := Lib.hid hsp6
  have hb4 : Below w.heap.size w (W.setCell ⟨w2.heap.size, i, none⟩ (.int .u8 (y : Int))) := below_set (below_step HB.out hbl) HB.out.size _
  have HB4 := Lib.hid hb4
  have HT4 := Lib.hid (HT1.out.below (CMem.below_set (b := w2.heap.size) (i := i) hbl (Nat.le_refl _) (.int .u8 (y : Int))))
  clear hb4 hbl hrd hsum hds hsp hsp6 HT1 HB
  generalize spoilt t i y = t2 at *
  go_wp2_with fail
  refine (c_dec HSP.out HDS.out (n := 0) (y := 8) rfl rfl HT4.out).mono ?_
  rintro e w5 ⟨⟨B1, d1, rfl, hd1', _⟩, hb⟩
  have HB5 := Lib.hid (below_step HB4.out hb)
  have HT5 := Lib.hid (HT4.out.below hb)
  have hi6 : i ≤ 603 := by omega
  have hit' : i ≤ t.size := by omega
  obtain ⟨k4, hk4⟩ : ∃ k4 : Nat, t.size = k4 + 4 := ⟨t.size - 4, by omega⟩
  obtain ⟨j, hji, hj4, hmij0, hminj⟩ := min_two_nat i k4
  have HMIJ := Lib.hid hmij0
  clear hmij0 hminj
  have hs4 : (t.size : Int) - 4 = (k4 : Int) := by rw [hk4]; simp
  have hwk : wrap64 (k4 : Int) = (k4 : Int) := wrap_aux hts6 hk4
  have hcu := HCUT.out i hit
  have hre := HRES.out j (lt_aux hj4 hk4)
  have HHI := Lib.hid hi
  have HK4 := Lib.hid hk4
  clear hk4 hi
  obtain ⟨tc, htc⟩ : ∃ tc, t.extract 0 i = tc := ⟨_, rfl⟩
  obtain ⟨tj, htj⟩ : ∃ tj, t.extract 0 j = tj := ⟨_, rfl⟩
  have hsc : tc.size ≤ 900 := htc ▸ ext_le hi6
  have hsj : tj.size ≤ 900 := htj ▸ ext_le (le_aux hji hi6)
  rw [htc] at hcu
  rw [htj] at hre
  clear hb HB4 HT4 HCUT HRES kb2 ks hcell hfr x1 x2 x3
  obtain ⟨pc, hpc⟩ : ∃ p, dec tc = p := ⟨_, rfl⟩
  obtain ⟨Lc, xc⟩ := pc
  obtain ⟨pj, hpj⟩ : ∃ p, dec (sealB tj) = p := ⟨_, rfl⟩
  obtain ⟨Lj, xj⟩ := pj
  rw [hpc] at hcu
  rw [hpj] at hre
  simp only [] at hcu hre
  have HHT := HT5.out
  have HHB := HB5.out
  have HCU := Lib.hid hcu
  have HRE := Lib.hid hre
  have HPC := Lib.hid hpc
  have HPJ := Lib.hid hpj
  have hsl : (sealB tj).size ≤ 1000 := sl_aux hsj
  have HSC : Hid (tc.size ≤ 1000) := Nat.le_trans hsc (by decide)
  have HSJ : Hid (tj.size ≤ 1000000) := Nat.le_trans hsj (by decide)
  have HSL := Lib.hid hsl
  have zc := ne_aux hcu
  have zj := ne_aux hre
  have hjt' : j ≤ t.size := Nat.le_trans hji hit'
  have hmij := HMIJ.out
  have hi := HHI.out
  clear hcu hre hpc hpj hsl hsc hsj HT5 HB5 HMIJ
  go_wp2
  refine start_ (n := 13) (S := fun w' => HOn.Tab w' ∧ Below w.heap.size w w') (ds := []) #[false, false, false, false, false, false, false, false, false, false, false, false, false] (by kernel_rfl) rfl rfl ⟨(HHT.below ((Below.refl _ _).drew)), HHB.drew⟩ (fun hHeld => ?_)
  refine pure_ (i := 0) (N := some 57) (v := ?_) (a' := ?_) #[true, false, false, false, false, false, false, false, false, false, false, false, false] rfl rfl (by kernel_rfl) (fun _ _ _ h => h) (Or.inl ⟨by rfl, ?_⟩) ?_ ?_
  rotate_left
  · intro w'
    go_simp
    with_reducible rfl
  rotate_left
  · simp only [Act.put, List.setIfInBounds_toArray, List.set_cons_zero, List.set_cons_succ, i64_w, i32_w]
    rfl
  refine pure_ (i := 1) (N := some 58) (v := ?_) (a' := ?_) #[true, true, false, false, false, false, false, false, false, false, false, false, false] rfl rfl (by kernel_rfl) (fun _ _ _ h => h) (Or.inl ⟨by rfl, ?_⟩) ?_ ?_
  rotate_left
  · intro w'
    go_simp
    with_reducible rfl
  rotate_left
  · simp only [Act.put, List.setIfInBounds_toArray, List.set_cons_zero, List.set_cons_succ, i64_w, i32_w]
    rfl
  refine pure_ (i := 2) (N := some 59) (v := ?_) (a' := ?_) #[true, true, true, false, false, false, false, false, false, false, false, false, false] rfl rfl (by kernel_rfl) (fun _ _ _ h => h) (Or.inl ⟨by rfl, ?_⟩) ?_ ?_
  rotate_left
  · intro w'
    go_simp
    with_reducible rfl
  rotate_left
  · simp only [Act.put, List.setIfInBounds_toArray, List.set_cons_zero, List.set_cons_succ, i64_w, i32_w]
    rfl
  refine pure_ (i := 3) (N := some 60) (v := ?_) (a' := ?_) #[true, true, true, true, false, false, false, false, false, false, false, false, false] rfl rfl (by kernel_rfl) (fun _ _ _ h => h) (Or.inl ⟨by rfl, ?_⟩) ?_ ?_
  rotate_left
  · intro w'
    go_simp
    with_reducible rfl
  rotate_left
  · simp only [Act.put, List.setIfInBounds_toArray, List.set_cons_zero, List.set_cons_succ, i64_w, i32_w]
    rfl
  refine pure_ (i := 4) (N := some 61) (v := ?_) (a' := ?_) #[true, true, true, true, true, false, false, false, false, false, false, false, false] rfl rfl (by kernel_rfl) (fun _ _ _ h => h) (Or.inl ⟨by rfl, ?_⟩) ?_ ?_
  rotate_left
  · intro w'
    go_simp
    with_reducible rfl
  rotate_left
  · simp only [Act.put, List.setIfInBounds_toArray, List.set_cons_zero, List.set_cons_succ, i64_w, i32_w]
    rfl
  refine pure_ (i := 5) (N := some 62) (v := ?_) (a' := ?_) #[true, true, true, true, true, true, false, false, false, false, false, false, false] rfl rfl (by kernel_rfl) (fun _ _ _ h => h) (Or.inl ⟨by rfl, ?_⟩) ?_ ?_
  rotate_left
  · intro w'
    go_simp
    with_reducible rfl
  rotate_left
  · simp only [Act.put, List.setIfInBounds_toArray, List.set_cons_zero, List.set_cons_succ, i64_w, i32_w]
    rfl
  refine pure_ (i := 6) (N := some 63) (v := ?_) (a' := ?_) #[true, true, true, true, true, true, true, false, false, false, false, false, false] rfl rfl (by kernel_rfl) (fun _ _ _ h => h) (Or.inl ⟨by rfl, ?_⟩) ?_ ?_
  rotate_left
  · intro w'
    go_simp
    with_reducible rfl
  rotate_left
  · simp only [Act.put, List.setIfInBounds_toArray, List.set_cons_zero, List.set_cons_succ, i64_w, i32_w]
    rfl
  refine pure_ (i := 7) (N := some 64) (v := ?_) (a' := ?_) #[true, true, true, true, true, true, true, true, false, false, false, false, false] rfl rfl (by kernel_rfl) (fun _ _ _ h => h) (Or.inl ⟨by rfl, ?_⟩) ?_ ?_
  rotate_left
  · intro w'
    go_simp
    with_reducible rfl
  rotate_left
  · simp only [Act.put, List.setIfInBounds_toArray, List.set_cons_zero, List.set_cons_succ, i64_w, i32_w]
    rfl
  refine pure_ (i := 8) (N := some 65) (v := ?_) (a' := ?_) #[true, true, true, true, true, true, true, true, true, false, false, false, false] rfl rfl (by kernel_rfl) (fun _ _ _ h => h) (Or.inl ⟨by rfl, ?_⟩) ?_ ?_
  rotate_left
  · intro w'
    go_simp
    with_reducible rfl
  rotate_left
  · simp only [Act.put, List.setIfInBounds_toArray, List.set_cons_zero, List.set_cons_succ, i64_w, i32_w]
    rfl
  refine pure_ (i := 9) (N := some 66) (v := ?_) (a' := ?_) #[true, true, true, true, true, true, true, true, true, true, false, false, false] rfl rfl (by kernel_rfl) (fun _ _ _ h => h) (Or.inl ⟨by rfl, ?_⟩) ?_ ?_
  rotate_left
  · intro w'
    go_simp
    with_reducible rfl
  rotate_left
  · simp only [Act.put, List.setIfInBounds_toArray, List.set_cons_zero, List.set_cons_succ, i64_w, i32_w]
    rfl
  refine one_ (i := 10) (N := some 67) #[true, true, true, true, true, true, true, true, true, true, true, false, false] rfl rfl (by kernel_rfl) (by decide) (fun K hK => ?_)
  refine goes_ Tryd.func9 (by kernel_rfl) rfl #[.string tj] (by rfl) rfl rfl (by simp only [List.map_toArray, List.map_cons, List.map_nil]; rfl) ?_
  with_reducible refine ((k_seal tj HSJ.out _ hHeld.1)).mono ?_
  rintro e X10 ⟨rfl, hb⟩
  refine ⟨_, rfl, ?_⟩
  refine hK.out _ _ ⟨(HOn.Tab.below hHeld.1 hb), (below_step hHeld.2 hb)⟩ (fun hHeld => ?_)
  clear hK K
  refine norm_ (a' := ?_) ?_ ?_
  rotate_left
  · show Act.put _ (some 67) _ = _
    simp only [Act.put, List.setIfInBounds_toArray, List.set_cons_zero, List.set_cons_succ, i64_w, i32_w]
    rfl
  refine pure_ (i := 11) (N := some 12) (v := ?_) (a' := ?_) #[true, true, true, true, true, true, true, true, true, true, true, true, false] rfl rfl (by kernel_rfl) (fun _ _ _ h => h) (Or.inl ⟨by rfl, ?_⟩) ?_ ?_
  rotate_left
  · intro w'
    go_simp
    with_reducible rfl
  rotate_left
  · simp only [Act.put, List.setIfInBounds_toArray, List.set_cons_zero, List.set_cons_succ, i64_w, i32_w]
    rfl
  refine pure_ (i := 12) (N := some 13) (v := ?_) (a' := ?_) #[true, true, true, true, true, true, true, true, true, true, true, true, true] rfl rfl (by kernel_rfl) (fun _ _ _ h => h) (Or.inl ⟨by rfl, ?_⟩) ?_ ?_
  rotate_left
  · intro w'
    go_simp
    with_reducible rfl
  rotate_left
  · simp only [Act.put, List.setIfInBounds_toArray, List.set_cons_zero, List.set_cons_succ, i64_w, i32_w]
    rfl
  refine done_ (by kernel_rfl) ?_
  obtain ⟨ht6, hb6⟩ := hHeld
  have HT6 := Lib.hid ht6
  have HB6 := Lib.hid hb6
  clear ht6 hb6 HHT HHB
  go_wp2_with fail
  refine (c_dec HSC.out HPC.out rfl rfl HT6.out).mono ?_
  rintro e w11 ⟨⟨B2, dB2, rfl, hdB2, hB2⟩, hb⟩
  have HT_11 := Lib.hid (HT6.out.below hb)
  have HB_11 := Lib.hid (below_step HB6.out hb)
  clear hb HT6 HB6
  go_wp2_with fail
  refine (c_dec HSL.out HPJ.out rfl rfl HT_11.out).mono ?_
  rintro e w12 ⟨⟨B3, dB3, rfl, hdB3, hB3⟩, hb⟩
  have HT_12 := Lib.hid (HT_11.out.below hb)
  have HB_12 := Lib.hid (below_step HB_11.out hb)
  clear hb HT_11 HB_11
  go_wp2_with fail
  refine (fixed_walk _ HT_12.out).mono ?_
  rintro e w99 ⟨rfl, hb⟩
  go_wp2
  go_ret
  exact ⟨rfl, below_step HB_12.out hb⟩
theorem u8_of {a : Int} (h : (Lit.int .u8 a).wf = true) : 0 ≤ a ∧ a ≤ 255 := by
  simp [Lit.wf, IntKind.min, IntKind.max, IntKind.signed, IntKind.bits] at h
  omega
theorem u16_of {a : Int} (h : (Lit.int .u16 a).wf = true) : 0 ≤ a ∧ a ≤ 65535 := by
  simp [Lit.wf, IntKind.min, IntKind.max, IntKind.signed, IntKind.bits] at h
  omega
theorem packShort_row (A : Option Addr) (len cap : Nat) (L : List P) (a b : Int) (w : World) (hT : HOn.Tab w) (hA : TkArg w A len cap L) (ha : (Lit.int .u16 a).wf = true) (hb : (Lit.int .u8 b).wf = true) :
    Calls Tryd.prog 5 #[.slice A len cap, .int .u16 a, .int .u8 b] w fun e w' => e = .returned (.bool true) ∧ Below w.heap.size w w' := by
  obtain ⟨hl, hlc, hcm, hno, hI, hRo⟩ := hA
  unfold maxLen at hcm
  obtain ⟨m, hm6, hml, hmin⟩ := min_fact len
  have hM : (L.take m).length = m := by rw [List.length_take]; omega
  have ha := u16_of ha
  have hb := u8_of hb
  cases hr : right (L.take m) with
  | false => exact walk_no A len cap m (L.take m) a b w hT hlc hcm hm6 hml hmin (Ro.take hRo m) hM hr
  | true => exact walk_yes A len cap m (L.take m) a b w hT hlc hcm (by omega) (by omega) (by omega) (by omega) hm6 hml hmin (Ro.take hRo m) hM hr
end Go.Proofs.YtakibnkhfmneiaaDoor.LPackShort
