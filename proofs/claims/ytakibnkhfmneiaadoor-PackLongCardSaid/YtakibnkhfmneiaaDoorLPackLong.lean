/- PackLong: its walk. -/
import Derived.Test.YtakibnkhfmneiaaDoorZ1
namespace Go.Proofs.YtakibnkhfmneiaaDoor.LPackLong
open Go.RowKit CMem HShow HAppd HAppC HSpec HCon HArg WMath BMath CEq WEq PSpec PDec PEnc PCon PFix PArg Q Go.Proofs.YtakibnkhfmneiaaDoorW.PrintWords Go.Proofs.YtakibnkhfmneiaaDoorW.PrintLast Go.Proofs.YtakibnkhfmneiaaDoorW.PrintMore
set_option linter.unusedVariables false
set_option linter.unusedSimpArgs false
theorem c_add' {w : World} {A : Option Addr} {L : List P} (h : Ro w A L) {n c : Nat} (hn : L.length = n) (hl : n ≤ 1000) (t1 t2 : Int) (h0 : t1 ≠ 0) {N : List P} {x : Nat} (e1 : L ++ [(t1, t2)] = N) (e2 : n + 1 = x) : Calls Tryd.prog 17 #[.slice A n c, .agg #[.int .i64 t1, .int .i64 t2]] w fun e w' =>
    (∃ B d, e = .returned (.slice B x d) ∧ (x ≤ d ∧ d ≤ 9223372036854775807) ∧ Ro w' B N) ∧ Below w.heap.size w w' := by
  subst hn
  subst e1
  subst e2
  have := add_calls A c L t1 t2 h0 L.length rfl hl w (fun h0 => by
    obtain ⟨ad, e, hx⟩ := h h0
    exact ⟨ad, e, fun j u hj => cl_read hx j u hj⟩)
  refine this.mono ?_
  rintro e w' ⟨⟨v, rfl, ho⟩, hb⟩
  refine ⟨?_, hb⟩
  rcases ho.2 with ⟨q2, q3⟩ | ⟨g, cap, cur, q2, q3, q4, q5, q6, q7, q8⟩
  · omega
  · refine ⟨some ⟨g, 0, none⟩, cap, by rw [q2], ⟨q5, by unfold maxLen at q6; omega⟩, fun _ => ⟨_, rfl, fun q p hq => ?_⟩⟩
    obtain ⟨c0, c1⟩ := cl_cells _ q p hq
    have hql : q < L.length + 1 := by have := (List.getElem?_eq_some_iff.1 hq).1; rw [List.length_append] at this; exact this
    subst q2
    have e0 := ho.cellAt (q * 2) (by omega)
    have e1 := ho.cellAt (q * 2 + 1) (by omega)
    rw [c0] at e0
    rw [c1] at e1
    exact ⟨by rw [Go.Lib.add_plain, Nat.zero_add]; exact e0, by rw [Go.Lib.add_plain, Nat.zero_add]; exact e1⟩
theorem w_aux {c : Int} (h0 : 0 ≤ c) (h1 : c ≤ 4294967296) : IntKind.i64.wrap c = c ∧ wrap64 c = c ∧ IntKind.u64.wrap c = c := by
  refine ⟨?_, ?_, ?_⟩
  · rw [IntKind.wrap_i64]; omega
  · unfold wrap64; omega
  · simp [IntKind.wrap, IntKind.bits, IntKind.signed]; omega
theorem cz_aux {n : Nat} (h : (n : Int) ≤ 4294967296) : n < 2 ^ 64 := by omega
theorem w_sum {k z : Nat} (h0 : k ≤ 540) (h1 : z ≤ 9) : wrap64 (8 + (k : Int) + (z : Int)) = ((8 + (k + z) : Nat) : Int) ∧ IntKind.i64.wrap (8 + (k : Int) + (z : Int)) = ((8 + (k + z) : Nat) : Int) := by
  rw [IntKind.wrap_i64]
  unfold wrap64
  omega
set_option maxRecDepth 100000 in
set_option maxHeartbeats 6400000 in
theorem walk_no (A : Option Addr) (len cap m : Nat) (M : List P) (w : World) (hT : HOn.Tab w) (hlc : len ≤ cap) (hcm : cap ≤ 9223372036854775807)
    (hm6 : m ≤ 60) (hml : m ≤ len) (hmin : ∀ ats ty, Builtin.min_ ats ty #[.int .i64 (len : Int), .int .i64 60] = pure (.int .i64 (m : Int))) (hR : Ro w A M) (hM : M.length = m) (hr : right M = false) :
    Calls Tryd.prog 6 #[.slice A len cap] w fun e w' => e = .returned (.bool true) ∧ Below w.heap.size w w' := by
  have HU := Lib.hid ((enc_empty M).2 hr)
  have HRM := Lib.hid hr
  have HR := Lib.hid hR
  have HT := Lib.hid hT
  have HM := Lib.hid hM
  clear hR hT hM hr
  have he : ((⟨#[]⟩ : ByteArray).toList == []) = true := by rw [Lib.toList_data]; rfl
  go_enter Tryd.func6, Tryd.ntmps6
  go_wp2_with fail
  clear hmin
  have HB := Lib.hid (Below.refl w.heap.size w)
  refine (c_right HR.out HM.out (by omega) (by omega)).mono ?_
  rintro e w2 ⟨rfl, hb⟩
  rw [HRM.out]
  have HT_2 := Lib.hid (HT.out.below hb)
  have HB_2 := Lib.hid (below_step HB.out hb)
  have HR_2 := Lib.hid (HR.out.below hb)
  clear hb HT HB HR
  go_wp2_with fail
  refine (c_encode HT_2.out HR_2.out HM.out (by omega) (by omega) hcm).mono ?_
  rintro e w3 ⟨rfl, hb⟩
  rw [HU.out]
  have HT_3 := Lib.hid (HT_2.out.below hb)
  have HB_3 := Lib.hid (below_step HB_2.out hb)
  have HR_3 := Lib.hid (HR_2.out.below hb)
  clear hb HT_2 HB_2 HR_2
  go_wp2_with fail
  refine (fixed_walk _ HT_3.out).mono ?_
  rintro e w99 ⟨rfl, hb⟩
  go_wp2
  go_ret
  exact ⟨rfl, below_step HB_3.out hb⟩
set_option maxRecDepth 100000 in
set_option maxHeartbeats 6400000 in
theorem walk_yes (A : Option Addr) (len cap m : Nat) (M : List P) (w : World) (hT : HOn.Tab w) (hlc : len ≤ cap) (hcm : cap ≤ 9223372036854775807)
    (hm6 : m ≤ 60) (hml : m ≤ len) (hmin : ∀ ats ty, Builtin.min_ ats ty #[.int .i64 (len : Int), .int .i64 60] = pure (.int .i64 (m : Int))) (hR : Ro w A M) (hM : M.length = m) (hr : right M = true) :
    Calls Tryd.prog 6 #[.slice A len cap] w fun e w' => e = .returned (.bool true) ∧ Below w.heap.size w w' := by
  obtain ⟨g1, g2⟩ := right_good hr (by omega)
  have hr2 : right (M ++ [(1, 0)]) = true := by
    have := right_try M hr
    rwa [add_other M (1, 0) (.inl (by decide))] at this
  have hsz := enc_size hr (by omega)
  have hsz2 := enc_size hr2 (by rw [List.length_append]; simp; omega)
  have hpm : (put m).length = 1 := by rw [put_length, if_pos (by omega)]
  have hpm1 : (put (m + 1)).length = 1 := by rw [put_length, if_pos (by omega)]
  have hb1 : (body M).length = 5 + (cat M).length := by unfold body; simp only [List.length_append, hM, hpm]; simp [PSpec.mark]; omega
  have hb2 : (body (M ++ [(1, 0)])).length = 6 + (cat M).length := by
    unfold body
    rw [cat_append]
    simp only [List.length_append, List.length_singleton, hM, hpm1]
    have : (cat [((1 : Int), (0 : Int))]).length = 1 := by decide
    rw [this]
    simp [PSpec.mark]
    omega
  have h2 := cat_le g1
  obtain ⟨t, ht⟩ : ∃ t, enc M = t := ⟨_, rfl⟩
  obtain ⟨u, hu⟩ : ∃ u, enc (M ++ [(1, 0)]) = u := ⟨_, rfl⟩
  rw [ht] at hsz
  rw [hu] at hsz2
  obtain ⟨c, hc⟩ : ∃ c, (cat M).length = c := ⟨_, rfl⟩
  rw [hc] at hb1 hb2 h2
  have hts : t.size = c + 8 := by omega
  have hus : u.size = c + 9 := by omega
  have hc6 : c ≤ 540 := by omega
  have HTS := Lib.hid hts
  have HUS := Lib.hid hus
  have HC := Lib.hid hc
  have HU := Lib.hid hu
  have HTT := Lib.hid ht
  have HG := Lib.hid g1
  have HG2 := Lib.hid g2
  have HPM := Lib.hid hpm
  have HRM := Lib.hid hr
  have HR := Lib.hid hR
  have HT := Lib.hid hT
  have HM := Lib.hid hM
  clear hR hT hM hr hr2 hsz hsz2 hpm hpm1 hb1 hb2 h2 ht hu hc hts hus g1 g2
  go_enter Tryd.func6, Tryd.ntmps6
  go_wp2_with fail
  clear hmin
  have HB := Lib.hid (Below.refl w.heap.size w)
  refine (c_right HR.out HM.out (by omega) (by omega)).mono ?_
  rintro e w2 ⟨rfl, hb⟩
  rw [HRM.out]
  have HT_2 := Lib.hid (HT.out.below hb)
  have HB_2 := Lib.hid (below_step HB.out hb)
  have HR_2 := Lib.hid (HR.out.below hb)
  clear hb HT HB HR
  go_wp2_with fail
  refine (c_size m (by omega) _).mono ?_
  rintro e w3 ⟨rfl, hb⟩
  rw [HPM.out]
  have HT_3 := Lib.hid (HT_2.out.below hb)
  have HB_3 := Lib.hid (below_step HB_2.out hb)
  have HR_3 := Lib.hid (HR_2.out.below hb)
  clear hb HT_2 HB_2 HR_2
  have HTL := HT_3
  have HBL := HB_3
  have HRL := HR_3
  clear HT_3 HB_3 HR_3
  go_wp2
  go_loopw [3, 4] (fun v t wr => ∃ i : Nat, i ≤ m ∧ t = .int .i64 (i : Nat) ∧ v = .int .i64 (8 + (cat (M.take i)).length : Nat) ∧ Hid (HOn.Tab wr) ∧ Hid (Ro wr A M) ∧ Hid (Below w.heap.size w wr)) (fun _ t _ => m - (intOf t).toNat)
  case atStart => exact ⟨0, by omega, rfl, rfl, HTL, HRL, HBL⟩
  case round =>
    obtain ⟨i, hi, rfl, rfl, HT, HR, HB⟩ := hrel
    clear HTL HRL HBL
    by_cases h : i < m
    · have hi2 : i < M.length := by have := HM.out; omega
      obtain ⟨xb, xo, rfl, hcell⟩ := Ro.plain HR.out (by omega)
      obtain ⟨c0, c1⟩ := hcell i _ (List.getElem?_eq_getElem hi2)
      have hgt := HG.out _ (List.getElem_mem hi2)
      have hg2 := HG2.out _ (List.getElem_mem hi2)
      have htk : M.take (i + 1) = M.take i ++ [M[i]'hi2] := (List.take_append_getElem hi2).symm
      have hcl := cat_le (L := M.take i) (fun t ht => HG.out t (List.mem_of_mem_take ht))
      rw [List.length_take] at hcl
      generalize M[i]'hi2 = p at *
      obtain ⟨p1, p2⟩ := p
      have hct : (cat (M.take (i + 1))).length = (cat (M.take i)).length + (put (code (p1, p2))).length := by rw [htk, cat_append]; simp [cat]
      have hcd : 6 * p2 + p1 = (code (p1, p2) : Int) := by
        obtain ⟨q0, q1, q2, q3⟩ := hgt
        unfold code
        simp only [] at *
        omega
      have hpr := put_range (n := code (p1, p2)) (by omega)
      obtain ⟨q0, q1, q2, q3⟩ := hgt
      simp only [] at c0 c1 q0 q1 q2 q3
      have HCT := Lib.hid hct
      generalize code (p1, p2) = cc at *
      have hcc : (cc : Int) ≤ 4294967296 := by omega
      obtain ⟨k, hk⟩ : ∃ k, (cat (M.take i)).length = k := ⟨_, rfl⟩
      obtain ⟨z, hz⟩ : ∃ z, (put cc).length = z := ⟨_, rfl⟩
      rw [hk] at hcl HCT ⊢
      rw [hz] at hpr HCT
      have hk6 : k ≤ 540 := by omega
      obtain ⟨hz1, hz9⟩ := hpr
      have HZ := Lib.hid hz
      have HKK := Lib.hid hk
      have HC0 := Lib.hid c0
      have HC1 := Lib.hid c1
      have hp6 : 0 ≤ 6 * p2 ∧ 6 * p2 ≤ 4294967296 := by omega
      have HCZ := Lib.hid (cz_aux hcc)
      obtain ⟨hw1, hw2, _⟩ := w_aux hp6.1 hp6.2
      obtain ⟨hw3, hw4, hw5⟩ := w_aux (c := (cc : Int)) (Int.natCast_nonneg _) hcc
      obtain ⟨hw6, hw7⟩ := w_sum hk6 hz9
      clear hcell hct htk hcl hg2 hz hk c0 c1 hp6
      go_wp2
      refine start_ (n := 17) (S := fun w' => w'.cell? ⟨xb, xo + i * 2, none⟩ = some (.int .i64 p1) ∧ w'.cell? ⟨xb, xo + i * 2 + 1, none⟩ = some (.int .i64 p2) ∧ HOn.Tab w' ∧ Ro w' (some ⟨xb, xo, none⟩) M ∧ Below w.heap.size w w') (ds := []) #[false, false, false, false, false, false, false, false, false, false, false, false, false, false, false, false, false] (by kernel_rfl) rfl rfl ⟨HC0.out, HC1.out, (HT.out.below ((Below.refl _ _).drew)), (HR.out.below ((Below.refl _ _).drew)), HB.out.drew⟩ (fun hHeld => ?_)
      refine pure_ (i := 0) (N := some 32) (v := ?_) (a' := ?_) #[true, false, false, false, false, false, false, false, false, false, false, false, false, false, false, false, false] rfl rfl (by kernel_rfl) (fun _ _ _ h => h) (Or.inl ⟨by rfl, ?_⟩) ?_ ?_
      rotate_left
      · intro w'
        go_simp
        with_reducible rfl
      rotate_left
      · simp only [Act.put, List.setIfInBounds_toArray, List.set_cons_zero, List.set_cons_succ, i64_w, i32_w]
        rfl
      refine pure_ (i := 1) (N := some 33) (v := ?_) (a' := ?_) #[true, true, false, false, false, false, false, false, false, false, false, false, false, false, false, false, false] rfl rfl (by kernel_rfl) (fun _ _ _ h => h) (Or.inl ⟨by rfl, ?_⟩) ?_ ?_
      rotate_left
      · intro w'
        go_simp
        with_reducible rfl
      rotate_left
      · simp only [Act.put, List.setIfInBounds_toArray, List.set_cons_zero, List.set_cons_succ, i64_w, i32_w]
        rfl
      refine pure_ (i := 2) (N := some 34) (v := ?_) (a' := ?_) #[true, true, true, false, false, false, false, false, false, false, false, false, false, false, false, false, false] rfl rfl (by kernel_rfl) (fun _ _ _ h => h) (Or.inl ⟨by rfl, ?_⟩) ?_ ?_
      rotate_left
      · intro w'
        go_simp
        with_reducible rfl
      rotate_left
      · simp only [Act.put, List.setIfInBounds_toArray, List.set_cons_zero, List.set_cons_succ, i64_w, i32_w]
        rfl
      refine pure_ (i := 3) (N := some 35) (v := ?_) (a' := ?_) #[true, true, true, true, false, false, false, false, false, false, false, false, false, false, false, false, false] rfl rfl (by kernel_rfl) (fun _ _ _ h => h) (Or.inl ⟨by rfl, ?_⟩) ?_ ?_
      rotate_left
      · intro w'
        go_simp
        with_reducible rfl
      rotate_left
      · simp only [Act.put, List.setIfInBounds_toArray, List.set_cons_zero, List.set_cons_succ, i64_w, i32_w]
        rfl
      refine pure_ (i := 4) (N := some 36) (v := ?_) (a' := ?_) #[true, true, true, true, true, false, false, false, false, false, false, false, false, false, false, false, false] rfl rfl (by kernel_rfl) (fun _ _ _ h => h) (Or.inl ⟨by rfl, ?_⟩) ?_ ?_
      rotate_left
      · intro w'
        go_simp
        with_reducible rfl
      rotate_left
      · simp only [Act.put, List.setIfInBounds_toArray, List.set_cons_zero, List.set_cons_succ, i64_w, i32_w]
        rfl
      refine pure_ (i := 7) (N := some 39) (v := ?_) (a' := ?_) #[true, true, true, true, true, false, false, true, false, false, false, false, false, false, false, false, false] rfl rfl (by kernel_rfl) (fun _ _ _ h => h) (Or.inl ⟨by rfl, ?_⟩) ?_ ?_
      rotate_left
      · intro w'
        go_simp
        with_reducible rfl
      rotate_left
      · simp only [Act.put, List.setIfInBounds_toArray, List.set_cons_zero, List.set_cons_succ, i64_w, i32_w]
        rfl
      refine pure_ (i := 8) (N := some 40) (v := ?_) (a' := ?_) #[true, true, true, true, true, false, false, true, true, false, false, false, false, false, false, false, false] rfl rfl (by kernel_rfl) (fun _ _ _ h => h) (Or.inl ⟨by rfl, ?_⟩) ?_ ?_
      rotate_left
      · intro w'
        go_simp
        with_reducible rfl
      rotate_left
      · simp only [Act.put, List.setIfInBounds_toArray, List.set_cons_zero, List.set_cons_succ, i64_w, i32_w]
        rfl
      refine pure_ (i := 9) (N := some 41) (v := ?_) (a' := ?_) #[true, true, true, true, true, false, false, true, true, true, false, false, false, false, false, false, false] rfl rfl (by kernel_rfl) (fun _ _ _ h => h) (Or.inl ⟨by rfl, ?_⟩) ?_ ?_
      rotate_left
      · intro w'
        go_simp
        with_reducible rfl
      rotate_left
      · simp only [Act.put, List.setIfInBounds_toArray, List.set_cons_zero, List.set_cons_succ, i64_w, i32_w]
        rfl
      refine pure_ (i := 10) (N := some 42) (v := ?_) (a' := ?_) #[true, true, true, true, true, false, false, true, true, true, true, false, false, false, false, false, false] rfl rfl (by kernel_rfl) (fun _ _ _ h => h) (Or.inl ⟨by rfl, ?_⟩) ?_ ?_
      rotate_left
      · intro w'
        go_simp
        with_reducible rfl
      rotate_left
      · simp only [Act.put, List.setIfInBounds_toArray, List.set_cons_zero, List.set_cons_succ, i64_w, i32_w]
        rfl
      refine take_ (i := 5) (N := some 37) (v := ?_) (a' := ?_) #[true, true, true, true, true, true, false, true, true, true, true, false, false, false, false, false, false] rfl rfl (by kernel_rfl) (fun _ _ _ h => h) (Or.inl ⟨by rfl, ?_⟩) hHeld ?_ ?_
      rotate_left
      · rintro w' ⟨s0, s1, s2, s3, s4⟩
        go_simp
        with_reducible rfl
      rotate_left
      · simp only [Act.put, List.setIfInBounds_toArray, List.set_cons_zero, List.set_cons_succ, i64_w, i32_w]
        rfl
      refine pure_ (i := 6) (N := some 38) (v := ?_) (a' := ?_) #[true, true, true, true, true, true, true, true, true, true, true, false, false, false, false, false, false] rfl rfl (by kernel_rfl) (fun _ _ _ h => h) (Or.inl ⟨by rfl, ?_⟩) ?_ ?_
      rotate_left
      · intro w'
        go_simp
        with_reducible rfl
      rotate_left
      · simp only [Act.put, List.setIfInBounds_toArray, List.set_cons_zero, List.set_cons_succ, i64_w, i32_w]
        rfl
      refine take_ (i := 11) (N := some 43) (v := ?_) (a' := ?_) #[true, true, true, true, true, true, true, true, true, true, true, true, false, false, false, false, false] rfl rfl (by kernel_rfl) (fun _ _ _ h => h) (Or.inl ⟨by rfl, ?_⟩) hHeld ?_ ?_
      rotate_left
      · rintro w' ⟨s0, s1, s2, s3, s4⟩
        go_simp
        with_reducible rfl
      rotate_left
      · simp only [Act.put, List.setIfInBounds_toArray, List.set_cons_zero, List.set_cons_succ, i64_w, i32_w]
        rfl
      refine pure_ (i := 12) (N := some 44) (v := ?_) (a' := ?_) #[true, true, true, true, true, true, true, true, true, true, true, true, true, false, false, false, false] rfl rfl (by kernel_rfl) (fun _ _ _ h => h) (Or.inl ⟨by rfl, ?_⟩) ?_ ?_
      rotate_left
      · intro w'
        go_simp
        with_reducible rfl
      rotate_left
      · simp only [Act.put, List.setIfInBounds_toArray, List.set_cons_zero, List.set_cons_succ, i64_w, i32_w]
        rfl
      refine pure_ (i := 13) (N := some 45) (v := ?_) (a' := ?_) #[true, true, true, true, true, true, true, true, true, true, true, true, true, true, false, false, false] rfl rfl (by kernel_rfl) (fun _ _ _ h => h) (Or.inl ⟨by rfl, ?_⟩) ?_ ?_
      rotate_left
      · intro w'
        go_simp
        with_reducible rfl
      rotate_left
      · simp only [Act.put, List.setIfInBounds_toArray, List.set_cons_zero, List.set_cons_succ, i64_w, i32_w]
        rfl
      refine one_ (i := 14) (N := some 46) #[true, true, true, true, true, true, true, true, true, true, true, true, true, true, true, false, false] rfl rfl (by kernel_rfl) (by decide) (fun K hK => ?_)
      refine goes_ Tryd.func16 (by kernel_rfl) rfl #[.int .u64 (cc : Int)] (by rfl) rfl rfl (by simp only [List.map_toArray, List.map_cons, List.map_nil]; rfl) ?_
      with_reducible refine ((HZ.out ▸ c_size cc HCZ.out _)).mono ?_
      rintro e X14 ⟨rfl, hb⟩
      refine ⟨_, rfl, ?_⟩
      refine hK.out _ _ ⟨(below_of hb hHeld.1), (below_of hb hHeld.2.1), (HOn.Tab.below hHeld.2.2.1 hb), (Ro.below hHeld.2.2.2.1 hb), (below_step hHeld.2.2.2.2 hb)⟩ (fun hHeld => ?_)
      clear hK K
      refine norm_ (a' := ?_) ?_ ?_
      rotate_left
      · show Act.put _ (some 46) _ = _
        simp only [Act.put, List.setIfInBounds_toArray, List.set_cons_zero, List.set_cons_succ, i64_w, i32_w]
        rfl
      refine pure_ (i := 15) (N := some 47) (v := ?_) (a' := ?_) #[true, true, true, true, true, true, true, true, true, true, true, true, true, true, true, true, false] rfl rfl (by kernel_rfl) (fun _ _ _ h => h) (Or.inl ⟨by rfl, ?_⟩) ?_ ?_
      rotate_left
      · intro w'
        go_simp
        with_reducible rfl
      rotate_left
      · simp only [Act.put, List.setIfInBounds_toArray, List.set_cons_zero, List.set_cons_succ, i64_w, i32_w]
        rfl
      refine pure_ (i := 16) (N := some 3) (v := ?_) (a' := ?_) #[true, true, true, true, true, true, true, true, true, true, true, true, true, true, true, true, true] rfl rfl (by kernel_rfl) (fun _ _ _ h => h) (Or.inl ⟨by rfl, ?_⟩) ?_ ?_
      rotate_left
      · intro w'
        go_simp
        with_reducible rfl
      rotate_left
      · simp only [Act.put, List.setIfInBounds_toArray, List.set_cons_zero, List.set_cons_succ, i64_w, i32_w]
        rfl
      refine done_ (by kernel_rfl) ?_
      obtain ⟨_, _, hT2, hR2, hB2⟩ := hHeld
      have HT2 := Lib.hid hT2
      have HR2 := Lib.hid hR2
      have HB2 := Lib.hid hB2
      clear hT2 hR2 hB2
      go_wp2
      go_roundw
      case rel =>
        refine ⟨i + 1, by omega, by go_num, ?_, HT2, HR2, HB2⟩
        rw [HCT.out]
        go_num
      case measure => simp [intOf] <;> omega
    · obtain rfl : i = m := by omega
      rw [List.take_of_length_le (by have := HM.out; omega), HC.out]
      go_wp2_with fail
      refine (c_add' HR.out HM.out (by omega) 1 0 (by decide) rfl rfl).mono ?_
      rintro e w11 ⟨⟨B1, d1, rfl, ⟨hd1, hd2⟩, hB1⟩, hb⟩
      have HT_11 := Lib.hid (HT.out.below hb)
      have HB_11 := Lib.hid (below_step HB.out hb)
      have HR_11 := Lib.hid (HR.out.below hb)
      clear hb HT HB HR
      have HB1_11 := Lib.hid hB1
      clear hB1
      have ets := HTS.out
      have eus := HUS.out
      go_wp2_with fail
      refine (c_encode HT_11.out HR_11.out HM.out (by omega) (by omega) hcm).mono ?_
      rintro e w12 ⟨rfl, hb⟩
      rw [HTT.out]
      have HT_12 := Lib.hid (HT_11.out.below hb)
      have HB_12 := Lib.hid (below_step HB_11.out hb)
      have HR_12 := Lib.hid (HR_11.out.below hb)
      have HB1_12 := Lib.hid (HB1_11.out.below hb)
      clear hb HT_11 HB_11 HR_11 HB1_11
      go_wp2_with fail
      refine (c_encode HT_12.out HB1_12.out (show (M ++ [((1 : Int), (0 : Int))]).length = i + 1 by rw [List.length_append, HM.out]; rfl) (by omega) hd1 hd2).mono ?_
      rintro e w13 ⟨rfl, hb⟩
      rw [HU.out]
      have HT_13 := Lib.hid (HT_12.out.below hb)
      have HB_13 := Lib.hid (below_step HB_12.out hb)
      have HR_13 := Lib.hid (HR_12.out.below hb)
      have HB1_13 := Lib.hid (HB1_12.out.below hb)
      clear hb HT_12 HB_12 HR_12 HB1_12
      go_wp2_with fail
      refine (fixed_walk _ HT_13.out).mono ?_
      rintro e w99 ⟨rfl, hb⟩
      go_wp2
      go_ret
      exact ⟨rfl, below_step HB_13.out hb⟩
theorem packLong_row (A : Option Addr) (len cap : Nat) (L : List P) (w : World) (hT : HOn.Tab w) (hA : TkArg w A len cap L) :
    Calls Tryd.prog 6 #[.slice A len cap] w fun e w' => e = .returned (.bool true) ∧ Below w.heap.size w w' := by
  obtain ⟨hl, hlc, hcm, hno, hI, hRo⟩ := hA
  unfold maxLen at hcm
  obtain ⟨m, hm6, hml, hmin⟩ := min_fact len
  have hM : (L.take m).length = m := by rw [List.length_take]; omega
  cases hr : right (L.take m) with
  | false => exact walk_no A len cap m (L.take m) w hT hlc hcm hm6 hml hmin (Ro.take hRo m) hM hr
  | true => exact walk_yes A len cap m (L.take m) w hT hlc hcm hm6 hml hmin (Ro.take hRo m) hM hr
end Go.Proofs.YtakibnkhfmneiaaDoor.LPackLong
