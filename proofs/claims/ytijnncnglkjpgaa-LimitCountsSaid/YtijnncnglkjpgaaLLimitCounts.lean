/- LimitCounts: its walk. -/
import Derived.Test.YtijnncnglkjpgaaKOrd
namespace Go.Proofs.Ytijnncnglkjpgaa.LLimitCounts
open Go.RowKit KFlt KKind KRight KLeast KScale KMeter KStep KHold KFixed KArg KOrd Go.Proofs.YtijnncnglkjpgaaW.PrintWords Go.Proofs.YtijnncnglkjpgaaW.PrintLast Go.Proofs.YtijnncnglkjpgaaW.PrintMore
set_option linter.unusedVariables false
attribute [local go_sem] KKind.run_store_float
set_option linter.unusedSimpArgs false

theorem only_cell {w w' : World} {m : Nat} (h : Only m w w') {a : Addr} (hn : a.block ≠ m) {v : Value} (hc : w.cell? a = some v) : w'.cell? a = some v := (World.cell?_of_block (h.block a.block (World.block_lt_of_cell? w _ hc) hn)).trans hc
set_option maxRecDepth 100000 in
set_option maxHeartbeats 6400000 in
theorem bad_walk (a0 a1 : Nat) (A A2 : Option Addr) (len cap len2 cap2 : Nat) (w : World) (ha0 : a0 < 18446744073709551616) (ha1 : a1 < 18446744073709551616) (hR : rightB a0 a1 = false) :
    Calls Try.prog 4 #[.agg #[.float .f64 a0, .float .f64 a1], .slice A len cap, .slice A2 len2 cap2] w fun e w' => e = .returned (.bool true) ∧ Below w.heap.size w w' := by
  have BA := heap_alloc_new w (.cells #[.float .f64 a0, .float .f64 a1] 24)
  go_enter Try.func4, Try.ntmps4
  go_wp2_with fail
  refine (new_no _ _ ha0 ha1 hR _).mono ?_
  rintro e w1 ⟨rfl, hb⟩
  have x0 := below_of hb (blk_cell BA 0 (.float .f64 a0) rfl)
  have x1 := below_of hb (blk_cell BA 1 (.float .f64 a1) rfl)
  have HB := Lib.hid (below_step ((Below.refl w.heap.size w).alloc (Nat.le_refl _) _) hb)
  clear hb BA
  go_wp2_with fail
  refine (lawref_calls _ _ _).mono ?_
  rintro e w2 ⟨rfl, hb⟩
  have HB2 := Lib.hid (below_step HB.out hb)
  clear hb HB x0 x1
  go_wp2_with fail
  refine (refnew_no _ _ ha0 ha1 hR _).mono ?_
  rintro e w3 ⟨rfl, hb⟩
  have HB3 := Lib.hid (below_step HB2.out hb)
  clear hb HB2
  go_wp2
  go_loopw [11] (fun t wr => t = .int .i64 0 ∧ wr = w3) (fun t _ => 0)
  case atStart => exact ⟨rfl, rfl⟩
  case round =>
    obtain ⟨rfl, rfl⟩ := hrel
    go_wp2_with (go_at_call 19; (with_reducible refine (fixed_calls _).mono ?_); rintro e w6 ⟨rfl, hB7⟩)
    go_ret
    exact ⟨rfl, below_step HB3.out hB7⟩
set_option maxRecDepth 100000 in
set_option maxHeartbeats 6400000 in
theorem walk (a0 a1 : Nat) (A A2 : Option Addr) (len cap len2 cap2 : Nat) (Z : List Int) (Z2 : Nat → Bool) (w : World) (ha0 : a0 < 18446744073709551616) (ha1 : a1 < 18446744073709551616) (hR : rightB a0 a1 = true) (hA : IntArg w .i64 A len Z) (hA2 : BoolArg w A2 len2 Z2) :
    Calls Try.prog 4 #[.agg #[.float .f64 a0, .float .f64 a1], .slice A len cap, .slice A2 len2 cap2] w fun e w' => e = .returned (.bool true) ∧ Below w.heap.size w w' := by
  have hlen := hA.1
  have hmax := hA.2.1
  have hmax2 := hA2.1
  unfold maxLen at hmax hmax2
  have HA := Lib.hid hA.2.2.1
  have HW := Lib.hid hA.2.2.2
  have HA2 := Lib.hid hA2.2
  clear hA hA2
  have BA := heap_alloc_new w (.cells #[.float .f64 a0, .float .f64 a1] 24)
  go_enter Try.func4, Try.ntmps4
  go_wp2_with fail
  refine (new_yes _ _ ha0 ha1 hR _).mono ?_
  rintro e w1 ⟨m, rfl, hm, hl, hb⟩
  have x0 := below_of hb (blk_cell BA 0 (.float .f64 a0) rfl)
  have x1 := below_of hb (blk_cell BA 1 (.float .f64 a1) rfl)
  have HB := Lib.hid (below_step ((Below.refl w.heap.size w).alloc (Nat.le_refl _) _) hb)
  have LM := Lib.hid (show w.heap.size < m by simp at hl; omega)
  have HM := Lib.hid hm
  clear hb BA hm hl
  go_wp2_with fail
  refine (lawref_calls _ _ _).mono ?_
  rintro e w2 ⟨rfl, hb⟩
  have HB2 := Lib.hid (below_step HB.out hb)
  have HM2 := Lib.hid (HM.out.below hb)
  clear hb HB HM x0 x1
  go_wp2_with fail
  refine (refnew_yes _ _ ha0 ha1 hR _).mono ?_
  rintro e w3 ⟨r, rfl, hr, hl, hb⟩
  have HB3 := Lib.hid (below_step HB2.out hb)
  have LR := Lib.hid (show w.heap.size ≤ r from Nat.le_trans HB2.out.size hl)
  have MR := Lib.hid (show m ≠ r from Nat.ne_of_lt (Nat.lt_of_lt_of_le HM2.out.lt hl))
  have HM3 := Lib.hid (HM2.out.below hb)
  have HR3 := Lib.hid hr
  clear hb HB2 HM2 hr hl
  go_wp2
  go_loopw [11, 12, 13] (fun t _ _ wr => ∃ (i : Nat) (st he pk : Int), i ≤ len ∧ t = .int .i64 i ∧ 0 ≤ st ∧ st ≤ 4611686018427387904 ∧ 0 ≤ he ∧ he ≤ 4611686018427387904 ∧ Hid (MHas 71 wr m a0 a1 st he pk) ∧ Hid (MHas 53 wr r a0 a1 st he pk) ∧ Hid (Below w.heap.size w wr)) (fun t _ _ _ => len - (intOf t).toNat)
  case atStart => exact ⟨0, 0, 0, 0, by omega, rfl, by omega, by omega, by omega, by omega, HM3, HR3, HB3⟩
  case round =>
    obtain ⟨i, st, he, pk, hi, rfl, s0, s1, h0, h1, HM, HR, HB⟩ := hrel
    clear HM3 HR3 HB3
    by_cases h2 : i < len ∧ i < 40
    · obtain ⟨h2, h40⟩ := h2
      obtain ⟨b, o, rfl, d0⟩ := HA.out i (by omega)
      have hz := HW.out Z[i] (List.getElem_mem _)
      have lb := World.block_lt_of_cell? w _ d0
      have d0 := (HB.out.cell (show (⟨b, o + i, none⟩ : Addr).block < w.heap.size from lb)).trans d0
      have nm := Lib.hid (show b ≠ m from Nat.ne_of_lt (Nat.lt_trans lb LM.out))
      have nr := Lib.hid (show b ≠ r from Nat.ne_of_lt (Nat.lt_of_lt_of_le lb LR.out))
      generalize Z[i] = z at *
      have hz' : -9223372036854775808 ≤ z ∧ z < 9223372036854775808 := by
        simp [Lit.wf, IntKind.min, IntKind.max, IntKind.signed, IntKind.bits] at hz
        omega
      have HZ := Lib.hid hz'
      have S0 := Lib.hid s0
      have S1 := Lib.hid s1
      have H0 := Lib.hid h0
      have H1 := Lib.hid h1
      clear hz lb hz' s0 s1 h0 h1
      by_cases h5 : i < len2
      · obtain ⟨b2, o2, rfl, d1⟩ := HA2.out i h5
        have lb2 := World.block_lt_of_cell? w _ d1
        have d1 := (HB.out.cell (show (⟨b2, o2 + i, none⟩ : Addr).block < w.heap.size from lb2)).trans d1
        cases hB : Z2 i
        · rw [hB] at d1
          clear hB lb2
          go_wp2
          refine start_ (n := 13) (S := fun w' => w'.cell? ⟨b, o + i, none⟩ = some (.int .i64 z)) (ds := []) #[false, false, false, false, false, false, false, false, false, false, false, false, false] (by kernel_rfl) rfl rfl (d0) (fun hHeld => ?_)
          refine pure_ (i := 0) (N := some 76) (v := ?_) (a' := ?_) #[true, false, false, false, false, false, false, false, false, false, false, false, false] rfl rfl (by kernel_rfl) (fun _ _ _ h => h) (Or.inl ⟨by rfl, ?_⟩) ?_ ?_
          rotate_left
          · intro w'
            go_simp
            with_reducible rfl
          rotate_left
          · simp only [Act.put, List.setIfInBounds_toArray, List.set_cons_zero, List.set_cons_succ, i64_w, i32_w]
            rfl
          refine pure_ (i := 1) (N := some 77) (v := ?_) (a' := ?_) #[true, true, false, false, false, false, false, false, false, false, false, false, false] rfl rfl (by kernel_rfl) (fun _ _ _ h => h) (Or.inl ⟨by rfl, ?_⟩) ?_ ?_
          rotate_left
          · intro w'
            go_simp
            with_reducible rfl
          rotate_left
          · simp only [Act.put, List.setIfInBounds_toArray, List.set_cons_zero, List.set_cons_succ, i64_w, i32_w]
            rfl
          refine pure_ (i := 2) (N := some 78) (v := ?_) (a' := ?_) #[true, true, true, false, false, false, false, false, false, false, false, false, false] rfl rfl (by kernel_rfl) (fun _ _ _ h => h) (Or.inl ⟨by rfl, ?_⟩) ?_ ?_
          rotate_left
          · intro w'
            go_simp
            with_reducible rfl
          rotate_left
          · simp only [Act.put, List.setIfInBounds_toArray, List.set_cons_zero, List.set_cons_succ, i64_w, i32_w]
            rfl
          refine pure_ (i := 3) (N := some 79) (v := ?_) (a' := ?_) #[true, true, true, true, false, false, false, false, false, false, false, false, false] rfl rfl (by kernel_rfl) (fun _ _ _ h => h) (Or.inl ⟨by rfl, ?_⟩) ?_ ?_
          rotate_left
          · intro w'
            go_simp
            with_reducible rfl
          rotate_left
          · simp only [Act.put, List.setIfInBounds_toArray, List.set_cons_zero, List.set_cons_succ, i64_w, i32_w]
            rfl
          refine pure_ (i := 6) (N := some 82) (v := ?_) (a' := ?_) #[true, true, true, true, false, false, true, false, false, false, false, false, false] rfl rfl (by kernel_rfl) (fun _ _ _ h => h) (Or.inl ⟨by rfl, ?_⟩) ?_ ?_
          rotate_left
          · intro w'
            go_simp
            with_reducible rfl
          rotate_left
          · simp only [Act.put, List.setIfInBounds_toArray, List.set_cons_zero, List.set_cons_succ, i64_w, i32_w]
            rfl
          refine pure_ (i := 7) (N := some 83) (v := ?_) (a' := ?_) #[true, true, true, true, false, false, true, true, false, false, false, false, false] rfl rfl (by kernel_rfl) (fun _ _ _ h => h) (Or.inl ⟨by rfl, ?_⟩) ?_ ?_
          rotate_left
          · intro w'
            go_simp
            with_reducible rfl
          rotate_left
          · simp only [Act.put, List.setIfInBounds_toArray, List.set_cons_zero, List.set_cons_succ, i64_w, i32_w]
            rfl
          refine pure_ (i := 8) (N := some 84) (v := ?_) (a' := ?_) #[true, true, true, true, false, false, true, true, true, false, false, false, false] rfl rfl (by kernel_rfl) (fun _ _ _ h => h) (Or.inl ⟨by rfl, ?_⟩) ?_ ?_
          rotate_left
          · intro w'
            go_simp
            with_reducible rfl
          rotate_left
          · simp only [Act.put, List.setIfInBounds_toArray, List.set_cons_zero, List.set_cons_succ, i64_w, i32_w]
            rfl
          refine pure_ (i := 9) (N := some 85) (v := ?_) (a' := ?_) #[true, true, true, true, false, false, true, true, true, true, false, false, false] rfl rfl (by kernel_rfl) (fun _ _ _ h => h) (Or.inl ⟨by rfl, ?_⟩) ?_ ?_
          rotate_left
          · intro w'
            go_simp
            with_reducible rfl
          rotate_left
          · simp only [Act.put, List.setIfInBounds_toArray, List.set_cons_zero, List.set_cons_succ, i64_w, i32_w]
            rfl
          refine take_ (i := 4) (N := some 80) (v := ?_) (a' := ?_) #[true, true, true, true, true, false, true, true, true, true, false, false, false] rfl rfl (by kernel_rfl) (fun _ _ _ h => h) (Or.inl ⟨by rfl, ?_⟩) hHeld ?_ ?_
          rotate_left
          · intro w' s0
            go_simp
            with_reducible rfl
          rotate_left
          · simp only [Act.put, List.setIfInBounds_toArray, List.set_cons_zero, List.set_cons_succ, i64_w, i32_w]
            rfl
          refine take_ (i := 10) (N := some 86) (v := ?_) (a' := ?_) #[true, true, true, true, true, false, true, true, true, true, true, false, false] rfl rfl (by kernel_rfl) (fun _ _ _ h => h) (Or.inl ⟨by rfl, ?_⟩) hHeld ?_ ?_
          rotate_left
          · intro w' s0
            go_simp
            with_reducible rfl
          rotate_left
          · simp only [Act.put, List.setIfInBounds_toArray, List.set_cons_zero, List.set_cons_succ, i64_w, i32_w]
            rfl
          refine one_ (i := 5) (N := some 81) #[true, true, true, true, true, true, true, true, true, true, true, false, false] rfl rfl (by kernel_rfl) (by decide) (fun K hK => ?_)
          refine goes_ Try.func24 (by kernel_rfl) rfl #[.pointer (some ⟨m, 0, none⟩), .int .i64 z] (by rfl) rfl rfl (by simp only [List.map_toArray, List.map_cons, List.map_nil]; rfl) ?_
          with_reducible refine (hold_calls m a0 a1 st he pk z _ HM.out.drew H0.out H1.out HZ.out.1 HZ.out.2).mono ?_
          rintro e w6 ⟨rfl, hm6, ho6⟩
          refine ⟨_, rfl, ?_⟩
          refine hK.out _ _ ((only_cell ho6 nm.out hHeld)) (fun hHeld => ?_)
          clear hK K
          refine norm_ (a' := ?_) ?_ ?_
          rotate_left
          · show Act.put _ (some 81) _ = _
            simp only [Act.put, List.setIfInBounds_toArray, List.set_cons_zero, List.set_cons_succ, i64_w, i32_w]
            rfl
          refine one_ (i := 11) (N := some 87) #[true, true, true, true, true, true, true, true, true, true, true, true, false] rfl rfl (by kernel_rfl) (by decide) (fun K hK => ?_)
          refine goes_ Try.func25 (by kernel_rfl) rfl #[.pointer (some ⟨r, 0, none⟩), .int .i64 z] (by rfl) rfl rfl (by simp only [List.map_toArray, List.map_cons, List.map_nil]; rfl) ?_
          with_reducible refine (refhold_calls r a0 a1 st he pk z _ (HR.out.drew.only ho6 MR.out.symm) H0.out H1.out HZ.out.1 HZ.out.2).mono ?_
          rintro e w7 ⟨rfl, hr7, ho7⟩
          refine ⟨_, rfl, ?_⟩
          refine hK.out _ _ ((only_cell ho7 nr.out hHeld)) (fun hHeld => ?_)
          clear hK K
          refine norm_ (a' := ?_) ?_ ?_
          rotate_left
          · show Act.put _ (some 87) _ = _
            simp only [Act.put, List.setIfInBounds_toArray, List.set_cons_zero, List.set_cons_succ, i64_w, i32_w]
            rfl
          refine pure_ (i := 12) (N := some 88) (v := ?_) (a' := ?_) #[true, true, true, true, true, true, true, true, true, true, true, true, true] rfl rfl (by kernel_rfl) (fun _ _ _ h => h) (Or.inl ⟨by rfl, ?_⟩) ?_ ?_
          rotate_left
          · intro w'
            go_simp
            with_reducible rfl
          rotate_left
          · simp only [Act.put, List.setIfInBounds_toArray, List.set_cons_zero, List.set_cons_succ, i64_w, i32_w]
            rfl
          refine done_ (by kernel_rfl) ?_
          have HM7 := Lib.hid (hm6.only ho7 MR.out)
          have HR7 := Lib.hid hr7
          have HB6 := Only.below HB.out.drew ho6 (Nat.le_of_lt LM.out) HB.out.size
          have HB7 := Lib.hid (Only.below HB6 ho7 LR.out HB6.size)
          clear HB6 hm6 ho6 hr7 ho7 d0 HM HR HB
          go_wp2_with fail
          refine (used_calls _ _ _ _ _ _ _ HM7.out).mono ?_
          rintro e w8 ⟨rfl, hb⟩
          have HM8 := Lib.hid (HM7.out.below hb)
          have HR8 := Lib.hid (HR7.out.below hb)
          have HB8 := Lib.hid (below_step HB7.out hb)
          clear hb HM7 HR7 HB7
          obtain ⟨_, _, c2, _, c4, _⟩ := HR8.out.cells
          go_wp2
          go_roundw
          case rel => exact ⟨i + 1, st, holdF he z, max pk (holdF he z), by omega, by simp, S0.out, S1.out, (holdF_range H0.out H1.out).1, (holdF_range H0.out H1.out).2, HM8, HR8, HB8⟩
          case measure => simp [intOf]; omega
        · rw [hB] at d1
          clear hB lb2
          go_wp2
          refine start_ (n := 13) (S := fun w' => w'.cell? ⟨b, o + i, none⟩ = some (.int .i64 z)) (ds := []) #[false, false, false, false, false, false, false, false, false, false, false, false, false] (by kernel_rfl) rfl rfl (d0) (fun hHeld => ?_)
          refine pure_ (i := 0) (N := some 63) (v := ?_) (a' := ?_) #[true, false, false, false, false, false, false, false, false, false, false, false, false] rfl rfl (by kernel_rfl) (fun _ _ _ h => h) (Or.inl ⟨by rfl, ?_⟩) ?_ ?_
          rotate_left
          · intro w'
            go_simp
            with_reducible rfl
          rotate_left
          · simp only [Act.put, List.setIfInBounds_toArray, List.set_cons_zero, List.set_cons_succ, i64_w, i32_w]
            rfl
          refine pure_ (i := 1) (N := some 64) (v := ?_) (a' := ?_) #[true, true, false, false, false, false, false, false, false, false, false, false, false] rfl rfl (by kernel_rfl) (fun _ _ _ h => h) (Or.inl ⟨by rfl, ?_⟩) ?_ ?_
          rotate_left
          · intro w'
            go_simp
            with_reducible rfl
          rotate_left
          · simp only [Act.put, List.setIfInBounds_toArray, List.set_cons_zero, List.set_cons_succ, i64_w, i32_w]
            rfl
          refine pure_ (i := 2) (N := some 65) (v := ?_) (a' := ?_) #[true, true, true, false, false, false, false, false, false, false, false, false, false] rfl rfl (by kernel_rfl) (fun _ _ _ h => h) (Or.inl ⟨by rfl, ?_⟩) ?_ ?_
          rotate_left
          · intro w'
            go_simp
            with_reducible rfl
          rotate_left
          · simp only [Act.put, List.setIfInBounds_toArray, List.set_cons_zero, List.set_cons_succ, i64_w, i32_w]
            rfl
          refine pure_ (i := 3) (N := some 66) (v := ?_) (a' := ?_) #[true, true, true, true, false, false, false, false, false, false, false, false, false] rfl rfl (by kernel_rfl) (fun _ _ _ h => h) (Or.inl ⟨by rfl, ?_⟩) ?_ ?_
          rotate_left
          · intro w'
            go_simp
            with_reducible rfl
          rotate_left
          · simp only [Act.put, List.setIfInBounds_toArray, List.set_cons_zero, List.set_cons_succ, i64_w, i32_w]
            rfl
          refine pure_ (i := 6) (N := some 69) (v := ?_) (a' := ?_) #[true, true, true, true, false, false, true, false, false, false, false, false, false] rfl rfl (by kernel_rfl) (fun _ _ _ h => h) (Or.inl ⟨by rfl, ?_⟩) ?_ ?_
          rotate_left
          · intro w'
            go_simp
            with_reducible rfl
          rotate_left
          · simp only [Act.put, List.setIfInBounds_toArray, List.set_cons_zero, List.set_cons_succ, i64_w, i32_w]
            rfl
          refine pure_ (i := 7) (N := some 70) (v := ?_) (a' := ?_) #[true, true, true, true, false, false, true, true, false, false, false, false, false] rfl rfl (by kernel_rfl) (fun _ _ _ h => h) (Or.inl ⟨by rfl, ?_⟩) ?_ ?_
          rotate_left
          · intro w'
            go_simp
            with_reducible rfl
          rotate_left
          · simp only [Act.put, List.setIfInBounds_toArray, List.set_cons_zero, List.set_cons_succ, i64_w, i32_w]
            rfl
          refine pure_ (i := 8) (N := some 71) (v := ?_) (a' := ?_) #[true, true, true, true, false, false, true, true, true, false, false, false, false] rfl rfl (by kernel_rfl) (fun _ _ _ h => h) (Or.inl ⟨by rfl, ?_⟩) ?_ ?_
          rotate_left
          · intro w'
            go_simp
            with_reducible rfl
          rotate_left
          · simp only [Act.put, List.setIfInBounds_toArray, List.set_cons_zero, List.set_cons_succ, i64_w, i32_w]
            rfl
          refine pure_ (i := 9) (N := some 72) (v := ?_) (a' := ?_) #[true, true, true, true, false, false, true, true, true, true, false, false, false] rfl rfl (by kernel_rfl) (fun _ _ _ h => h) (Or.inl ⟨by rfl, ?_⟩) ?_ ?_
          rotate_left
          · intro w'
            go_simp
            with_reducible rfl
          rotate_left
          · simp only [Act.put, List.setIfInBounds_toArray, List.set_cons_zero, List.set_cons_succ, i64_w, i32_w]
            rfl
          refine take_ (i := 4) (N := some 67) (v := ?_) (a' := ?_) #[true, true, true, true, true, false, true, true, true, true, false, false, false] rfl rfl (by kernel_rfl) (fun _ _ _ h => h) (Or.inl ⟨by rfl, ?_⟩) hHeld ?_ ?_
          rotate_left
          · intro w' s0
            go_simp
            with_reducible rfl
          rotate_left
          · simp only [Act.put, List.setIfInBounds_toArray, List.set_cons_zero, List.set_cons_succ, i64_w, i32_w]
            rfl
          refine take_ (i := 10) (N := some 73) (v := ?_) (a' := ?_) #[true, true, true, true, true, false, true, true, true, true, true, false, false] rfl rfl (by kernel_rfl) (fun _ _ _ h => h) (Or.inl ⟨by rfl, ?_⟩) hHeld ?_ ?_
          rotate_left
          · intro w' s0
            go_simp
            with_reducible rfl
          rotate_left
          · simp only [Act.put, List.setIfInBounds_toArray, List.set_cons_zero, List.set_cons_succ, i64_w, i32_w]
            rfl
          refine one_ (i := 5) (N := some 68) #[true, true, true, true, true, true, true, true, true, true, true, false, false] rfl rfl (by kernel_rfl) (by decide) (fun K hK => ?_)
          refine goes_ Try.func22 (by kernel_rfl) rfl #[.pointer (some ⟨m, 0, none⟩), .int .i64 z] (by rfl) rfl rfl (by simp only [List.map_toArray, List.map_cons, List.map_nil]; rfl) ?_
          with_reducible refine (step_calls m a0 a1 st he pk z _ HM.out.drew S0.out S1.out HZ.out.1 HZ.out.2).mono ?_
          rintro e w6 ⟨rfl, hm6, ho6⟩
          refine ⟨_, rfl, ?_⟩
          refine hK.out _ _ ((only_cell ho6 nm.out hHeld)) (fun hHeld => ?_)
          clear hK K
          refine norm_ (a' := ?_) ?_ ?_
          rotate_left
          · show Act.put _ (some 68) _ = _
            simp only [Act.put, List.setIfInBounds_toArray, List.set_cons_zero, List.set_cons_succ, i64_w, i32_w]
            rfl
          refine one_ (i := 11) (N := some 74) #[true, true, true, true, true, true, true, true, true, true, true, true, false] rfl rfl (by kernel_rfl) (by decide) (fun K hK => ?_)
          refine goes_ Try.func23 (by kernel_rfl) rfl #[.pointer (some ⟨r, 0, none⟩), .int .i64 z] (by rfl) rfl rfl (by simp only [List.map_toArray, List.map_cons, List.map_nil]; rfl) ?_
          with_reducible refine (refstep_calls r a0 a1 st he pk z _ (HR.out.drew.only ho6 MR.out.symm) S0.out S1.out HZ.out.1 HZ.out.2).mono ?_
          rintro e w7 ⟨rfl, hr7, ho7⟩
          refine ⟨_, rfl, ?_⟩
          refine hK.out _ _ ((only_cell ho7 nr.out hHeld)) (fun hHeld => ?_)
          clear hK K
          refine norm_ (a' := ?_) ?_ ?_
          rotate_left
          · show Act.put _ (some 74) _ = _
            simp only [Act.put, List.setIfInBounds_toArray, List.set_cons_zero, List.set_cons_succ, i64_w, i32_w]
            rfl
          refine pure_ (i := 12) (N := some 75) (v := ?_) (a' := ?_) #[true, true, true, true, true, true, true, true, true, true, true, true, true] rfl rfl (by kernel_rfl) (fun _ _ _ h => h) (Or.inl ⟨by rfl, ?_⟩) ?_ ?_
          rotate_left
          · intro w'
            go_simp
            with_reducible rfl
          rotate_left
          · simp only [Act.put, List.setIfInBounds_toArray, List.set_cons_zero, List.set_cons_succ, i64_w, i32_w]
            rfl
          refine done_ (by kernel_rfl) ?_
          have HM7 := Lib.hid (hm6.only ho7 MR.out)
          have HR7 := Lib.hid hr7
          have HB6 := Only.below HB.out.drew ho6 (Nat.le_of_lt LM.out) HB.out.size
          have HB7 := Lib.hid (Only.below HB6 ho7 LR.out HB6.size)
          clear HB6 hm6 ho6 hr7 ho7 d0 HM HR HB
          go_wp2_with fail
          refine (used_calls _ _ _ _ _ _ _ HM7.out).mono ?_
          rintro e w8 ⟨rfl, hb⟩
          have HM8 := Lib.hid (HM7.out.below hb)
          have HR8 := Lib.hid (HR7.out.below hb)
          have HB8 := Lib.hid (below_step HB7.out hb)
          clear hb HM7 HR7 HB7
          obtain ⟨_, _, c2, _, c4, _⟩ := HR8.out.cells
          go_wp2
          go_roundw
          case rel => exact ⟨i + 1, stepF st z, he, pk, by omega, by simp, (stepF_range S0.out S1.out).1, (stepF_range S0.out S1.out).2, H0.out, H1.out, HM8, HR8, HB8⟩
          case measure => simp [intOf]; omega
      · skip
        go_wp2
        refine start_ (n := 13) (S := fun w' => w'.cell? ⟨b, o + i, none⟩ = some (.int .i64 z)) (ds := []) #[false, false, false, false, false, false, false, false, false, false, false, false, false] (by kernel_rfl) rfl rfl (d0) (fun hHeld => ?_)
        refine pure_ (i := 0) (N := some 76) (v := ?_) (a' := ?_) #[true, false, false, false, false, false, false, false, false, false, false, false, false] rfl rfl (by kernel_rfl) (fun _ _ _ h => h) (Or.inl ⟨by rfl, ?_⟩) ?_ ?_
        rotate_left
        · intro w'
          go_simp
          with_reducible rfl
        rotate_left
        · simp only [Act.put, List.setIfInBounds_toArray, List.set_cons_zero, List.set_cons_succ, i64_w, i32_w]
          rfl
        refine pure_ (i := 1) (N := some 77) (v := ?_) (a' := ?_) #[true, true, false, false, false, false, false, false, false, false, false, false, false] rfl rfl (by kernel_rfl) (fun _ _ _ h => h) (Or.inl ⟨by rfl, ?_⟩) ?_ ?_
        rotate_left
        · intro w'
          go_simp
          with_reducible rfl
        rotate_left
        · simp only [Act.put, List.setIfInBounds_toArray, List.set_cons_zero, List.set_cons_succ, i64_w, i32_w]
          rfl
        refine pure_ (i := 2) (N := some 78) (v := ?_) (a' := ?_) #[true, true, true, false, false, false, false, false, false, false, false, false, false] rfl rfl (by kernel_rfl) (fun _ _ _ h => h) (Or.inl ⟨by rfl, ?_⟩) ?_ ?_
        rotate_left
        · intro w'
          go_simp
          with_reducible rfl
        rotate_left
        · simp only [Act.put, List.setIfInBounds_toArray, List.set_cons_zero, List.set_cons_succ, i64_w, i32_w]
          rfl
        refine pure_ (i := 3) (N := some 79) (v := ?_) (a' := ?_) #[true, true, true, true, false, false, false, false, false, false, false, false, false] rfl rfl (by kernel_rfl) (fun _ _ _ h => h) (Or.inl ⟨by rfl, ?_⟩) ?_ ?_
        rotate_left
        · intro w'
          go_simp
          with_reducible rfl
        rotate_left
        · simp only [Act.put, List.setIfInBounds_toArray, List.set_cons_zero, List.set_cons_succ, i64_w, i32_w]
          rfl
        refine pure_ (i := 6) (N := some 82) (v := ?_) (a' := ?_) #[true, true, true, true, false, false, true, false, false, false, false, false, false] rfl rfl (by kernel_rfl) (fun _ _ _ h => h) (Or.inl ⟨by rfl, ?_⟩) ?_ ?_
        rotate_left
        · intro w'
          go_simp
          with_reducible rfl
        rotate_left
        · simp only [Act.put, List.setIfInBounds_toArray, List.set_cons_zero, List.set_cons_succ, i64_w, i32_w]
          rfl
        refine pure_ (i := 7) (N := some 83) (v := ?_) (a' := ?_) #[true, true, true, true, false, false, true, true, false, false, false, false, false] rfl rfl (by kernel_rfl) (fun _ _ _ h => h) (Or.inl ⟨by rfl, ?_⟩) ?_ ?_
        rotate_left
        · intro w'
          go_simp
          with_reducible rfl
        rotate_left
        · simp only [Act.put, List.setIfInBounds_toArray, List.set_cons_zero, List.set_cons_succ, i64_w, i32_w]
          rfl
        refine pure_ (i := 8) (N := some 84) (v := ?_) (a' := ?_) #[true, true, true, true, false, false, true, true, true, false, false, false, false] rfl rfl (by kernel_rfl) (fun _ _ _ h => h) (Or.inl ⟨by rfl, ?_⟩) ?_ ?_
        rotate_left
        · intro w'
          go_simp
          with_reducible rfl
        rotate_left
        · simp only [Act.put, List.setIfInBounds_toArray, List.set_cons_zero, List.set_cons_succ, i64_w, i32_w]
          rfl
        refine pure_ (i := 9) (N := some 85) (v := ?_) (a' := ?_) #[true, true, true, true, false, false, true, true, true, true, false, false, false] rfl rfl (by kernel_rfl) (fun _ _ _ h => h) (Or.inl ⟨by rfl, ?_⟩) ?_ ?_
        rotate_left
        · intro w'
          go_simp
          with_reducible rfl
        rotate_left
        · simp only [Act.put, List.setIfInBounds_toArray, List.set_cons_zero, List.set_cons_succ, i64_w, i32_w]
          rfl
        refine take_ (i := 4) (N := some 80) (v := ?_) (a' := ?_) #[true, true, true, true, true, false, true, true, true, true, false, false, false] rfl rfl (by kernel_rfl) (fun _ _ _ h => h) (Or.inl ⟨by rfl, ?_⟩) hHeld ?_ ?_
        rotate_left
        · intro w' s0
          go_simp
          with_reducible rfl
        rotate_left
        · simp only [Act.put, List.setIfInBounds_toArray, List.set_cons_zero, List.set_cons_succ, i64_w, i32_w]
          rfl
        refine take_ (i := 10) (N := some 86) (v := ?_) (a' := ?_) #[true, true, true, true, true, false, true, true, true, true, true, false, false] rfl rfl (by kernel_rfl) (fun _ _ _ h => h) (Or.inl ⟨by rfl, ?_⟩) hHeld ?_ ?_
        rotate_left
        · intro w' s0
          go_simp
          with_reducible rfl
        rotate_left
        · simp only [Act.put, List.setIfInBounds_toArray, List.set_cons_zero, List.set_cons_succ, i64_w, i32_w]
          rfl
        refine one_ (i := 5) (N := some 81) #[true, true, true, true, true, true, true, true, true, true, true, false, false] rfl rfl (by kernel_rfl) (by decide) (fun K hK => ?_)
        refine goes_ Try.func24 (by kernel_rfl) rfl #[.pointer (some ⟨m, 0, none⟩), .int .i64 z] (by rfl) rfl rfl (by simp only [List.map_toArray, List.map_cons, List.map_nil]; rfl) ?_
        with_reducible refine (hold_calls m a0 a1 st he pk z _ HM.out.drew H0.out H1.out HZ.out.1 HZ.out.2).mono ?_
        rintro e w6 ⟨rfl, hm6, ho6⟩
        refine ⟨_, rfl, ?_⟩
        refine hK.out _ _ ((only_cell ho6 nm.out hHeld)) (fun hHeld => ?_)
        clear hK K
        refine norm_ (a' := ?_) ?_ ?_
        rotate_left
        · show Act.put _ (some 81) _ = _
          simp only [Act.put, List.setIfInBounds_toArray, List.set_cons_zero, List.set_cons_succ, i64_w, i32_w]
          rfl
        refine one_ (i := 11) (N := some 87) #[true, true, true, true, true, true, true, true, true, true, true, true, false] rfl rfl (by kernel_rfl) (by decide) (fun K hK => ?_)
        refine goes_ Try.func25 (by kernel_rfl) rfl #[.pointer (some ⟨r, 0, none⟩), .int .i64 z] (by rfl) rfl rfl (by simp only [List.map_toArray, List.map_cons, List.map_nil]; rfl) ?_
        with_reducible refine (refhold_calls r a0 a1 st he pk z _ (HR.out.drew.only ho6 MR.out.symm) H0.out H1.out HZ.out.1 HZ.out.2).mono ?_
        rintro e w7 ⟨rfl, hr7, ho7⟩
        refine ⟨_, rfl, ?_⟩
        refine hK.out _ _ ((only_cell ho7 nr.out hHeld)) (fun hHeld => ?_)
        clear hK K
        refine norm_ (a' := ?_) ?_ ?_
        rotate_left
        · show Act.put _ (some 87) _ = _
          simp only [Act.put, List.setIfInBounds_toArray, List.set_cons_zero, List.set_cons_succ, i64_w, i32_w]
          rfl
        refine pure_ (i := 12) (N := some 88) (v := ?_) (a' := ?_) #[true, true, true, true, true, true, true, true, true, true, true, true, true] rfl rfl (by kernel_rfl) (fun _ _ _ h => h) (Or.inl ⟨by rfl, ?_⟩) ?_ ?_
        rotate_left
        · intro w'
          go_simp
          with_reducible rfl
        rotate_left
        · simp only [Act.put, List.setIfInBounds_toArray, List.set_cons_zero, List.set_cons_succ, i64_w, i32_w]
          rfl
        refine done_ (by kernel_rfl) ?_
        have HM7 := Lib.hid (hm6.only ho7 MR.out)
        have HR7 := Lib.hid hr7
        have HB6 := Only.below HB.out.drew ho6 (Nat.le_of_lt LM.out) HB.out.size
        have HB7 := Lib.hid (Only.below HB6 ho7 LR.out HB6.size)
        clear HB6 hm6 ho6 hr7 ho7 d0 HM HR HB
        go_wp2_with fail
        refine (used_calls _ _ _ _ _ _ _ HM7.out).mono ?_
        rintro e w8 ⟨rfl, hb⟩
        have HM8 := Lib.hid (HM7.out.below hb)
        have HR8 := Lib.hid (HR7.out.below hb)
        have HB8 := Lib.hid (below_step HB7.out hb)
        clear hb HM7 HR7 HB7
        obtain ⟨_, _, c2, _, c4, _⟩ := HR8.out.cells
        go_wp2
        go_roundw
        case rel => exact ⟨i + 1, st, holdF he z, max pk (holdF he z), by omega, by simp, S0.out, S1.out, (holdF_range H0.out H1.out).1, (holdF_range H0.out H1.out).2, HM8, HR8, HB8⟩
        case measure => simp [intOf]; omega
    · by_cases h3 : i < len
      · have h4 : 40 ≤ i := by omega
        go_wp2_with (go_at_call 19; (with_reducible refine (fixed_calls _).mono ?_); rintro e w6 ⟨rfl, hB7⟩)
        go_ret
        exact ⟨rfl, below_step HB.out hB7⟩
      · go_wp2_with (go_at_call 19; (with_reducible refine (fixed_calls _).mono ?_); rintro e w6 ⟨rfl, hB7⟩)
        go_ret
        exact ⟨rfl, below_step HB.out hB7⟩
theorem limitCounts_row (a : Nat × Nat) (A : Option Addr) (len cap : Nat) (Z : List Int) (A2 : Option Addr) (len2 cap2 : Nat) (Z2 : Nat → Bool) (w : World) (ha : a.1 < 18446744073709551616 ∧ a.2 < 18446744073709551616) (hA : IntArg w .i64 A len Z) (hA2 : BoolArg w A2 len2 Z2) :
    Calls Try.prog 4 #[.agg #[.float .f64 a.1, .float .f64 a.2], .slice A len cap, .slice A2 len2 cap2] w fun e w' => e = .returned (.bool true) ∧ Below w.heap.size w w' := by
  cases hR : rightB a.1 a.2
  · exact bad_walk _ _ A A2 len cap len2 cap2 w ha.1 ha.2 hR
  · exact walk _ _ A A2 len cap len2 cap2 Z Z2 w ha.1 ha.2 hR hA hA2
end Go.Proofs.Ytijnncnglkjpgaa.LLimitCounts
