/- LimitEnds: its walk. -/
import Derived.Test.YtijnncnglkjpgaaKEnds
namespace Go.Proofs.Ytijnncnglkjpgaa.LLimitEnds
open Go.RowKit KFlt KKind KRight KLeast KScale KMeter KStep KHold KFixed KArg KOrd KEnds Go.Proofs.YtijnncnglkjpgaaW.PrintWords Go.Proofs.YtijnncnglkjpgaaW.PrintLast Go.Proofs.YtijnncnglkjpgaaW.PrintMore
set_option linter.unusedVariables false
attribute [local go_sem] KKind.run_store_float
set_option linter.unusedSimpArgs false

theorem lt_of_blk {w : World} {b : Nat} {o : Obj} (h : w.heap[b]? = some o) : b < w.heap.size := by
  rcases Nat.lt_or_ge b w.heap.size with hl | hl
  · exact hl
  · rw [Array.getElem?_eq_none hl] at h; cases h
attribute [-go_sem] Go.run_eql_struct in
set_option maxRecDepth 100000 in
set_option maxHeartbeats 6400000 in
theorem walk (n x : Nat) (w : World) (hn : n < 4294967296) (hx : x < 4294967296) :
    Calls Try.prog 6 #[.int .u32 n, .int .u32 x] w fun e w' => e = .returned (.bool true) ∧ Below w.heap.size w w' := by
  obtain ⟨d, e, hS1, hS2, hd, he⟩ := scale_both x n hx hn
  have hfx := fl_eq x (by omega)
  have hfn := fl_eq n (by omega)
  have lx := rn_lt x hx
  have ln := rn_lt n hn
  have nx := (key_rn x (by omega)).2.1
  have nn := (key_rn n (by omega)).2.1
  have hse := fun W => eq_budget (rn x) (rn n) (rn x) (rn n) W
  rw [f_eq nx nx, f_eq nn nn] at hse
  simp only [decide_true, Bool.and_self] at hse
  have HSE := Lib.hid hse
  have S1 := Lib.hid hS1
  have S2 := Lib.hid hS2
  clear hse hS1 hS2 nx nn
  generalize rn x = fx at *
  generalize rn n = fn at *
  go_enter Try.func6, Try.ntmps6
  go_wp2_with fail
  refine (inf_calls _).mono ?_
  rintro e w0 ⟨rfl, h⟩
  subst w0
  go_wp2_with fail
  refine (new_yes _ _ (by decide) (by decide) (by kernel_rfl) _).mono ?_
  rintro e w1 ⟨m, rfl, hm, hl, hb⟩
  have HM := Lib.hid hm
  have LM := Lib.hid hl
  have HB := Lib.hid hb
  clear hm hl hb
  go_wp2_with fail
  refine (copysign_calls _).mono ?_
  rintro e w2 ⟨rfl, h⟩
  subst w2
  go_wp2_with fail
  refine (new_yes _ _ (by decide) (by decide) (by kernel_rfl) _).mono ?_
  rintro e w2 ⟨z, rfl, hm, hl, hb⟩
  have MZ := Lib.hid (show m ≠ z from Nat.ne_of_lt (Nat.lt_of_lt_of_le HM.out.lt hl))
  have LZ := Lib.hid (show w.heap.size ≤ z from Nat.le_trans HB.out.size hl)
  have HZ := Lib.hid (hm.below ((Below.refl _ _).alloc (Nat.le_refl _) (.cells #[.float .f64 fx, .float .f64 fn] 24)))
  have BM := Lib.hid (heap_alloc_new w2 (.cells #[.float .f64 fx, .float .f64 fn] 24))
  have Mq := Lib.hid (show w2.heap.size ≠ m from Nat.ne_of_gt (Nat.lt_of_lt_of_le HM.out.lt hb.size))
  have Zq := Lib.hid (show w2.heap.size ≠ z from Nat.ne_of_gt hm.lt)
  have HM := Lib.hid ((HM.out.below hb).below ((Below.refl _ _).alloc (Nat.le_refl _) (.cells #[.float .f64 fx, .float .f64 fn] 24)))
  have HB := Lib.hid ((below_step HB.out hb).alloc (by have := HB.out.size; have := hb.size; omega) (.cells #[.float .f64 fx, .float .f64 fn] 24))
  clear hm hl hb
  have b0 := blk_cell BM.out 0 (.float .f64 fx) rfl
  have b1 := blk_cell BM.out 1 (.float .f64 fn) rfl
  go_wp2_with fail
  generalize (w2.alloc (.cells #[.float .f64 fx, .float .f64 fn] 24)) = w3 at *
  generalize w2.heap.size = q at *
  refine (scale_is S1.out (by omega) (by omega) (by decide) _).mono ?_
  rintro e w4 ⟨rfl, hb⟩
  have HM4 := Lib.hid ((HM.out.below hb).below ((Below.refl _ _).alloc (Nat.le_refl _) (.cells #[.float .f64 d, .float .f64 e] 24)))
  have HZ4 := Lib.hid ((HZ.out.below hb).below ((Below.refl _ _).alloc (Nat.le_refl _) (.cells #[.float .f64 d, .float .f64 e] 24)))
  have BM4 := Lib.hid (blk_alloc ((hb.block _ (lt_of_blk BM.out)).trans BM.out) (.cells #[.float .f64 d, .float .f64 e] 24))
  have BC := Lib.hid (heap_alloc_new w4 (.cells #[.float .f64 d, .float .f64 e] 24))
  have HB4 := Lib.hid ((below_step HB.out hb).alloc (by have := HB.out.size; have := hb.size; omega) (.cells #[.float .f64 d, .float .f64 e] 24))
  clear hb b0 b1 HM HZ BM HB
  have b0 := blk_cell BC.out 0 (.float .f64 d) rfl
  have b1 := blk_cell BC.out 1 (.float .f64 e) rfl
  go_wp2_with fail
  generalize (w4.alloc (.cells #[.float .f64 d, .float .f64 e] 24)) = w5 at *
  refine (scale_is S2.out (by omega) (by omega) (by decide) _).mono ?_
  rintro e w6 ⟨rfl, hb⟩
  have HM := Lib.hid ((HM4.out.below hb).below ((Below.refl _ _).alloc (Nat.le_refl _) (.cells #[.float .f64 fx, .float .f64 fn] 24)))
  have HZ := Lib.hid ((HZ4.out.below hb).below ((Below.refl _ _).alloc (Nat.le_refl _) (.cells #[.float .f64 fx, .float .f64 fn] 24)))
  have BM := Lib.hid (blk_alloc ((hb.block _ (lt_of_blk BM4.out)).trans BM4.out) (.cells #[.float .f64 fx, .float .f64 fn] 24))
  have BD := Lib.hid (heap_alloc_new w6 (.cells #[.float .f64 fx, .float .f64 fn] 24))
  have Mp := Lib.hid (show w6.heap.size ≠ m from Nat.ne_of_gt (Nat.lt_of_lt_of_le HM4.out.lt hb.size))
  have Zp := Lib.hid (show w6.heap.size ≠ z from Nat.ne_of_gt (Nat.lt_of_lt_of_le HZ4.out.lt hb.size))
  have HB := Lib.hid ((below_step HB4.out hb).alloc (by have := HB4.out.size; have := hb.size; omega) (.cells #[.float .f64 fx, .float .f64 fn] 24))
  clear hb b0 b1 HM4 HZ4 BM4 HB4 BC
  go_wp2_with fail
  generalize (w6.alloc (.cells #[.float .f64 fx, .float .f64 fn] 24)) = w7 at *
  generalize w6.heap.size = p at *
  refine (step_is (st' := (1 + (n : Int))) (by unfold stepF; omega) (le_inf (by omega) (by omega)) _ HM.out (by omega) (by omega) (by omega) (by omega)).mono ?_
  rintro e w8 ⟨rfl, hm, ho⟩
  have HZ := Lib.hid (HZ.out.only ho MZ.out.symm)
  have HM := Lib.hid hm
  have BM := Lib.hid ((ho.block _ (lt_of_blk BM.out) Mq.out).trans BM.out)
  have BD := Lib.hid ((ho.block _ (lt_of_blk BD.out) Mp.out).trans BD.out)
  have HB := Lib.hid (Only.below HB.out ho LM.out HB.out.size)
  clear hm ho
  go_wp2_with fail
  refine (hold_is (he' := (1 + (n : Int))) (pk' := (1 + (n : Int))) (by unfold holdF; omega) (by omega) (le_inf (by omega) (by omega)) _ HM.out (by omega) (by omega) (by omega) (by omega)).mono ?_
  rintro e w9 ⟨rfl, hm, ho⟩
  have HZ := Lib.hid (HZ.out.only ho MZ.out.symm)
  have HM := Lib.hid hm
  have BM := Lib.hid ((ho.block _ (lt_of_blk BM.out) Mq.out).trans BM.out)
  have BD := Lib.hid ((ho.block _ (lt_of_blk BD.out) Mp.out).trans BD.out)
  have HB := Lib.hid (Only.below HB.out ho LM.out HB.out.size)
  clear hm ho
  go_wp2_with fail
  refine (step_is (st' := 4611686018427387904) (by unfold stepF; omega) (le_inf (by omega) (by omega)) _ HM.out (by omega) (by omega) (by omega) (by omega)).mono ?_
  rintro e w10 ⟨rfl, hm, ho⟩
  have HZ := Lib.hid (HZ.out.only ho MZ.out.symm)
  have HM := Lib.hid hm
  have BM := Lib.hid ((ho.block _ (lt_of_blk BM.out) Mq.out).trans BM.out)
  have BD := Lib.hid ((ho.block _ (lt_of_blk BD.out) Mp.out).trans BD.out)
  have HB := Lib.hid (Only.below HB.out ho LM.out HB.out.size)
  clear hm ho
  go_wp2_with fail
  refine (step_is (st' := 4611686018427387904) (by unfold stepF; omega) (le_inf (by omega) (by omega)) _ HM.out (by omega) (by omega) (by omega) (by omega)).mono ?_
  rintro e w11 ⟨rfl, hm, ho⟩
  have HZ := Lib.hid (HZ.out.only ho MZ.out.symm)
  have HM := Lib.hid hm
  have BM := Lib.hid ((ho.block _ (lt_of_blk BM.out) Mq.out).trans BM.out)
  have BD := Lib.hid ((ho.block _ (lt_of_blk BD.out) Mp.out).trans BD.out)
  have HB := Lib.hid (Only.below HB.out ho LM.out HB.out.size)
  clear hm ho
  go_wp2_with fail
  refine (step_is (st' := (1 + (n : Int))) (by unfold stepF; omega) (not_le_zero (by omega) (by omega) (by decide) (by decide)) _ HZ.out (by omega) (by omega) (by omega) (by omega)).mono ?_
  rintro e w12 ⟨rfl, hm, ho⟩
  have HM := Lib.hid (HM.out.only ho MZ.out)
  have HZ := Lib.hid hm
  have BM := Lib.hid ((ho.block _ (lt_of_blk BM.out) Zq.out).trans BM.out)
  have BD := Lib.hid ((ho.block _ (lt_of_blk BD.out) Zp.out).trans BD.out)
  have HB := Lib.hid (Only.below HB.out ho LZ.out HB.out.size)
  clear hm ho
  go_wp2_with fail
  refine (hold_is (he' := (1 + (n : Int))) (pk' := (1 + (n : Int))) (by unfold holdF; omega) (by omega) (not_le_zero (by omega) (by omega) (by decide) (by decide)) _ HZ.out (by omega) (by omega) (by omega) (by omega)).mono ?_
  rintro e w13 ⟨rfl, hm, ho⟩
  have HM := Lib.hid (HM.out.only ho MZ.out)
  have HZ := Lib.hid hm
  have BM := Lib.hid ((ho.block _ (lt_of_blk BM.out) Zq.out).trans BM.out)
  have BD := Lib.hid ((ho.block _ (lt_of_blk BD.out) Zp.out).trans BD.out)
  have HB := Lib.hid (Only.below HB.out ho LZ.out HB.out.size)
  clear hm ho
  go_wp2_with fail
  refine (hold_is (he' := 0) (pk' := (1 + (n : Int))) (B := true) (by unfold holdF; omega) (by omega) (by kernel_rfl) _ HZ.out (by omega) (by omega) (by omega) (by omega)).mono ?_
  rintro e w14 ⟨rfl, hm, ho⟩
  have HM := Lib.hid (HM.out.only ho MZ.out)
  have HZ := Lib.hid hm
  have BM := Lib.hid ((ho.block _ (lt_of_blk BM.out) Zq.out).trans BM.out)
  have BD := Lib.hid ((ho.block _ (lt_of_blk BD.out) Zp.out).trans BD.out)
  have HB := Lib.hid (Only.below HB.out ho LZ.out HB.out.size)
  clear hm ho
  have b0 := blk_cell BM.out 0 (.float .f64 fx) rfl
  have b1 := blk_cell BM.out 1 (.float .f64 fn) rfl
  have c0 := blk_cell BD.out 0 (.float .f64 fx) rfl
  have c1 := blk_cell BD.out 1 (.float .f64 fn) rfl
  have hse := HSE.out
  go_wp2_with (go_at_call 19; (with_reducible refine (fixed_calls _).mono ?_); rintro e w16 ⟨rfl, hB7⟩)
  go_ret
  exact ⟨rfl, below_step HB.out hB7⟩
theorem limitEnds_row (a b : Int) (w : World) (ha : (Lit.int .u32 a).wf = true) (hb : (Lit.int .u32 b).wf = true) :
    Calls Try.prog 6 #[.int .u32 a, .int .u32 b] w fun e w' => e = .returned (.bool true) ∧ Below w.heap.size w w' := by
  have h : ∀ c : Int, (Lit.int .u32 c).wf = true → 0 ≤ c ∧ c < 4294967296 := fun c hc => by
    simp [Lit.wf, IntKind.min, IntKind.max, IntKind.signed, IntKind.bits] at hc
    omega
  have h1 := h a ha
  have h2 := h b hb
  obtain ⟨n, rfl⟩ := Int.eq_ofNat_of_zero_le h1.1
  obtain ⟨x, rfl⟩ := Int.eq_ofNat_of_zero_le h2.1
  exact walk n x w (by omega) (by omega)
end Go.Proofs.Ytijnncnglkjpgaa.LLimitEnds
