/- The calls whose answers the document fixes. -/
import Derived.Test.YtijnncnglkjpgaaKHold
namespace Go.Proofs.Ytijnncnglkjpgaa.KFixed
open Go.RowKit KFlt KKind KRight KLeast KScale KMeter KStep KHold Go.Proofs.YtijnncnglkjpgaaW.PrintWords Go.Proofs.YtijnncnglkjpgaaW.PrintLast Go.Proofs.YtijnncnglkjpgaaW.PrintMore
set_option linter.unusedVariables false
attribute [local go_sem] KKind.run_store_float
set_option linter.unusedSimpArgs false

theorem from_at (x : Nat) (n : Int) (h : n = (x : Int)) (w : World) : (callFunc 37 #[.int .u64 n]).run Try.prog w = .ok (.value (.float .f64 x)) w := h ▸ from_run x w
theorem inf_calls (w : World) : Calls Try.prog 27 #[.int .i64 1] w fun e w' => e = .returned (.float .f64 9218868437227405312) ∧ w' = w := by
  have h := from_at 9218868437227405312 9218868437227405312 rfl
  go_enter Try.func27, Try.ntmps27
  go_wp2
  go_ret
  exact ⟨rfl, rfl⟩
theorem nan_calls (w : World) : Calls Try.prog 35 #[] w fun e w' => e = .returned (.float .f64 9221120237041090561) ∧ w' = w := by
  have h := from_at 9221120237041090561 9221120237041090561 rfl
  go_enter Try.func35, Try.ntmps35
  go_wp2
  go_ret
  exact ⟨rfl, rfl⟩
theorem copysign_calls (w : World) : Calls Try.prog 28 #[.float .f64 0, .float .f64 13830554455654793216] w fun e w' => e = .returned (.float .f64 9223372036854775808) ∧ w' = w := by
  have h0 : ∀ w, (callFunc 32 #[.float .f64 0]).run Try.prog w = .ok (.value (.int .u64 0)) w := bits_run 0
  have h1 : ∀ w, (callFunc 32 #[.float .f64 13830554455654793216]).run Try.prog w = .ok (.value (.int .u64 13830554455654793216)) w := bits_run 13830554455654793216
  have h := from_at 9223372036854775808 (bits BinOp.or IntKind.u64 (bits BinOp.andNot IntKind.u64 0 9223372036854775808) (bits BinOp.and IntKind.u64 13830554455654793216 9223372036854775808)) (by kernel_rfl)
  go_enter Try.func28, Try.ntmps28
  go_wp2
  go_ret
  exact ⟨rfl, rfl⟩
theorem scale_a : scaleF 4613937818241073152 9218868437227405312 4611686018427387904 = (4618441417868443648, 9218868437227405312, 0) := by kernel_rfl
theorem scale_b : scaleF 4613937818241073152 9218868437227405312 0 = (0, 0, 1) := by kernel_rfl
theorem right_a : rightB 4613937818241073152 9218868437227405312 = true := by kernel_rfl
theorem right_b : rightB 9221120237041090561 0 = false := by kernel_rfl
theorem right_c : rightB 0 13830554455654793216 = false := by kernel_rfl
theorem right_d : rightB 4613937818241073152 4611686018427387904 = true := by kernel_rfl
theorem right_e : rightB 18442240474082181120 0 = false := by kernel_rfl
theorem least_a : lessF 4613937818241073152 4617315517961601024 = 4613937818241073152 := by kernel_rfl
theorem least_b : lessF 9218868437227405312 4607182418800017408 = 4607182418800017408 := by kernel_rfl
theorem step_a : leB (floatOfInt .f64 3) 4613937818241073152 = true := by kernel_rfl
theorem step_b : leB (floatOfInt .f64 4) 4613937818241073152 = false := by kernel_rfl
theorem hold_a : leB (floatOfInt .f64 2) 4611686018427387904 = true := by kernel_rfl
theorem hold_b : leB (floatOfInt .f64 3) 4611686018427387904 = false := by kernel_rfl
theorem hold_c : leB (floatOfInt .f64 1) 4611686018427387904 = true := by kernel_rfl
theorem kind_a : kd 9223372036854775808 = 3 := by kernel_rfl
theorem kind_b : kd 9221120237041090561 = 0 := by kernel_rfl
theorem kind_c : kd 9218868437227405312 = 6 := by kernel_rfl
theorem eqin_float (d a b : Nat) (W : World) : (Op.equalIn (d + 1) 22 (.float .f64 a) (.float .f64 b)).run Try.prog W = .ok (FloatKind.f64.format.order a b == some Ordering.eq) W := by
  unfold Op.equalIn
  simp [run_underlying Try.underlying22, Op.floatEq]
theorem eq_budget (a b c d : Nat) (W : World) : (binOp .eql 24 (.agg #[.float .f64 a, .float .f64 b]) (.agg #[.float .f64 c, .float .f64 d])).run Try.prog W = .ok (.bool ((FloatKind.f64.format.order a c == some Ordering.eq) && (FloatKind.f64.format.order b d == some Ordering.eq))) W := by
  have hu := Try.underlying24
  have hf := Try.underlying22
  have h1 := eqin_float 9998 a c
  have h2 := eqin_float 9998 b d
  go_simp
  by_cases e1 : FloatKind.f64.format.order a c = some Ordering.eq
  · by_cases e2 : FloatKind.f64.format.order b d = some Ordering.eq
    · simp [e1, e2]
    · simp [e1, e2]
  · simp [e1]
theorem scale_is {s r x a b : Nat} {c : Int} (h : scaleF s r x = (a, b, c)) (hs : s < 18446744073709551616) (hr : r < 18446744073709551616) (hx : x < 18446744073709551616) (w : World) : Calls Try.prog 9 #[.agg #[.float .f64 s, .float .f64 r], .float .f64 x] w fun e w' => e = .returned (.tuple #[.agg #[.float .f64 a, .float .f64 b], .int .i64 c]) ∧ Below w.heap.size w w' := by
  have := scale_calls s r x hs hr hx w
  rwa [h] at this
theorem step_is {m s r : Nat} {st he pk n st' : Int} {B : Bool} (h : stepF st n = st') (hB : leB (floatOfInt .f64 st') s = B) (w : World) (H : MHas 71 w m s r st he pk) (h0 : 0 ≤ st) (h1 : st ≤ 4611686018427387904) (n0 : -9223372036854775808 ≤ n) (n1 : n < 9223372036854775808) :
    Calls Try.prog 22 #[.pointer (some ⟨m, 0, none⟩), .int .i64 n] w fun e w' => e = .returned (.bool B) ∧ MHas 71 w' m s r st' he pk ∧ Only m w w' := by
  have := step_calls m s r st he pk n w H h0 h1 n0 n1
  rwa [h, hB] at this
theorem hold_is {m s r : Nat} {st he pk n he' pk' : Int} {B : Bool} (h : holdF he n = he') (hp : max pk he' = pk') (hB : leB (floatOfInt .f64 he') r = B) (w : World) (H : MHas 71 w m s r st he pk) (h0 : 0 ≤ he) (h1 : he ≤ 4611686018427387904) (n0 : -9223372036854775808 ≤ n) (n1 : n < 9223372036854775808) :
    Calls Try.prog 24 #[.pointer (some ⟨m, 0, none⟩), .int .i64 n] w fun e w' => e = .returned (.bool B) ∧ MHas 71 w' m s r st he' pk' ∧ Only m w w' := by
  have := hold_calls m s r st he pk n w H h0 h1 n0 n1
  rwa [h, hB, hp] at this
attribute [-go_sem] Go.run_eql_struct in
set_option maxRecDepth 100000 in
set_option maxHeartbeats 3200000 in
theorem fixed_calls (w : World) : Calls Try.prog 19 #[] w fun e w' => e = .returned (.bool true) ∧ Below w.heap.size w w' := by
  go_enter Try.func19, Try.ntmps19
  go_wp2_with fail
  refine (inf_calls _).mono ?_
  rintro e w0 ⟨rfl, h⟩
  subst w0
  go_wp2_with fail
  refine (nan_calls _).mono ?_
  rintro e w0 ⟨rfl, h⟩
  subst w0
  go_wp2_with fail
  refine (scale_is scale_a (by decide) (by decide) (by decide) _).mono ?_
  rintro e w1 ⟨rfl, hb⟩
  have BB := Lib.hid (blk_alloc ((hb.block _ (by simp)).trans (heap_alloc_new _ (.cells #[.float .f64 4613937818241073152, .float .f64 9218868437227405312] 24))) (.cells #[.float .f64 4618441417868443648, .float .f64 9218868437227405312] 24))
  have BC := Lib.hid (heap_alloc_new w1 (.cells #[.float .f64 4618441417868443648, .float .f64 9218868437227405312] 24))
  have HB := Lib.hid ((below_step ((Below.refl w.heap.size w).alloc (Nat.le_refl _) _) hb).alloc (by have := hb.size; simp at this; omega) (.cells #[.float .f64 4618441417868443648, .float .f64 9218868437227405312] 24))
  clear hb
  have b0 := blk_cell BB.out 0 (.float .f64 4613937818241073152) rfl
  have b1 := blk_cell BB.out 1 (.float .f64 9218868437227405312) rfl
  go_wp2_with fail
  generalize (w1.alloc (.cells #[.float .f64 4618441417868443648, .float .f64 9218868437227405312] 24)) = w2 at *
  generalize w1.heap.size = qc at *
  refine (scale_is scale_b (by decide) (by decide) (by decide) _).mono ?_
  rintro e w3 ⟨rfl, hb⟩
  have BB3 := Lib.hid (blk_alloc ((hb.block _ (World.block_lt_of_cell? w2 _ b0)).trans BB.out) (.cells #[.float .f64 0, .float .f64 0] 24))
  have BC3 := Lib.hid (blk_alloc ((hb.block _ (World.block_lt_of_cell? w2 _ (blk_cell BC.out 0 _ rfl))).trans BC.out) (.cells #[.float .f64 0, .float .f64 0] 24))
  have HB3 := Lib.hid ((below_step HB.out hb).alloc (by have := HB.out.size; have := hb.size; omega) (.cells #[.float .f64 0, .float .f64 0] 24))
  clear hb b0 b1 BB BC HB
  go_wp2_with fail
  generalize (w3.alloc (.cells #[.float .f64 0, .float .f64 0] 24)) = w4 at *
  refine (new_no _ _ (by decide) (by decide) right_b _).mono ?_
  rintro e w5 ⟨rfl, hb⟩
  have BB := Lib.hid ((hb.block _ (World.block_lt_of_cell? w4 _ (blk_cell BB3.out 0 _ rfl))).trans BB3.out)
  have BC := Lib.hid ((hb.block _ (World.block_lt_of_cell? w4 _ (blk_cell BC3.out 0 _ rfl))).trans BC3.out)
  have HB := Lib.hid (below_step HB3.out hb)
  clear hb BB3 BC3 HB3
  go_wp2_with fail
  refine (new_no _ _ (by decide) (by decide) right_c _).mono ?_
  rintro e w6 ⟨rfl, hb⟩
  have BB3 := Lib.hid ((hb.block _ (World.block_lt_of_cell? w5 _ (blk_cell BB.out 0 _ rfl))).trans BB.out)
  have BC3 := Lib.hid ((hb.block _ (World.block_lt_of_cell? w5 _ (blk_cell BC.out 0 _ rfl))).trans BC.out)
  have HB3 := Lib.hid (below_step HB.out hb)
  clear hb BB BC HB
  go_wp2_with fail
  refine (new_yes _ _ (by decide) (by decide) right_d _).mono ?_
  rintro e w7 ⟨m, rfl, HM, hm, hb⟩
  have BB := Lib.hid ((hb.block _ (World.block_lt_of_cell? w6 _ (blk_cell BB3.out 0 _ rfl))).trans BB3.out)
  have BC := Lib.hid ((hb.block _ (World.block_lt_of_cell? w6 _ (blk_cell BC3.out 0 _ rfl))).trans BC3.out)
  have nb := Lib.hid (show w.heap.size ≠ m from Nat.ne_of_lt (Nat.lt_of_lt_of_le (World.block_lt_of_cell? w6 _ (blk_cell BB3.out 0 _ rfl)) hm))
  have nc := Lib.hid (show qc ≠ m from Nat.ne_of_lt (Nat.lt_of_lt_of_le (World.block_lt_of_cell? w6 _ (blk_cell BC3.out 0 _ rfl)) hm))
  have HB := Lib.hid (below_step HB3.out hb)
  have LM := Lib.hid (show w.heap.size ≤ m from Nat.le_trans HB3.out.size hm)
  have HM := Lib.hid HM
  clear hb BB3 BC3 HB3 hm
  go_wp2_with fail
  refine (step_is (st' := 3) (by decide) step_a _ HM.out (by decide) (by decide) (by decide) (by decide)).mono ?_
  rintro e w8 ⟨rfl, hm, ho⟩
  have HM := Lib.hid hm
  have BB := Lib.hid ((ho.block _ (World.block_lt_of_cell? _ _ (blk_cell BB.out 0 _ rfl)) nb.out).trans BB.out)
  have BC := Lib.hid ((ho.block _ (World.block_lt_of_cell? _ _ (blk_cell BC.out 0 _ rfl)) nc.out).trans BC.out)
  have HB := Lib.hid (Only.below HB.out ho LM.out HB.out.size)
  clear hm ho
  go_wp2_with fail
  refine (step_is (st' := 3) (by decide) step_a _ HM.out (by decide) (by decide) (by decide) (by decide)).mono ?_
  rintro e w9 ⟨rfl, hm, ho⟩
  have HM := Lib.hid hm
  have BB := Lib.hid ((ho.block _ (World.block_lt_of_cell? _ _ (blk_cell BB.out 0 _ rfl)) nb.out).trans BB.out)
  have BC := Lib.hid ((ho.block _ (World.block_lt_of_cell? _ _ (blk_cell BC.out 0 _ rfl)) nc.out).trans BC.out)
  have HB := Lib.hid (Only.below HB.out ho LM.out HB.out.size)
  clear hm ho
  go_wp2_with fail
  refine (step_is (st' := 4) (by decide) step_b _ HM.out (by decide) (by decide) (by decide) (by decide)).mono ?_
  rintro e w10 ⟨rfl, hm, ho⟩
  have HM := Lib.hid hm
  have BB := Lib.hid ((ho.block _ (World.block_lt_of_cell? _ _ (blk_cell BB.out 0 _ rfl)) nb.out).trans BB.out)
  have BC := Lib.hid ((ho.block _ (World.block_lt_of_cell? _ _ (blk_cell BC.out 0 _ rfl)) nc.out).trans BC.out)
  have HB := Lib.hid (Only.below HB.out ho LM.out HB.out.size)
  clear hm ho
  go_wp2_with fail
  refine (hold_is (he' := 2) (pk' := 2) (by decide) (by decide) hold_a _ HM.out (by decide) (by decide) (by decide) (by decide)).mono ?_
  rintro e w11 ⟨rfl, hm, ho⟩
  have HM := Lib.hid hm
  have BB := Lib.hid ((ho.block _ (World.block_lt_of_cell? _ _ (blk_cell BB.out 0 _ rfl)) nb.out).trans BB.out)
  have BC := Lib.hid ((ho.block _ (World.block_lt_of_cell? _ _ (blk_cell BC.out 0 _ rfl)) nc.out).trans BC.out)
  have HB := Lib.hid (Only.below HB.out ho LM.out HB.out.size)
  clear hm ho
  go_wp2_with fail
  refine (hold_is (he' := 3) (pk' := 3) (by decide) (by decide) hold_b _ HM.out (by decide) (by decide) (by decide) (by decide)).mono ?_
  rintro e w12 ⟨rfl, hm, ho⟩
  have HM := Lib.hid hm
  have BB := Lib.hid ((ho.block _ (World.block_lt_of_cell? _ _ (blk_cell BB.out 0 _ rfl)) nb.out).trans BB.out)
  have BC := Lib.hid ((ho.block _ (World.block_lt_of_cell? _ _ (blk_cell BC.out 0 _ rfl)) nc.out).trans BC.out)
  have HB := Lib.hid (Only.below HB.out ho LM.out HB.out.size)
  clear hm ho
  go_wp2_with fail
  refine (hold_is (he' := 1) (pk' := 3) (by decide) (by decide) hold_c _ HM.out (by decide) (by decide) (by decide) (by decide)).mono ?_
  rintro e w13 ⟨rfl, hm, ho⟩
  have HM := Lib.hid hm
  have BB := Lib.hid ((ho.block _ (World.block_lt_of_cell? _ _ (blk_cell BB.out 0 _ rfl)) nb.out).trans BB.out)
  have BC := Lib.hid ((ho.block _ (World.block_lt_of_cell? _ _ (blk_cell BC.out 0 _ rfl)) nc.out).trans BC.out)
  have HB := Lib.hid (Only.below HB.out ho LM.out HB.out.size)
  clear hm ho
  go_wp2_with fail
  refine (used_calls _ _ _ _ _ _ _ HM.out).mono ?_
  rintro e w14 ⟨rfl, hb⟩
  have BB3 := Lib.hid ((hb.block _ (World.block_lt_of_cell? _ _ (blk_cell BB.out 0 _ rfl))).trans BB.out)
  have BC3 := Lib.hid ((hb.block _ (World.block_lt_of_cell? _ _ (blk_cell BC.out 0 _ rfl))).trans BC.out)
  have HB3 := Lib.hid (below_step HB.out hb)
  clear hb BB BC HB HM
  have b0 := blk_cell BB3.out 0 (.float .f64 4613937818241073152) rfl
  have b1 := blk_cell BB3.out 1 (.float .f64 9218868437227405312) rfl
  have c0 := blk_cell BC3.out 0 (.float .f64 4618441417868443648) rfl
  have c1 := blk_cell BC3.out 1 (.float .f64 9218868437227405312) rfl
  have eq6 : (FloatKind.f64.format.order 4618441417868443648 4618441417868443648 == some Ordering.eq) = true := by kernel_rfl
  have eqi : (FloatKind.f64.format.order 9218868437227405312 9218868437227405312 == some Ordering.eq) = true := by kernel_rfl
  have eq3 : (FloatKind.f64.format.order 4613937818241073152 4613937818241073152 == some Ordering.eq) = true := by kernel_rfl
  have eq1 : (FloatKind.f64.format.order 4607182418800017408 4607182418800017408 == some Ordering.eq) = true := by kernel_rfl
  have hneg : ∀ W, (Op.unary UnOp.neg (.float .f64 9218868437227405312)).run Try.prog W = .ok (.float .f64 18442240474082181120) W := neg_step 9218868437227405312 (by decide)
  go_wp2_with fail
  refine (copysign_calls _).mono ?_
  rintro e w15 ⟨rfl, h⟩
  subst w15
  go_wp2_with fail
  refine (kind_calls _ (by decide) _).mono ?_
  rintro e w15 ⟨rfl, h⟩
  subst w15
  rw [kind_a]
  go_wp2_with fail
  refine (kind_calls _ (by decide) _).mono ?_
  rintro e w15 ⟨rfl, h⟩
  subst w15
  rw [kind_b]
  go_wp2_with fail
  refine (kind_calls _ (by decide) _).mono ?_
  rintro e w15 ⟨rfl, h⟩
  subst w15
  rw [kind_c]
  go_wp2_with fail
  refine (right_is _ _ true (by decide) (by decide) right_a _).mono ?_
  rintro e w15 ⟨rfl, hb⟩
  have BB := Lib.hid ((hb.block _ (World.block_lt_of_cell? _ _ (blk_cell BB3.out 0 _ rfl))).trans BB3.out)
  have HB := Lib.hid (below_step HB3.out hb)
  clear hb BB3 BC3 HB3 b0 b1 c0 c1
  go_wp2_with fail
  refine (right_is _ _ false (by decide) (by decide) right_e _).mono ?_
  rintro e w16 ⟨rfl, hb⟩
  have BB3 := Lib.hid ((hb.block _ (World.block_lt_of_cell? _ _ (blk_cell BB.out 0 _ rfl))).trans BB.out)
  have HB3 := Lib.hid (below_step HB.out hb)
  clear hb BB HB
  have b0 := blk_cell BB3.out 0 (.float .f64 4613937818241073152) rfl
  have b1 := blk_cell BB3.out 1 (.float .f64 9218868437227405312) rfl
  have hse : ∀ W, (binOp .eql 24 (.agg #[.float .f64 4613937818241073152, .float .f64 4607182418800017408]) (.agg #[.float .f64 4613937818241073152, .float .f64 4607182418800017408])).run Try.prog W = .ok (.bool true) W := fun W => by rw [eq_budget, eq3, eq1]; rfl
  go_wp2_with fail
  refine (least_calls _ _ _ _ _).mono ?_
  rintro e w17 ⟨rfl, hb⟩
  rw [least_a, least_b]
  have HB := Lib.hid (below_step HB3.out hb)
  clear hb BB3 HB3 b0 b1
  go_wp2
  go_ret
  exact ⟨rfl, HB.out⟩
end Go.Proofs.Ytijnncnglkjpgaa.KFixed
