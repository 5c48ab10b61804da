/- A budget times a number: both functions answer alike. -/
import Derived.Test.YtijnncnglkjpgaaKLeast
namespace Go.Proofs.Ytijnncnglkjpgaa.KScale
open Go.RowKit KFlt KKind KRight KLeast Go.Proofs.YtijnncnglkjpgaaW.PrintWords Go.Proofs.YtijnncnglkjpgaaW.PrintLast Go.Proofs.YtijnncnglkjpgaaW.PrintMore
set_option linter.unusedVariables false
attribute [local go_sem] KKind.run_store_float
set_option linter.unusedSimpArgs false

def mulF (x y : Nat) : Option Nat := floatBits .mul .f64 x y
theorem mulF_lt {x y r : Nat} (h : mulF x y = some r) : r < 18446744073709551616 := by
  have := floatBits_wf h
  simpa [Lit.wf] using this
theorem nan_kd {x : Nat} (h : nan x = true) : kd x = 0 := by unfold kd; rw [h]; rfl
theorem mul_some {x y r : Nat} (h : mulF x y = some r) (t : TypeId) (W : World) : (binOp .mul t (.float .f64 x) (.float .f64 y)).run Try.prog W = .ok (.float .f64 r) W := run_float_arith W .mul t .f64 x y r h
theorem mul_none {x y : Nat} (h : mulF x y = none) : ∃ g : World → Nat, (∀ (t : TypeId) (W : World), (binOp .mul t (.float .f64 x) (.float .f64 y)).run Try.prog W = .ok (.float .f64 (g W)) W.drew) ∧ (∀ W, g W < 18446744073709551616) ∧ ∀ W, nan (g W) = true := by
  refine ⟨fun W => Question.cut (.nanBits .f64 x y) (W.tape W.drawn (.nanBits .f64 x y)), fun t W => ?_, fun W => ?_, fun W => ?_⟩
  · have h' : FloatKind.f64.format.mul x y = none := h
    simp [binOp, Op.floatArith, h', Question.forced]
  · show (_ % 2) * 2 ^ 63 + 0x7ff0000000000000 + 1 + (_ / 2) % (2 ^ 52 - 1) < _
    omega
  · unfold nan rung inf
    simp only [decide_eq_true_eq]
    show 9218868437227405312 < ((_ % 2) * 2 ^ 63 + 0x7ff0000000000000 + 1 + (_ / 2) % (2 ^ 52 - 1)) % 9223372036854775808
    generalize W.tape W.drawn (Question.nanBits FloatKind.f64 x y) = q
    have : q % 2 = 0 ∨ q % 2 = 1 := by omega
    rcases this with h | h <;> rw [h] <;> omega
/-- a budget times a number, or nothing and that it may not be -/
def scaleF (s r x : Nat) : Nat × Nat × Int :=
  match mulF s x, mulF r x with
  | some a, some b => if rightB s r && rightB a b then (a, b, 0) else (0, 0, 1)
  | _, _ => (0, 0, 1)
theorem scaleF_lt (s r x : Nat) : (scaleF s r x).1 < 18446744073709551616 ∧ (scaleF s r x).2.1 < 18446744073709551616 := by
  unfold scaleF
  split
  · rename_i a b h1 h2
    split
    · exact ⟨mulF_lt h1, mulF_lt h2⟩
    · exact ⟨by decide, by decide⟩
  · exact ⟨by decide, by decide⟩
theorem right_nan1 {a b : Nat} (h : nan a = true) : rightB a b = false := by unfold rightB; rw [nan_kd h]; rfl
theorem right_nan2 {a b : Nat} (h : nan b = true) : rightB a b = false := by unfold rightB; rw [nan_kd h]; simp
theorem right_is (a b : Nat) (B : Bool) (ha : a < 18446744073709551616) (hb : b < 18446744073709551616) (h : rightB a b = B) (w : World) : Calls Try.prog 14 #[.agg #[.float .f64 a, .float .f64 b]] w fun e w' => e = .returned (.bool B) ∧ Below w.heap.size w w' := h ▸ right_calls a b ha hb w
theorem refright_is (a b : Nat) (B : Bool) (ha : a < 18446744073709551616) (hb : b < 18446744073709551616) (h : rightB a b = B) (w : World) : Calls Try.prog 15 #[.agg #[.float .f64 a, .float .f64 b]] w fun e w' => e = .returned (.bool B) ∧ Below w.heap.size w w' := h ▸ refright_calls a b ha hb w
set_option maxHeartbeats 1600000 in
theorem scale_calls (s r x : Nat) (hs : s < 18446744073709551616) (hr : r < 18446744073709551616) (hx : x < 18446744073709551616) (w : World) : Calls Try.prog 9 #[.agg #[.float .f64 s, .float .f64 r], .float .f64 x] w fun e w' => e = .returned (.tuple #[.agg #[.float .f64 (scaleF s r x).1, .float .f64 (scaleF s r x).2.1], .int .i64 (scaleF s r x).2.2]) ∧ Below w.heap.size w w' := by
  have hu := Try.underlying24
  cases hA : rightB s r
  · cases h1 : mulF s x
    · obtain ⟨g1, m1, l1, n1⟩ := mul_none h1
      cases h2 : mulF r x
      · obtain ⟨g2, m2, l2, n2⟩ := mul_none h2
        have hF : scaleF s r x = (0, 0, 1) := by unfold scaleF; simp [h1, h2, hA]
        rw [hF]
        clear hF h1 h2
        go_enter Try.func9, Try.ntmps9
        go_wp2_with fail
        refine (right_is s r false hs hr hA _).mono ?_
        rintro e w6 ⟨rfl, hb⟩
        have hR := (hb.block (w.heap.size + 1) (by simp)).trans (blk_alloc (show _ = some (.cells #[.float .f64 0, .float .f64 0] 24 (0, 0)) from blk2 w _ _ _) _)
        have hO := (hb.block (w.heap.size + 1 + 1) (by simp)).trans (show _ = some (.cells #[.float .f64 _, .float .f64 _] 24 (0, 0)) from blk3 w _ _ _ _)
        have HB := Lib.hid (below_step (show Below w.heap.size w _ from (below3 w _ _ _).drew.drew) hb)
        clear hb
        obtain ⟨z0, z1, z2, z3, z4⟩ := set_two hR (.float .f64 0) (.float .f64 0)
        clear hR hO
        go_wp2
        refine bodyPost_ret (results_ct rfl _ _ (w.heap.size + 1) 24 _ (0, 0) _ rfl z4 hu rfl (by kernel_rfl)) rfl ?_
        exact ⟨rfl, below_set (below_set HB.out (by omega) _) (by omega) _⟩
      · rename_i b
        have p2 := h2
        have m2 := mul_some h2
        have hF : scaleF s r x = (0, 0, 1) := by unfold scaleF; simp [h1, h2, hA]
        rw [hF]
        clear hF h1 h2
        go_enter Try.func9, Try.ntmps9
        go_wp2_with fail
        refine (right_is s r false hs hr hA _).mono ?_
        rintro e w6 ⟨rfl, hb⟩
        have hR := (hb.block (w.heap.size + 1) (by simp)).trans (blk_alloc (show _ = some (.cells #[.float .f64 0, .float .f64 0] 24 (0, 0)) from blk2 w _ _ _) _)
        have hO := (hb.block (w.heap.size + 1 + 1) (by simp)).trans (show _ = some (.cells #[.float .f64 _, .float .f64 _] 24 (0, 0)) from blk3 w _ _ _ _)
        have HB := Lib.hid (below_step (show Below w.heap.size w _ from (below3 w _ _ _).drew) hb)
        clear hb
        obtain ⟨z0, z1, z2, z3, z4⟩ := set_two hR (.float .f64 0) (.float .f64 0)
        clear hR hO
        go_wp2
        refine bodyPost_ret (results_ct rfl _ _ (w.heap.size + 1) 24 _ (0, 0) _ rfl z4 hu rfl (by kernel_rfl)) rfl ?_
        exact ⟨rfl, below_set (below_set HB.out (by omega) _) (by omega) _⟩
    · rename_i a
      have p1 := h1
      have m1 := mul_some h1
      cases h2 : mulF r x
      · obtain ⟨g2, m2, l2, n2⟩ := mul_none h2
        have hF : scaleF s r x = (0, 0, 1) := by unfold scaleF; simp [h1, h2, hA]
        rw [hF]
        clear hF h1 h2
        go_enter Try.func9, Try.ntmps9
        go_wp2_with fail
        refine (right_is s r false hs hr hA _).mono ?_
        rintro e w6 ⟨rfl, hb⟩
        have hR := (hb.block (w.heap.size + 1) (by simp)).trans (blk_alloc (show _ = some (.cells #[.float .f64 0, .float .f64 0] 24 (0, 0)) from blk2 w _ _ _) _)
        have hO := (hb.block (w.heap.size + 1 + 1) (by simp)).trans (show _ = some (.cells #[.float .f64 _, .float .f64 _] 24 (0, 0)) from blk3 w _ _ _ _)
        have HB := Lib.hid (below_step (show Below w.heap.size w _ from (below3 w _ _ _).drew) hb)
        clear hb
        obtain ⟨z0, z1, z2, z3, z4⟩ := set_two hR (.float .f64 0) (.float .f64 0)
        clear hR hO
        go_wp2
        refine bodyPost_ret (results_ct rfl _ _ (w.heap.size + 1) 24 _ (0, 0) _ rfl z4 hu rfl (by kernel_rfl)) rfl ?_
        exact ⟨rfl, below_set (below_set HB.out (by omega) _) (by omega) _⟩
      · rename_i b
        have p2 := h2
        have m2 := mul_some h2
        have hF : scaleF s r x = (0, 0, 1) := by unfold scaleF; simp [h1, h2, hA]
        rw [hF]
        clear hF h1 h2
        go_enter Try.func9, Try.ntmps9
        go_wp2_with fail
        refine (right_is s r false hs hr hA _).mono ?_
        rintro e w6 ⟨rfl, hb⟩
        have hR := (hb.block (w.heap.size + 1) (by simp)).trans (blk_alloc (show _ = some (.cells #[.float .f64 0, .float .f64 0] 24 (0, 0)) from blk2 w _ _ _) _)
        have hO := (hb.block (w.heap.size + 1 + 1) (by simp)).trans (show _ = some (.cells #[.float .f64 _, .float .f64 _] 24 (0, 0)) from blk3 w _ _ _ _)
        have HB := Lib.hid (below_step (show Below w.heap.size w _ from (below3 w _ _ _)) hb)
        clear hb
        obtain ⟨z0, z1, z2, z3, z4⟩ := set_two hR (.float .f64 0) (.float .f64 0)
        clear hR hO
        go_wp2
        refine bodyPost_ret (results_ct rfl _ _ (w.heap.size + 1) 24 _ (0, 0) _ rfl z4 hu rfl (by kernel_rfl)) rfl ?_
        exact ⟨rfl, below_set (below_set HB.out (by omega) _) (by omega) _⟩
  · cases h1 : mulF s x
    · obtain ⟨g1, m1, l1, n1⟩ := mul_none h1
      cases h2 : mulF r x
      · obtain ⟨g2, m2, l2, n2⟩ := mul_none h2
        have hF : scaleF s r x = (0, 0, 1) := by unfold scaleF; simp [h1, h2, hA]
        rw [hF]
        clear hF h1 h2
        go_enter Try.func9, Try.ntmps9
        go_wp2_with fail
        refine (right_is s r true hs hr hA _).mono ?_
        rintro e w6 ⟨rfl, hb⟩
        have hR := (hb.block (w.heap.size + 1) (by simp)).trans (blk_alloc (show _ = some (.cells #[.float .f64 0, .float .f64 0] 24 (0, 0)) from blk2 w _ _ _) _)
        have hO := (hb.block (w.heap.size + 1 + 1) (by simp)).trans (show _ = some (.cells #[.float .f64 _, .float .f64 _] 24 (0, 0)) from blk3 w _ _ _ _)
        have HB := Lib.hid (below_step (show Below w.heap.size w _ from (below3 w _ _ _).drew.drew) hb)
        clear hb
        have o0 := blk_cell hO 0 _ rfl
        have o1 := blk_cell hO 1 _ rfl
        go_wp2_with fail
        refine (right_is _ _ false (l1 _) (l2 _) (right_nan1 (n1 _)) _).mono ?_
        rintro e w7 ⟨rfl, hb⟩
        have HB7 := Lib.hid (below_step HB.out hb)
        have hR := (hb.block (w.heap.size + 1) (by have := HB.out.size; have := World.block_lt_of_cell? _ _ o0; simp at this; omega)).trans hR
        have hO := (hb.block (w.heap.size + 1 + 1) (by have := World.block_lt_of_cell? _ _ o0; simpa using this)).trans hO
        clear hb HB o0 o1
        have HB := HB7
        clear HB7
        have o0 := blk_cell hO 0 _ rfl
        have o1 := blk_cell hO 1 _ rfl
        obtain ⟨z0, z1, z2, z3, z4⟩ := set_two hR (.float .f64 0) (.float .f64 0)
        clear hR hO
        go_wp2
        refine bodyPost_ret (results_ct rfl _ _ (w.heap.size + 1) 24 _ (0, 0) _ rfl z4 hu rfl (by kernel_rfl)) rfl ?_
        exact ⟨rfl, below_set (below_set HB.out (by omega) _) (by omega) _⟩
      · rename_i b
        have p2 := h2
        have m2 := mul_some h2
        have hF : scaleF s r x = (0, 0, 1) := by unfold scaleF; simp [h1, h2, hA]
        rw [hF]
        clear hF h1 h2
        go_enter Try.func9, Try.ntmps9
        go_wp2_with fail
        refine (right_is s r true hs hr hA _).mono ?_
        rintro e w6 ⟨rfl, hb⟩
        have hR := (hb.block (w.heap.size + 1) (by simp)).trans (blk_alloc (show _ = some (.cells #[.float .f64 0, .float .f64 0] 24 (0, 0)) from blk2 w _ _ _) _)
        have hO := (hb.block (w.heap.size + 1 + 1) (by simp)).trans (show _ = some (.cells #[.float .f64 _, .float .f64 _] 24 (0, 0)) from blk3 w _ _ _ _)
        have HB := Lib.hid (below_step (show Below w.heap.size w _ from (below3 w _ _ _).drew) hb)
        clear hb
        have o0 := blk_cell hO 0 _ rfl
        have o1 := blk_cell hO 1 _ rfl
        go_wp2_with fail
        refine (right_is _ _ false (l1 _) (mulF_lt p2) (right_nan1 (n1 _)) _).mono ?_
        rintro e w7 ⟨rfl, hb⟩
        have HB7 := Lib.hid (below_step HB.out hb)
        have hR := (hb.block (w.heap.size + 1) (by have := HB.out.size; have := World.block_lt_of_cell? _ _ o0; simp at this; omega)).trans hR
        have hO := (hb.block (w.heap.size + 1 + 1) (by have := World.block_lt_of_cell? _ _ o0; simpa using this)).trans hO
        clear hb HB o0 o1
        have HB := HB7
        clear HB7
        have o0 := blk_cell hO 0 _ rfl
        have o1 := blk_cell hO 1 _ rfl
        obtain ⟨z0, z1, z2, z3, z4⟩ := set_two hR (.float .f64 0) (.float .f64 0)
        clear hR hO
        go_wp2
        refine bodyPost_ret (results_ct rfl _ _ (w.heap.size + 1) 24 _ (0, 0) _ rfl z4 hu rfl (by kernel_rfl)) rfl ?_
        exact ⟨rfl, below_set (below_set HB.out (by omega) _) (by omega) _⟩
    · rename_i a
      have p1 := h1
      have m1 := mul_some h1
      cases h2 : mulF r x
      · obtain ⟨g2, m2, l2, n2⟩ := mul_none h2
        have hF : scaleF s r x = (0, 0, 1) := by unfold scaleF; simp [h1, h2, hA]
        rw [hF]
        clear hF h1 h2
        go_enter Try.func9, Try.ntmps9
        go_wp2_with fail
        refine (right_is s r true hs hr hA _).mono ?_
        rintro e w6 ⟨rfl, hb⟩
        have hR := (hb.block (w.heap.size + 1) (by simp)).trans (blk_alloc (show _ = some (.cells #[.float .f64 0, .float .f64 0] 24 (0, 0)) from blk2 w _ _ _) _)
        have hO := (hb.block (w.heap.size + 1 + 1) (by simp)).trans (show _ = some (.cells #[.float .f64 _, .float .f64 _] 24 (0, 0)) from blk3 w _ _ _ _)
        have HB := Lib.hid (below_step (show Below w.heap.size w _ from (below3 w _ _ _).drew) hb)
        clear hb
        have o0 := blk_cell hO 0 _ rfl
        have o1 := blk_cell hO 1 _ rfl
        go_wp2_with fail
        refine (right_is _ _ false (mulF_lt p1) (l2 _) (right_nan2 (n2 _)) _).mono ?_
        rintro e w7 ⟨rfl, hb⟩
        have HB7 := Lib.hid (below_step HB.out hb)
        have hR := (hb.block (w.heap.size + 1) (by have := HB.out.size; have := World.block_lt_of_cell? _ _ o0; simp at this; omega)).trans hR
        have hO := (hb.block (w.heap.size + 1 + 1) (by have := World.block_lt_of_cell? _ _ o0; simpa using this)).trans hO
        clear hb HB o0 o1
        have HB := HB7
        clear HB7
        have o0 := blk_cell hO 0 _ rfl
        have o1 := blk_cell hO 1 _ rfl
        obtain ⟨z0, z1, z2, z3, z4⟩ := set_two hR (.float .f64 0) (.float .f64 0)
        clear hR hO
        go_wp2
        refine bodyPost_ret (results_ct rfl _ _ (w.heap.size + 1) 24 _ (0, 0) _ rfl z4 hu rfl (by kernel_rfl)) rfl ?_
        exact ⟨rfl, below_set (below_set HB.out (by omega) _) (by omega) _⟩
      · rename_i b
        have p2 := h2
        have m2 := mul_some h2
        cases hO_ : rightB a b
        · skip
          have hF : scaleF s r x = (0, 0, 1) := by unfold scaleF; simp [h1, h2, hA, hO_]
          rw [hF]
          clear hF h1 h2
          go_enter Try.func9, Try.ntmps9
          go_wp2_with fail
          refine (right_is s r true hs hr hA _).mono ?_
          rintro e w6 ⟨rfl, hb⟩
          have hR := (hb.block (w.heap.size + 1) (by simp)).trans (blk_alloc (show _ = some (.cells #[.float .f64 0, .float .f64 0] 24 (0, 0)) from blk2 w _ _ _) _)
          have hO := (hb.block (w.heap.size + 1 + 1) (by simp)).trans (show _ = some (.cells #[.float .f64 _, .float .f64 _] 24 (0, 0)) from blk3 w _ _ _ _)
          have HB := Lib.hid (below_step (show Below w.heap.size w _ from (below3 w _ _ _)) hb)
          clear hb
          have o0 := blk_cell hO 0 _ rfl
          have o1 := blk_cell hO 1 _ rfl
          go_wp2_with fail
          refine (right_is _ _ false (mulF_lt p1) (mulF_lt p2) (hO_) _).mono ?_
          rintro e w7 ⟨rfl, hb⟩
          have HB7 := Lib.hid (below_step HB.out hb)
          have hR := (hb.block (w.heap.size + 1) (by have := HB.out.size; have := World.block_lt_of_cell? _ _ o0; simp at this; omega)).trans hR
          have hO := (hb.block (w.heap.size + 1 + 1) (by have := World.block_lt_of_cell? _ _ o0; simpa using this)).trans hO
          clear hb HB o0 o1
          have HB := HB7
          clear HB7
          have o0 := blk_cell hO 0 _ rfl
          have o1 := blk_cell hO 1 _ rfl
          obtain ⟨z0, z1, z2, z3, z4⟩ := set_two hR (.float .f64 0) (.float .f64 0)
          clear hR hO
          go_wp2
          refine bodyPost_ret (results_ct rfl _ _ (w.heap.size + 1) 24 _ (0, 0) _ rfl z4 hu rfl (by kernel_rfl)) rfl ?_
          exact ⟨rfl, below_set (below_set HB.out (by omega) _) (by omega) _⟩
        · skip
          have hF : scaleF s r x = (a, b, 0) := by unfold scaleF; simp [h1, h2, hA, hO_]
          rw [hF]
          clear hF h1 h2
          go_enter Try.func9, Try.ntmps9
          go_wp2_with fail
          refine (right_is s r true hs hr hA _).mono ?_
          rintro e w6 ⟨rfl, hb⟩
          have hR := (hb.block (w.heap.size + 1) (by simp)).trans (blk_alloc (show _ = some (.cells #[.float .f64 0, .float .f64 0] 24 (0, 0)) from blk2 w _ _ _) _)
          have hO := (hb.block (w.heap.size + 1 + 1) (by simp)).trans (show _ = some (.cells #[.float .f64 _, .float .f64 _] 24 (0, 0)) from blk3 w _ _ _ _)
          have HB := Lib.hid (below_step (show Below w.heap.size w _ from (below3 w _ _ _)) hb)
          clear hb
          have o0 := blk_cell hO 0 _ rfl
          have o1 := blk_cell hO 1 _ rfl
          go_wp2_with fail
          refine (right_is _ _ true (mulF_lt p1) (mulF_lt p2) (hO_) _).mono ?_
          rintro e w7 ⟨rfl, hb⟩
          have HB7 := Lib.hid (below_step HB.out hb)
          have hR := (hb.block (w.heap.size + 1) (by have := HB.out.size; have := World.block_lt_of_cell? _ _ o0; simp at this; omega)).trans hR
          have hO := (hb.block (w.heap.size + 1 + 1) (by have := World.block_lt_of_cell? _ _ o0; simpa using this)).trans hO
          clear hb HB o0 o1
          have HB := HB7
          clear HB7
          have o0 := blk_cell hO 0 _ rfl
          have o1 := blk_cell hO 1 _ rfl
          obtain ⟨z0, z1, z2, z3, z4⟩ := set_two hR (.float .f64 a) (.float .f64 b)
          clear hR hO
          go_wp2
          refine bodyPost_ret (results_ct rfl _ _ (w.heap.size + 1) 24 _ (0, 0) _ rfl z4 hu rfl (by kernel_rfl)) rfl ?_
          exact ⟨rfl, below_set (below_set HB.out (by omega) _) (by omega) _⟩
set_option maxHeartbeats 1600000 in
theorem refscale_calls (s r x : Nat) (hs : s < 18446744073709551616) (hr : r < 18446744073709551616) (hx : x < 18446744073709551616) (w : World) : Calls Try.prog 10 #[.agg #[.float .f64 s, .float .f64 r], .float .f64 x] w fun e w' => e = .returned (.tuple #[.agg #[.float .f64 (scaleF s r x).1, .float .f64 (scaleF s r x).2.1], .int .i64 (scaleF s r x).2.2]) ∧ Below w.heap.size w w' := by
  have hu := Try.underlying28
  cases hA : rightB s r
  · cases h1 : mulF s x
    · obtain ⟨g1, m1, l1, n1⟩ := mul_none h1
      cases h2 : mulF r x
      · obtain ⟨g2, m2, l2, n2⟩ := mul_none h2
        have hF : scaleF s r x = (0, 0, 1) := by unfold scaleF; simp [h1, h2, hA]
        rw [hF]
        clear hF h1 h2
        go_enter Try.func10, Try.ntmps10
        go_wp2_with fail
        refine (refright_is s r false hs hr hA _).mono ?_
        rintro e w6 ⟨rfl, hb⟩
        have hR := (hb.block (w.heap.size + 1) (by simp)).trans (blk_alloc (show _ = some (.cells #[.float .f64 0, .float .f64 0] 28 (0, 0)) from blk2 w _ _ _) _)
        have hO := (hb.block (w.heap.size + 1 + 1) (by simp)).trans (show _ = some (.cells #[.float .f64 _, .float .f64 _] 28 (0, 0)) from blk3 w _ _ _ _)
        have HB := Lib.hid (below_step (show Below w.heap.size w _ from (below3 w _ _ _).drew.drew) hb)
        clear hb
        obtain ⟨z0, z1, z2, z3, z4⟩ := set_two hR (.float .f64 0) (.float .f64 0)
        clear hR hO
        go_wp2
        refine bodyPost_ret (results_ct rfl _ _ (w.heap.size + 1) 28 _ (0, 0) _ rfl z4 hu rfl (by kernel_rfl)) rfl ?_
        exact ⟨rfl, below_set (below_set HB.out (by omega) _) (by omega) _⟩
      · rename_i b
        have p2 := h2
        have m2 := mul_some h2
        have hF : scaleF s r x = (0, 0, 1) := by unfold scaleF; simp [h1, h2, hA]
        rw [hF]
        clear hF h1 h2
        go_enter Try.func10, Try.ntmps10
        go_wp2_with fail
        refine (refright_is s r false hs hr hA _).mono ?_
        rintro e w6 ⟨rfl, hb⟩
        have hR := (hb.block (w.heap.size + 1) (by simp)).trans (blk_alloc (show _ = some (.cells #[.float .f64 0, .float .f64 0] 28 (0, 0)) from blk2 w _ _ _) _)
        have hO := (hb.block (w.heap.size + 1 + 1) (by simp)).trans (show _ = some (.cells #[.float .f64 _, .float .f64 _] 28 (0, 0)) from blk3 w _ _ _ _)
        have HB := Lib.hid (below_step (show Below w.heap.size w _ from (below3 w _ _ _).drew) hb)
        clear hb
        obtain ⟨z0, z1, z2, z3, z4⟩ := set_two hR (.float .f64 0) (.float .f64 0)
        clear hR hO
        go_wp2
        refine bodyPost_ret (results_ct rfl _ _ (w.heap.size + 1) 28 _ (0, 0) _ rfl z4 hu rfl (by kernel_rfl)) rfl ?_
        exact ⟨rfl, below_set (below_set HB.out (by omega) _) (by omega) _⟩
    · rename_i a
      have p1 := h1
      have m1 := mul_some h1
      cases h2 : mulF r x
      · obtain ⟨g2, m2, l2, n2⟩ := mul_none h2
        have hF : scaleF s r x = (0, 0, 1) := by unfold scaleF; simp [h1, h2, hA]
        rw [hF]
        clear hF h1 h2
        go_enter Try.func10, Try.ntmps10
        go_wp2_with fail
        refine (refright_is s r false hs hr hA _).mono ?_
        rintro e w6 ⟨rfl, hb⟩
        have hR := (hb.block (w.heap.size + 1) (by simp)).trans (blk_alloc (show _ = some (.cells #[.float .f64 0, .float .f64 0] 28 (0, 0)) from blk2 w _ _ _) _)
        have hO := (hb.block (w.heap.size + 1 + 1) (by simp)).trans (show _ = some (.cells #[.float .f64 _, .float .f64 _] 28 (0, 0)) from blk3 w _ _ _ _)
        have HB := Lib.hid (below_step (show Below w.heap.size w _ from (below3 w _ _ _).drew) hb)
        clear hb
        obtain ⟨z0, z1, z2, z3, z4⟩ := set_two hR (.float .f64 0) (.float .f64 0)
        clear hR hO
        go_wp2
        refine bodyPost_ret (results_ct rfl _ _ (w.heap.size + 1) 28 _ (0, 0) _ rfl z4 hu rfl (by kernel_rfl)) rfl ?_
        exact ⟨rfl, below_set (below_set HB.out (by omega) _) (by omega) _⟩
      · rename_i b
        have p2 := h2
        have m2 := mul_some h2
        have hF : scaleF s r x = (0, 0, 1) := by unfold scaleF; simp [h1, h2, hA]
        rw [hF]
        clear hF h1 h2
        go_enter Try.func10, Try.ntmps10
        go_wp2_with fail
        refine (refright_is s r false hs hr hA _).mono ?_
        rintro e w6 ⟨rfl, hb⟩
        have hR := (hb.block (w.heap.size + 1) (by simp)).trans (blk_alloc (show _ = some (.cells #[.float .f64 0, .float .f64 0] 28 (0, 0)) from blk2 w _ _ _) _)
        have hO := (hb.block (w.heap.size + 1 + 1) (by simp)).trans (show _ = some (.cells #[.float .f64 _, .float .f64 _] 28 (0, 0)) from blk3 w _ _ _ _)
        have HB := Lib.hid (below_step (show Below w.heap.size w _ from (below3 w _ _ _)) hb)
        clear hb
        obtain ⟨z0, z1, z2, z3, z4⟩ := set_two hR (.float .f64 0) (.float .f64 0)
        clear hR hO
        go_wp2
        refine bodyPost_ret (results_ct rfl _ _ (w.heap.size + 1) 28 _ (0, 0) _ rfl z4 hu rfl (by kernel_rfl)) rfl ?_
        exact ⟨rfl, below_set (below_set HB.out (by omega) _) (by omega) _⟩
  · cases h1 : mulF s x
    · obtain ⟨g1, m1, l1, n1⟩ := mul_none h1
      cases h2 : mulF r x
      · obtain ⟨g2, m2, l2, n2⟩ := mul_none h2
        have hF : scaleF s r x = (0, 0, 1) := by unfold scaleF; simp [h1, h2, hA]
        rw [hF]
        clear hF h1 h2
        go_enter Try.func10, Try.ntmps10
        go_wp2_with fail
        refine (refright_is s r true hs hr hA _).mono ?_
        rintro e w6 ⟨rfl, hb⟩
        have hR := (hb.block (w.heap.size + 1) (by simp)).trans (blk_alloc (show _ = some (.cells #[.float .f64 0, .float .f64 0] 28 (0, 0)) from blk2 w _ _ _) _)
        have hO := (hb.block (w.heap.size + 1 + 1) (by simp)).trans (show _ = some (.cells #[.float .f64 _, .float .f64 _] 28 (0, 0)) from blk3 w _ _ _ _)
        have HB := Lib.hid (below_step (show Below w.heap.size w _ from (below3 w _ _ _).drew.drew) hb)
        clear hb
        have o0 := blk_cell hO 0 _ rfl
        have o1 := blk_cell hO 1 _ rfl
        go_wp2_with fail
        refine (refright_is _ _ false (l1 _) (l2 _) (right_nan1 (n1 _)) _).mono ?_
        rintro e w7 ⟨rfl, hb⟩
        have HB7 := Lib.hid (below_step HB.out hb)
        have hR := (hb.block (w.heap.size + 1) (by have := HB.out.size; have := World.block_lt_of_cell? _ _ o0; simp at this; omega)).trans hR
        have hO := (hb.block (w.heap.size + 1 + 1) (by have := World.block_lt_of_cell? _ _ o0; simpa using this)).trans hO
        clear hb HB o0 o1
        have HB := HB7
        clear HB7
        have o0 := blk_cell hO 0 _ rfl
        have o1 := blk_cell hO 1 _ rfl
        obtain ⟨z0, z1, z2, z3, z4⟩ := set_two hR (.float .f64 0) (.float .f64 0)
        clear hR hO
        go_wp2
        refine bodyPost_ret (results_ct rfl _ _ (w.heap.size + 1) 28 _ (0, 0) _ rfl z4 hu rfl (by kernel_rfl)) rfl ?_
        exact ⟨rfl, below_set (below_set HB.out (by omega) _) (by omega) _⟩
      · rename_i b
        have p2 := h2
        have m2 := mul_some h2
        have hF : scaleF s r x = (0, 0, 1) := by unfold scaleF; simp [h1, h2, hA]
        rw [hF]
        clear hF h1 h2
        go_enter Try.func10, Try.ntmps10
        go_wp2_with fail
        refine (refright_is s r true hs hr hA _).mono ?_
        rintro e w6 ⟨rfl, hb⟩
        have hR := (hb.block (w.heap.size + 1) (by simp)).trans (blk_alloc (show _ = some (.cells #[.float .f64 0, .float .f64 0] 28 (0, 0)) from blk2 w _ _ _) _)
        have hO := (hb.block (w.heap.size + 1 + 1) (by simp)).trans (show _ = some (.cells #[.float .f64 _, .float .f64 _] 28 (0, 0)) from blk3 w _ _ _ _)
        have HB := Lib.hid (below_step (show Below w.heap.size w _ from (below3 w _ _ _).drew) hb)
        clear hb
        have o0 := blk_cell hO 0 _ rfl
        have o1 := blk_cell hO 1 _ rfl
        go_wp2_with fail
        refine (refright_is _ _ false (l1 _) (mulF_lt p2) (right_nan1 (n1 _)) _).mono ?_
        rintro e w7 ⟨rfl, hb⟩
        have HB7 := Lib.hid (below_step HB.out hb)
        have hR := (hb.block (w.heap.size + 1) (by have := HB.out.size; have := World.block_lt_of_cell? _ _ o0; simp at this; omega)).trans hR
        have hO := (hb.block (w.heap.size + 1 + 1) (by have := World.block_lt_of_cell? _ _ o0; simpa using this)).trans hO
        clear hb HB o0 o1
        have HB := HB7
        clear HB7
        have o0 := blk_cell hO 0 _ rfl
        have o1 := blk_cell hO 1 _ rfl
        obtain ⟨z0, z1, z2, z3, z4⟩ := set_two hR (.float .f64 0) (.float .f64 0)
        clear hR hO
        go_wp2
        refine bodyPost_ret (results_ct rfl _ _ (w.heap.size + 1) 28 _ (0, 0) _ rfl z4 hu rfl (by kernel_rfl)) rfl ?_
        exact ⟨rfl, below_set (below_set HB.out (by omega) _) (by omega) _⟩
    · rename_i a
      have p1 := h1
      have m1 := mul_some h1
      cases h2 : mulF r x
      · obtain ⟨g2, m2, l2, n2⟩ := mul_none h2
        have hF : scaleF s r x = (0, 0, 1) := by unfold scaleF; simp [h1, h2, hA]
        rw [hF]
        clear hF h1 h2
        go_enter Try.func10, Try.ntmps10
        go_wp2_with fail
        refine (refright_is s r true hs hr hA _).mono ?_
        rintro e w6 ⟨rfl, hb⟩
        have hR := (hb.block (w.heap.size + 1) (by simp)).trans (blk_alloc (show _ = some (.cells #[.float .f64 0, .float .f64 0] 28 (0, 0)) from blk2 w _ _ _) _)
        have hO := (hb.block (w.heap.size + 1 + 1) (by simp)).trans (show _ = some (.cells #[.float .f64 _, .float .f64 _] 28 (0, 0)) from blk3 w _ _ _ _)
        have HB := Lib.hid (below_step (show Below w.heap.size w _ from (below3 w _ _ _).drew) hb)
        clear hb
        have o0 := blk_cell hO 0 _ rfl
        have o1 := blk_cell hO 1 _ rfl
        go_wp2_with fail
        refine (refright_is _ _ false (mulF_lt p1) (l2 _) (right_nan2 (n2 _)) _).mono ?_
        rintro e w7 ⟨rfl, hb⟩
        have HB7 := Lib.hid (below_step HB.out hb)
        have hR := (hb.block (w.heap.size + 1) (by have := HB.out.size; have := World.block_lt_of_cell? _ _ o0; simp at this; omega)).trans hR
        have hO := (hb.block (w.heap.size + 1 + 1) (by have := World.block_lt_of_cell? _ _ o0; simpa using this)).trans hO
        clear hb HB o0 o1
        have HB := HB7
        clear HB7
        have o0 := blk_cell hO 0 _ rfl
        have o1 := blk_cell hO 1 _ rfl
        obtain ⟨z0, z1, z2, z3, z4⟩ := set_two hR (.float .f64 0) (.float .f64 0)
        clear hR hO
        go_wp2
        refine bodyPost_ret (results_ct rfl _ _ (w.heap.size + 1) 28 _ (0, 0) _ rfl z4 hu rfl (by kernel_rfl)) rfl ?_
        exact ⟨rfl, below_set (below_set HB.out (by omega) _) (by omega) _⟩
      · rename_i b
        have p2 := h2
        have m2 := mul_some h2
        cases hO_ : rightB a b
        · skip
          have hF : scaleF s r x = (0, 0, 1) := by unfold scaleF; simp [h1, h2, hA, hO_]
          rw [hF]
          clear hF h1 h2
          go_enter Try.func10, Try.ntmps10
          go_wp2_with fail
          refine (refright_is s r true hs hr hA _).mono ?_
          rintro e w6 ⟨rfl, hb⟩
          have hR := (hb.block (w.heap.size + 1) (by simp)).trans (blk_alloc (show _ = some (.cells #[.float .f64 0, .float .f64 0] 28 (0, 0)) from blk2 w _ _ _) _)
          have hO := (hb.block (w.heap.size + 1 + 1) (by simp)).trans (show _ = some (.cells #[.float .f64 _, .float .f64 _] 28 (0, 0)) from blk3 w _ _ _ _)
          have HB := Lib.hid (below_step (show Below w.heap.size w _ from (below3 w _ _ _)) hb)
          clear hb
          have o0 := blk_cell hO 0 _ rfl
          have o1 := blk_cell hO 1 _ rfl
          go_wp2_with fail
          refine (refright_is _ _ false (mulF_lt p1) (mulF_lt p2) (hO_) _).mono ?_
          rintro e w7 ⟨rfl, hb⟩
          have HB7 := Lib.hid (below_step HB.out hb)
          have hR := (hb.block (w.heap.size + 1) (by have := HB.out.size; have := World.block_lt_of_cell? _ _ o0; simp at this; omega)).trans hR
          have hO := (hb.block (w.heap.size + 1 + 1) (by have := World.block_lt_of_cell? _ _ o0; simpa using this)).trans hO
          clear hb HB o0 o1
          have HB := HB7
          clear HB7
          have o0 := blk_cell hO 0 _ rfl
          have o1 := blk_cell hO 1 _ rfl
          obtain ⟨z0, z1, z2, z3, z4⟩ := set_two hR (.float .f64 0) (.float .f64 0)
          clear hR hO
          go_wp2
          refine bodyPost_ret (results_ct rfl _ _ (w.heap.size + 1) 28 _ (0, 0) _ rfl z4 hu rfl (by kernel_rfl)) rfl ?_
          exact ⟨rfl, below_set (below_set HB.out (by omega) _) (by omega) _⟩
        · skip
          have hF : scaleF s r x = (a, b, 0) := by unfold scaleF; simp [h1, h2, hA, hO_]
          rw [hF]
          clear hF h1 h2
          go_enter Try.func10, Try.ntmps10
          go_wp2_with fail
          refine (refright_is s r true hs hr hA _).mono ?_
          rintro e w6 ⟨rfl, hb⟩
          have hR := (hb.block (w.heap.size + 1) (by simp)).trans (blk_alloc (show _ = some (.cells #[.float .f64 0, .float .f64 0] 28 (0, 0)) from blk2 w _ _ _) _)
          have hO := (hb.block (w.heap.size + 1 + 1) (by simp)).trans (show _ = some (.cells #[.float .f64 _, .float .f64 _] 28 (0, 0)) from blk3 w _ _ _ _)
          have HB := Lib.hid (below_step (show Below w.heap.size w _ from (below3 w _ _ _)) hb)
          clear hb
          have o0 := blk_cell hO 0 _ rfl
          have o1 := blk_cell hO 1 _ rfl
          go_wp2_with fail
          refine (refright_is _ _ true (mulF_lt p1) (mulF_lt p2) (hO_) _).mono ?_
          rintro e w7 ⟨rfl, hb⟩
          have HB7 := Lib.hid (below_step HB.out hb)
          have hR := (hb.block (w.heap.size + 1) (by have := HB.out.size; have := World.block_lt_of_cell? _ _ o0; simp at this; omega)).trans hR
          have hO := (hb.block (w.heap.size + 1 + 1) (by have := World.block_lt_of_cell? _ _ o0; simpa using this)).trans hO
          clear hb HB o0 o1
          have HB := HB7
          clear HB7
          have o0 := blk_cell hO 0 _ rfl
          have o1 := blk_cell hO 1 _ rfl
          obtain ⟨z0, z1, z2, z3, z4⟩ := set_two hR (.float .f64 a) (.float .f64 b)
          clear hR hO
          go_wp2
          refine bodyPost_ret (results_ct rfl _ _ (w.heap.size + 1) 28 _ (0, 0) _ rfl z4 hu rfl (by kernel_rfl)) rfl ?_
          exact ⟨rfl, below_set (below_set HB.out (by omega) _) (by omega) _⟩
end Go.Proofs.Ytijnncnglkjpgaa.KScale
