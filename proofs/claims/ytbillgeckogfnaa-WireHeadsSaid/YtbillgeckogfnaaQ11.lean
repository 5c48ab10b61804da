/- Go functions as Lean functions, each with the proof that its call answers just so; written by wip/tools/myprint.py. -/
import Derived.Test.YtbillgeckogfnaaQ0
import Derived.Test.YtbillgeckogfnaaQ1
import Derived.Test.YtbillgeckogfnaaQ3
import Derived.Test.YtbillgeckogfnaaQ6
namespace Go.Proofs.Ytbillgeckogfnaa.Q
open Go.RowKit Go.Proofs.YtbillgeckogfnaaW.PrintWords Go.Proofs.YtbillgeckogfnaaW.PrintLast Go.Proofs.YtbillgeckogfnaaW.PrintMore
attribute [local go_sem] max2_int min2_int max_two min_two max_three min_three max_four min_four   -- for this text's walks alone
set_option linter.unusedVariables false
set_option linter.unusedSimpArgs false

/-! ### clewlaw02_WireHeads: function 7 -/
def clewlaw02_WireHeads.j0 : Nat → Int → Int → ByteArray → ByteArray → Bool → Option (Bool)
  | 0, _, _, _, _, _ => none
  | k + 1, x0, x1, x5, x6, x34 => if x34 = true then (some false) else (if x5.size + x6.size ≤ 9223372036854775807 then ((wire_Get.f (x5 ++ x6) 0).bind fun bt232 => ((wire_Get.f (x5 ++ x6) (x5.size : Int)).bind fun bt235 => (if bt232.1 = x0 then (if bt232.2.1 = (x5.size : Int) then (if bt232.2.2 = 0 then (if bt235.1 = x1 then (if bt235.2.1 = (wrap64 ((x5.size : Int) + (x6.size : Int))) then (if bt235.2.2 = 0 then ((clewlaw02_fixed.f k).bind fun t238 => (some t238)) else (some false)) else (some false)) else (some false)) else (some false)) else (some false)) else (some false)))) else (none))
def clewlaw02_WireHeads.f (k : Nat) (a0 : Int) (a1 : Int) : Option (Bool) := (wire_Put.f k a0).bind fun t230 => ((wire_Put.f k a1).bind fun t231 => (if a0 = a1 then (clewlaw02_WireHeads.j0 k a0 a1 t230 t231 false) else (if (t230.size : Int) ≤ (t231.size : Int) then (if 0 ≤ (t230.size : Int) then (clewlaw02_WireHeads.j0 k a0 a1 t230 t231 ((t231.extract 0 ((t230.size : Int) : Int).toNat).toList == t230.toList)) else (none)) else (clewlaw02_WireHeads.j0 k a0 a1 t230 t231 false))))
theorem clewlaw02_WireHeads.mono_l : ∀ k, (∀ y0 y1 y2 y3 y4, LeO (clewlaw02_WireHeads.j0 k y0 y1 y2 y3 y4) (clewlaw02_WireHeads.j0 (k + 1) y0 y1 y2 y3 y4))
  | 0 => fun _ _ _ _ _ r h => by simp [clewlaw02_WireHeads.j0] at h
  | k + 1 => by
    have ih0 := clewlaw02_WireHeads.mono_l k
    · intro y0 y1 y2 y3 y4
      unfold clewlaw02_WireHeads.j0
      repeat' first
      | (with_reducible exact ih0 _ _ _ _ _)
      | (with_reducible exact clewlaw02_fixed.mono _)
      | (with_reducible exact wire_Put.mono _ _)
      | (with_reducible exact LeO.refl _)
      | (with_reducible exact LeO.none _)
      | (with_reducible refine LeO.ite ?_ ?_)
      | (with_reducible refine LeO.bind ?_ (fun _ => ?_))
      | exact ih0 _ _ _ _ _
      | exact clewlaw02_fixed.mono _
      | exact wire_Put.mono _ _
      | exact LeO.none _
      | refine LeO.ite ?_ ?_
      | refine LeO.bind ?_ (fun _ => ?_)
theorem clewlaw02_WireHeads.mono : ∀ a0 a1 k, LeO (clewlaw02_WireHeads.f k a0 a1) (clewlaw02_WireHeads.f (k + 1) a0 a1) := by
  intro a0 a1 k
  have ih0 := clewlaw02_WireHeads.mono_l k
  unfold clewlaw02_WireHeads.f
  repeat' first
      | (with_reducible exact ih0 _ _ _ _ _)
      | (with_reducible exact clewlaw02_fixed.mono _)
      | (with_reducible exact wire_Put.mono _ _)
      | (with_reducible exact LeO.refl _)
      | (with_reducible exact LeO.none _)
      | (with_reducible refine LeO.ite ?_ ?_)
      | (with_reducible refine LeO.bind ?_ (fun _ => ?_))
      | exact ih0 _ _ _ _ _
      | exact clewlaw02_fixed.mono _
      | exact wire_Put.mono _ _
      | exact LeO.none _
      | refine LeO.ite ?_ ?_
      | refine LeO.bind ?_ (fun _ => ?_)
set_option maxHeartbeats 8000000 in
set_option maxRecDepth 100000 in
theorem clewlaw02_WireHeads.calls (k : Nat) (a0 : Int) (a1 : Int) (r : Bool) (w : World) (h : clewlaw02_WireHeads.f k a0 a1 = some r) :
    Calls Try.prog 7 #[.int .u64 a0, .int .u64 a1] w fun e w' => e = .returned (.bool r) ∧ Below w.heap.size w w' := by
  have HB := Aside0.mk (Below.refl w.heap.size w)
  have H : ((wire_Put.f k a0).bind fun t230 => ((wire_Put.f k a1).bind fun t231 => (if a0 = a1 then (clewlaw02_WireHeads.j0 k a0 a1 t230 t231 false) else (if (t230.size : Int) ≤ (t231.size : Int) then (if 0 ≤ (t230.size : Int) then (clewlaw02_WireHeads.j0 k a0 a1 t230 t231 ((t231.extract 0 ((t230.size : Int) : Int).toNat).toList == t230.toList)) else (none)) else (clewlaw02_WireHeads.j0 k a0 a1 t230 t231 false))))) = some r := h
  clear h
  replace H := Option.bind_eq_some_iff.mp H
  obtain ⟨t230, A30, H⟩ := H
  replace H : ((wire_Put.f k a1).bind fun t231 => (if a0 = a1 then (clewlaw02_WireHeads.j0 k a0 a1 t230 t231 false) else (if (t230.size : Int) ≤ (t231.size : Int) then (if 0 ≤ (t230.size : Int) then (clewlaw02_WireHeads.j0 k a0 a1 t230 t231 ((t231.extract 0 ((t230.size : Int) : Int).toNat).toList == t230.toList)) else (none)) else (clewlaw02_WireHeads.j0 k a0 a1 t230 t231 false)))) = some r := H
  have A3 := Aside0.mk A30
  clear A30
  replace H := Option.bind_eq_some_iff.mp H
  obtain ⟨t231, A40, H⟩ := H
  replace H : (if a0 = a1 then (clewlaw02_WireHeads.j0 k a0 a1 t230 t231 false) else (if (t230.size : Int) ≤ (t231.size : Int) then (if 0 ≤ (t230.size : Int) then (clewlaw02_WireHeads.j0 k a0 a1 t230 t231 ((t231.extract 0 ((t230.size : Int) : Int).toNat).toList == t230.toList)) else (none)) else (clewlaw02_WireHeads.j0 k a0 a1 t230 t231 false))) = some r := H
  have A4 := Aside0.mk A40
  clear A40
  have HC5 := Aside0.mk H
  clear H
  go_enter Try.func7, Try.ntmps7
  go_upto_region 2 with (first | ((with_reducible refine gate_callee (f := 11) rfl ?_); refine goesL_ (some 14) rfl rfl Try.func11 (by kernel_rfl) rfl #[.int .u64 a0] rfl (by (try simp only [List.map_toArray, List.map_cons, List.map_nil]); first | done | rfl | (simp only [List.length_drop, List.length_take]; rfl)) ?_; (with_reducible refine (wire_Put.calls k a0 t230 _ A3.out).mono ?_); rintro e w6 ⟨rfl, hb⟩; refine ⟨_, rfl, ?_⟩; have n0_ := Aside0.mk (below_step (by repeat (first | (with_reducible first | exact HB.out | apply below_alloc | apply pw_below_drewN | apply below_drew1) | exact HB.out)) hb); clear HB; have HB := n0_; clear n0_; (try clear hb); (try clear hb2); (try clear hk); (try clear hi)) | ((with_reducible refine gate_callee (f := 11) rfl ?_); refine goesL_ (some 16) rfl rfl Try.func11 (by kernel_rfl) rfl #[.int .u64 a1] rfl (by (try simp only [List.map_toArray, List.map_cons, List.map_nil]); first | done | rfl | (simp only [List.length_drop, List.length_take]; rfl)) ?_; (with_reducible refine (wire_Put.calls k a1 t231 _ A4.out).mono ?_); rintro e w7 ⟨rfl, hb⟩; refine ⟨_, rfl, ?_⟩; have n0_ := Aside0.mk (below_step (by repeat (first | (with_reducible first | exact HB.out | apply below_alloc | apply pw_below_drewN | apply below_drew1) | exact HB.out)) hb); clear HB; have HB := n0_; clear n0_; (try clear hb); (try clear hb2); (try clear hk); (try clear hi)))
  (try simp only [Act.put, List.setIfInBounds_toArray, List.set_cons_zero, List.set_cons_succ])
  go_cut [34] (fun v34 wc => ∃ (kq : Nat) (x34_4 : Bool), v34 = .bool x34_4 ∧ Aside0 (clewlaw02_WireHeads.j0 kq a0 a1 t230 t231 x34_4 = some r) ∧ Aside0 (kq ≤ k) ∧ Aside0 (Below w.heap.size w wc))
  case first =>
    have H := HC5.out
    clear HC5
    by_cases c8 : a0 = a1
    · rw [if_pos c8] at H
      have c8b0 : (a0 == a1) = true := beq_iff_eq.mpr c8
      have c8b1 : (a0 != a1) = false := bne_eq_false_iff_eq.mpr c8
      clear c8
      (first | rw [c8b0] | (simp only [i64_w, i32_w]; rw [c8b0]) | skip)
      have H' := Aside0.mk H
      clear H
      go_wp2
      go_meet
      case rel => exact ⟨_, (false), (by first | rfl | (simp; done) | (simp [*]; done)), H', ⟨by first | omega | exact Nat.le_refl _⟩, ⟨by repeat (first | (with_reducible first | exact HB.out | apply below_alloc | apply pw_below_drewN | apply below_drew1) | exact HB.out)⟩⟩
    · rw [if_neg c8] at H
      have c8b0 : (a0 == a1) = false := beq_eq_false_iff_ne.mpr c8
      have c8b1 : (a0 != a1) = true := bne_iff_ne.mpr c8
      (first | rw [c8b0] | (simp only [i64_w, i32_w]; rw [c8b0]) | skip)
      by_cases c9 : (t230.size : Int) ≤ (t231.size : Int)
      · rw [if_pos c9] at H
        have c9b0 : decide ((t230.size : Int) ≤ (t231.size : Int)) = true := decide_eq_true c9
        have c9b1 : decide (t230.size ≤ t231.size) = true := decide_eq_true (Int.ofNat_le.mp c9)
        clear c9
        by_cases c10 : 0 ≤ (t230.size : Int)
        · rw [if_pos c10] at H
          have c10b0 := eq_true c10
          have c10b1 : decide (0 ≤ (t230.size : Int)) = true := decide_eq_true c10
          clear c10
          have c11b0 := eq_true (of_decide_eq_true (by first | (with_reducible assumption) | assumption) : (t230.size : Int) ≤ (t231.size : Int))
          obtain ⟨js12, hjs12⟩ : ∃ j_ : ByteArray, (t231.extract 0 ((t230.size : Int) : Int).toNat) = j_ := ⟨_, rfl⟩
          replace H : (clewlaw02_WireHeads.j0 k a0 a1 t230 t231 ((js12).toList == t230.toList)) = some r := by first | exact H | (rw [hjs12] at H; exact H) | (simp only [hjs12] at H ⊢; exact H)
          have H' := Aside0.mk H
          clear H
          go_wp2
          go_meet
          case rel => exact ⟨_, (((js12).toList == t230.toList)), (by first | rfl | (simp; done) | (simp only [← hjs12] <;> (first | rfl | simp)) | (simp [*]; done)), H', ⟨by first | omega | exact Nat.le_refl _⟩, ⟨by repeat (first | (with_reducible first | exact HB.out | apply below_alloc | apply pw_below_drewN | apply below_drew1) | exact HB.out)⟩⟩
        · rw [if_neg c10] at H
          exact absurd H (by simp)
      · rw [if_neg c9] at H
        have c9b0 : decide ((t230.size : Int) ≤ (t231.size : Int)) = false := decide_eq_false c9
        have c9b1 : decide (t230.size ≤ t231.size) = false := decide_eq_false (fun h => c9 (Int.ofNat_le.mpr h))
        clear c9
        have H' := Aside0.mk H
        clear H
        go_wp2
        go_meet
        case rel => exact ⟨_, (false), (by first | rfl | (simp; done) | (simp [*]; done)), H', ⟨by first | omega | exact Nat.le_refl _⟩, ⟨by repeat (first | (with_reducible first | exact HB.out | apply below_alloc | apply pw_below_drewN | apply below_drew1) | exact HB.out)⟩⟩
  case rest =>
    clear HC5
    try clear c1
    try clear p2
    try clear c7
    try clear c8
    try clear c8b0
    try clear c8b1
    try clear c9
    try clear c9b0
    try clear c9b1
    try clear c10
    try clear c10b0
    try clear c10b1
    try clear c11
    try clear c11b0
    obtain ⟨kq, x34_4, rfl, HA, HJ4, HB⟩ := hcut
    cases kq with
    | zero => exact absurd HA.out (by simp [clewlaw02_WireHeads.j0])
    | succ kj4 =>
      have H := HA.out
      clear HA
      simp only [clewlaw02_WireHeads.j0] at H
      by_cases c13 : x34_4 = true
      · subst c13
        have H1 : (some false) = some r := by rw [if_pos rfl] at H; exact H
        clear H
        have H := H1
        clear H1
        obtain rfl := Option.some.inj H
        go_wp2
        go_ret
        exact ⟨by first | rfl | (simp [errW_none, errW_some] <;> rfl) | (simp [*, errW_none, errW_some] <;> rfl), by repeat (first | (with_reducible first | exact HB.out | apply below_alloc | apply pw_below_drewN | apply below_drew1) | exact HB.out)⟩
      · replace c13 := Bool.eq_false_iff.mpr c13
        subst c13
        have H1 : (if t230.size + t231.size ≤ 9223372036854775807 then ((wire_Get.f (t230 ++ t231) 0).bind fun bt232 => ((wire_Get.f (t230 ++ t231) (t230.size : Int)).bind fun bt235 => (if bt232.1 = a0 then (if bt232.2.1 = (t230.size : Int) then (if bt232.2.2 = 0 then (if bt235.1 = a1 then (if bt235.2.1 = (wrap64 ((t230.size : Int) + (t231.size : Int))) then (if bt235.2.2 = 0 then ((clewlaw02_fixed.f kj4).bind fun t238 => (some t238)) else (some false)) else (some false)) else (some false)) else (some false)) else (some false)) else (some false)))) else (none)) = some r := by rw [if_neg (show ¬ (false = true) by decide)] at H; exact H
        clear H
        have H := H1
        clear H1
        by_cases c14 : t230.size + t231.size ≤ 9223372036854775807
        · rw [if_pos c14] at H
          have c14b0 := eq_true c14
          have c14b1 : decide (t230.size + t231.size ≤ 9223372036854775807) = true := decide_eq_true c14
          try have c14b2 : (9223372036854775807 < t230.size + t231.size) = False := eq_false (Nat.not_lt.2 c14)
          replace H := Option.bind_eq_some_iff.mp H
          obtain ⟨⟨t232, t233, t234⟩, A150, H⟩ := H
          replace H : ((wire_Get.f (t230 ++ t231) (t230.size : Int)).bind fun bt235 => (if t232 = a0 then (if t233 = (t230.size : Int) then (if t234 = 0 then (if bt235.1 = a1 then (if bt235.2.1 = (wrap64 ((t230.size : Int) + (t231.size : Int))) then (if bt235.2.2 = 0 then ((clewlaw02_fixed.f kj4).bind fun t238 => (some t238)) else (some false)) else (some false)) else (some false)) else (some false)) else (some false)) else (some false))) = some r := H
          have A15 := Aside0.mk A150
          clear A150
          replace H := Option.bind_eq_some_iff.mp H
          obtain ⟨⟨t235, t236, t237⟩, A160, H⟩ := H
          replace H : (if t232 = a0 then (if t233 = (t230.size : Int) then (if t234 = 0 then (if t235 = a1 then (if t236 = (wrap64 ((t230.size : Int) + (t231.size : Int))) then (if t237 = 0 then ((clewlaw02_fixed.f kj4).bind fun t238 => (some t238)) else (some false)) else (some false)) else (some false)) else (some false)) else (some false)) else (some false)) = some r := H
          have A16 := Aside0.mk A160
          clear A160
          by_cases c17 : t232 = a0
          · rw [if_pos c17] at H
            have c17b0 : (t232 == a0) = true := beq_iff_eq.mpr c17
            have c17b1 : (t232 != a0) = false := bne_eq_false_iff_eq.mpr c17
            clear c17
            by_cases c18 : t233 = (t230.size : Int)
            · rw [if_pos c18] at H
              have c18b0 : (t233 == (t230.size : Int)) = true := beq_iff_eq.mpr c18
              have c18b1 : (t233 != (t230.size : Int)) = false := bne_eq_false_iff_eq.mpr c18
              clear c18
              by_cases c19 : t234 = 0
              · rw [if_pos c19] at H
                have c19b0 : (t234 == 0) = true := beq_iff_eq.mpr c19
                have c19b1 : (t234 != 0) = false := bne_eq_false_iff_eq.mpr c19
                clear c19
                by_cases c20 : t235 = a1
                · rw [if_pos c20] at H
                  have c20b0 : (t235 == a1) = true := beq_iff_eq.mpr c20
                  have c20b1 : (t235 != a1) = false := bne_eq_false_iff_eq.mpr c20
                  clear c20
                  by_cases c21 : t236 = (wrap64 ((t230.size : Int) + (t231.size : Int)))
                  · rw [if_pos c21] at H
                    have c21b0 : (t236 == (wrap64 ((t230.size : Int) + (t231.size : Int)))) = true := beq_iff_eq.mpr c21
                    try (have c21b0w : (t236 == ((t230.size : Int) + (t231.size : Int))) = true := by (have hw_ : wrap64 ((t230.size : Int) + (t231.size : Int)) = ((t230.size : Int) + (t231.size : Int)) := (by unfold wrap64; omega)); rw [hw_] at c21b0; exact c21b0)
                    have c21b1 : (t236 != (wrap64 ((t230.size : Int) + (t231.size : Int)))) = false := bne_eq_false_iff_eq.mpr c21
                    try (have c21b1w : (t236 != ((t230.size : Int) + (t231.size : Int))) = false := by (have hw_ : wrap64 ((t230.size : Int) + (t231.size : Int)) = ((t230.size : Int) + (t231.size : Int)) := (by unfold wrap64; omega)); rw [hw_] at c21b1; exact c21b1)
                    clear c21
                    by_cases c22 : t237 = 0
                    · rw [if_pos c22] at H
                      have c22b0 : (t237 == 0) = true := beq_iff_eq.mpr c22
                      have c22b1 : (t237 != 0) = false := bne_eq_false_iff_eq.mpr c22
                      clear c22
                      replace H := Option.bind_eq_some_iff.mp H
                      obtain ⟨t238, A230, H⟩ := H
                      replace H : (some t238) = some r := H
                      have A23 := Aside0.mk A230
                      clear A230
                      obtain rfl := Option.some.inj H
                      go_wp2_with (first | ((with_reducible refine gate_callee (f := 9) rfl ?_); refine goesL_ (some 39) rfl rfl Try.func9 (by kernel_rfl) rfl #[.string (t230 ++ t231), .int .i64 0] rfl (by (try simp only [List.map_toArray, List.map_cons, List.map_nil]); first | done | rfl | (simp only [List.length_drop, List.length_take]; rfl)) ?_; (with_reducible refine (wire_Get.calls (t230 ++ t231) 0 t232 t233 t234 _ A15.out).mono ?_); rintro e w' ⟨rfl, ⟨nd, rfl⟩⟩; refine ⟨_, rfl, ?_⟩) | ((with_reducible refine gate_callee (f := 9) rfl ?_); refine goesL_ (some 49) rfl rfl Try.func9 (by kernel_rfl) rfl #[.string (t230 ++ t231), .int .i64 (t230.size : Int)] rfl (by (try simp only [List.map_toArray, List.map_cons, List.map_nil]); first | done | rfl | (simp only [List.length_drop, List.length_take]; rfl)) ?_; (with_reducible refine (wire_Get.calls (t230 ++ t231) (t230.size : Int) t235 t236 t237 _ A16.out).mono ?_); rintro e w' ⟨rfl, ⟨nd, rfl⟩⟩; refine ⟨_, rfl, ?_⟩) | (go_at_call 14; (with_reducible refine (clewlaw02_fixed.calls kj4  t238 _ A23.out).mono ?_); rintro e w24 ⟨rfl, hb⟩; have n0_ := Aside0.mk (below_step (by repeat (first | (with_reducible first | exact HB.out | apply below_alloc | apply pw_below_drewN | apply below_drew1) | exact HB.out)) hb); clear HB; have HB := n0_; clear n0_; (try clear hb); (try clear hb2); (try clear hk); (try clear hi)))
                      go_ret
                      exact ⟨by first | rfl | (simp [errW_none, errW_some] <;> rfl) | (simp [*, errW_none, errW_some] <;> rfl), by repeat (first | (with_reducible first | exact HB.out | apply below_alloc | apply pw_below_drewN | apply below_drew1) | exact HB.out)⟩
                    · rw [if_neg c22] at H
                      have c22b0 : (t237 == 0) = false := beq_eq_false_iff_ne.mpr c22
                      have c22b1 : (t237 != 0) = true := bne_iff_ne.mpr c22
                      obtain rfl := Option.some.inj H
                      go_wp2_with (first | ((with_reducible refine gate_callee (f := 9) rfl ?_); refine goesL_ (some 39) rfl rfl Try.func9 (by kernel_rfl) rfl #[.string (t230 ++ t231), .int .i64 0] rfl (by (try simp only [List.map_toArray, List.map_cons, List.map_nil]); first | done | rfl | (simp only [List.length_drop, List.length_take]; rfl)) ?_; (with_reducible refine (wire_Get.calls (t230 ++ t231) 0 t232 t233 t234 _ A15.out).mono ?_); rintro e w' ⟨rfl, ⟨nd, rfl⟩⟩; refine ⟨_, rfl, ?_⟩) | ((with_reducible refine gate_callee (f := 9) rfl ?_); refine goesL_ (some 49) rfl rfl Try.func9 (by kernel_rfl) rfl #[.string (t230 ++ t231), .int .i64 (t230.size : Int)] rfl (by (try simp only [List.map_toArray, List.map_cons, List.map_nil]); first | done | rfl | (simp only [List.length_drop, List.length_take]; rfl)) ?_; (with_reducible refine (wire_Get.calls (t230 ++ t231) (t230.size : Int) t235 t236 t237 _ A16.out).mono ?_); rintro e w' ⟨rfl, ⟨nd, rfl⟩⟩; refine ⟨_, rfl, ?_⟩))
                      go_ret
                      exact ⟨by first | rfl | (simp [errW_none, errW_some] <;> rfl) | (simp [*, errW_none, errW_some] <;> rfl), by repeat (first | (with_reducible first | exact HB.out | apply below_alloc | apply pw_below_drewN | apply below_drew1) | exact HB.out)⟩
                  · rw [if_neg c21] at H
                    have c21b0 : (t236 == (wrap64 ((t230.size : Int) + (t231.size : Int)))) = false := beq_eq_false_iff_ne.mpr c21
                    try (have c21b0w : (t236 == ((t230.size : Int) + (t231.size : Int))) = false := by (have hw_ : wrap64 ((t230.size : Int) + (t231.size : Int)) = ((t230.size : Int) + (t231.size : Int)) := (by unfold wrap64; omega)); rw [hw_] at c21b0; exact c21b0)
                    have c21b1 : (t236 != (wrap64 ((t230.size : Int) + (t231.size : Int)))) = true := bne_iff_ne.mpr c21
                    try (have c21b1w : (t236 != ((t230.size : Int) + (t231.size : Int))) = true := by (have hw_ : wrap64 ((t230.size : Int) + (t231.size : Int)) = ((t230.size : Int) + (t231.size : Int)) := (by unfold wrap64; omega)); rw [hw_] at c21b1; exact c21b1)
                    obtain rfl := Option.some.inj H
                    go_wp2_with (first | ((with_reducible refine gate_callee (f := 9) rfl ?_); refine goesL_ (some 39) rfl rfl Try.func9 (by kernel_rfl) rfl #[.string (t230 ++ t231), .int .i64 0] rfl (by (try simp only [List.map_toArray, List.map_cons, List.map_nil]); first | done | rfl | (simp only [List.length_drop, List.length_take]; rfl)) ?_; (with_reducible refine (wire_Get.calls (t230 ++ t231) 0 t232 t233 t234 _ A15.out).mono ?_); rintro e w' ⟨rfl, ⟨nd, rfl⟩⟩; refine ⟨_, rfl, ?_⟩) | ((with_reducible refine gate_callee (f := 9) rfl ?_); refine goesL_ (some 49) rfl rfl Try.func9 (by kernel_rfl) rfl #[.string (t230 ++ t231), .int .i64 (t230.size : Int)] rfl (by (try simp only [List.map_toArray, List.map_cons, List.map_nil]); first | done | rfl | (simp only [List.length_drop, List.length_take]; rfl)) ?_; (with_reducible refine (wire_Get.calls (t230 ++ t231) (t230.size : Int) t235 t236 t237 _ A16.out).mono ?_); rintro e w' ⟨rfl, ⟨nd, rfl⟩⟩; refine ⟨_, rfl, ?_⟩))
                    go_ret
                    exact ⟨by first | rfl | (simp [errW_none, errW_some] <;> rfl) | (simp [*, errW_none, errW_some] <;> rfl), by repeat (first | (with_reducible first | exact HB.out | apply below_alloc | apply pw_below_drewN | apply below_drew1) | exact HB.out)⟩
                · rw [if_neg c20] at H
                  have c20b0 : (t235 == a1) = false := beq_eq_false_iff_ne.mpr c20
                  have c20b1 : (t235 != a1) = true := bne_iff_ne.mpr c20
                  obtain rfl := Option.some.inj H
                  go_wp2_with (first | ((with_reducible refine gate_callee (f := 9) rfl ?_); refine goesL_ (some 39) rfl rfl Try.func9 (by kernel_rfl) rfl #[.string (t230 ++ t231), .int .i64 0] rfl (by (try simp only [List.map_toArray, List.map_cons, List.map_nil]); first | done | rfl | (simp only [List.length_drop, List.length_take]; rfl)) ?_; (with_reducible refine (wire_Get.calls (t230 ++ t231) 0 t232 t233 t234 _ A15.out).mono ?_); rintro e w' ⟨rfl, ⟨nd, rfl⟩⟩; refine ⟨_, rfl, ?_⟩) | ((with_reducible refine gate_callee (f := 9) rfl ?_); refine goesL_ (some 49) rfl rfl Try.func9 (by kernel_rfl) rfl #[.string (t230 ++ t231), .int .i64 (t230.size : Int)] rfl (by (try simp only [List.map_toArray, List.map_cons, List.map_nil]); first | done | rfl | (simp only [List.length_drop, List.length_take]; rfl)) ?_; (with_reducible refine (wire_Get.calls (t230 ++ t231) (t230.size : Int) t235 t236 t237 _ A16.out).mono ?_); rintro e w' ⟨rfl, ⟨nd, rfl⟩⟩; refine ⟨_, rfl, ?_⟩))
                  go_ret
                  exact ⟨by first | rfl | (simp [errW_none, errW_some] <;> rfl) | (simp [*, errW_none, errW_some] <;> rfl), by repeat (first | (with_reducible first | exact HB.out | apply below_alloc | apply pw_below_drewN | apply below_drew1) | exact HB.out)⟩
              · rw [if_neg c19] at H
                have c19b0 : (t234 == 0) = false := beq_eq_false_iff_ne.mpr c19
                have c19b1 : (t234 != 0) = true := bne_iff_ne.mpr c19
                obtain rfl := Option.some.inj H
                go_wp2_with (first | ((with_reducible refine gate_callee (f := 9) rfl ?_); refine goesL_ (some 39) rfl rfl Try.func9 (by kernel_rfl) rfl #[.string (t230 ++ t231), .int .i64 0] rfl (by (try simp only [List.map_toArray, List.map_cons, List.map_nil]); first | done | rfl | (simp only [List.length_drop, List.length_take]; rfl)) ?_; (with_reducible refine (wire_Get.calls (t230 ++ t231) 0 t232 t233 t234 _ A15.out).mono ?_); rintro e w' ⟨rfl, ⟨nd, rfl⟩⟩; refine ⟨_, rfl, ?_⟩) | ((with_reducible refine gate_callee (f := 9) rfl ?_); refine goesL_ (some 49) rfl rfl Try.func9 (by kernel_rfl) rfl #[.string (t230 ++ t231), .int .i64 (t230.size : Int)] rfl (by (try simp only [List.map_toArray, List.map_cons, List.map_nil]); first | done | rfl | (simp only [List.length_drop, List.length_take]; rfl)) ?_; (with_reducible refine (wire_Get.calls (t230 ++ t231) (t230.size : Int) t235 t236 t237 _ A16.out).mono ?_); rintro e w' ⟨rfl, ⟨nd, rfl⟩⟩; refine ⟨_, rfl, ?_⟩))
                go_ret
                exact ⟨by first | rfl | (simp [errW_none, errW_some] <;> rfl) | (simp [*, errW_none, errW_some] <;> rfl), by repeat (first | (with_reducible first | exact HB.out | apply below_alloc | apply pw_below_drewN | apply below_drew1) | exact HB.out)⟩
            · rw [if_neg c18] at H
              have c18b0 : (t233 == (t230.size : Int)) = false := beq_eq_false_iff_ne.mpr c18
              have c18b1 : (t233 != (t230.size : Int)) = true := bne_iff_ne.mpr c18
              obtain rfl := Option.some.inj H
              go_wp2_with (first | ((with_reducible refine gate_callee (f := 9) rfl ?_); refine goesL_ (some 39) rfl rfl Try.func9 (by kernel_rfl) rfl #[.string (t230 ++ t231), .int .i64 0] rfl (by (try simp only [List.map_toArray, List.map_cons, List.map_nil]); first | done | rfl | (simp only [List.length_drop, List.length_take]; rfl)) ?_; (with_reducible refine (wire_Get.calls (t230 ++ t231) 0 t232 t233 t234 _ A15.out).mono ?_); rintro e w' ⟨rfl, ⟨nd, rfl⟩⟩; refine ⟨_, rfl, ?_⟩) | ((with_reducible refine gate_callee (f := 9) rfl ?_); refine goesL_ (some 49) rfl rfl Try.func9 (by kernel_rfl) rfl #[.string (t230 ++ t231), .int .i64 (t230.size : Int)] rfl (by (try simp only [List.map_toArray, List.map_cons, List.map_nil]); first | done | rfl | (simp only [List.length_drop, List.length_take]; rfl)) ?_; (with_reducible refine (wire_Get.calls (t230 ++ t231) (t230.size : Int) t235 t236 t237 _ A16.out).mono ?_); rintro e w' ⟨rfl, ⟨nd, rfl⟩⟩; refine ⟨_, rfl, ?_⟩))
              go_ret
              exact ⟨by first | rfl | (simp [errW_none, errW_some] <;> rfl) | (simp [*, errW_none, errW_some] <;> rfl), by repeat (first | (with_reducible first | exact HB.out | apply below_alloc | apply pw_below_drewN | apply below_drew1) | exact HB.out)⟩
          · rw [if_neg c17] at H
            have c17b0 : (t232 == a0) = false := beq_eq_false_iff_ne.mpr c17
            have c17b1 : (t232 != a0) = true := bne_iff_ne.mpr c17
            obtain rfl := Option.some.inj H
            go_wp2_with (first | ((with_reducible refine gate_callee (f := 9) rfl ?_); refine goesL_ (some 39) rfl rfl Try.func9 (by kernel_rfl) rfl #[.string (t230 ++ t231), .int .i64 0] rfl (by (try simp only [List.map_toArray, List.map_cons, List.map_nil]); first | done | rfl | (simp only [List.length_drop, List.length_take]; rfl)) ?_; (with_reducible refine (wire_Get.calls (t230 ++ t231) 0 t232 t233 t234 _ A15.out).mono ?_); rintro e w' ⟨rfl, ⟨nd, rfl⟩⟩; refine ⟨_, rfl, ?_⟩) | ((with_reducible refine gate_callee (f := 9) rfl ?_); refine goesL_ (some 49) rfl rfl Try.func9 (by kernel_rfl) rfl #[.string (t230 ++ t231), .int .i64 (t230.size : Int)] rfl (by (try simp only [List.map_toArray, List.map_cons, List.map_nil]); first | done | rfl | (simp only [List.length_drop, List.length_take]; rfl)) ?_; (with_reducible refine (wire_Get.calls (t230 ++ t231) (t230.size : Int) t235 t236 t237 _ A16.out).mono ?_); rintro e w' ⟨rfl, ⟨nd, rfl⟩⟩; refine ⟨_, rfl, ?_⟩))
            go_ret
            exact ⟨by first | rfl | (simp [errW_none, errW_some] <;> rfl) | (simp [*, errW_none, errW_some] <;> rfl), by repeat (first | (with_reducible first | exact HB.out | apply below_alloc | apply pw_below_drewN | apply below_drew1) | exact HB.out)⟩
        · rw [if_neg c14] at H
          exact absurd H (by simp)

/-- THE ONE PURE STATEMENT of clewlaw02_WireHeads: yours. -/
def clewlaw02_WireHeads.Pure : Prop := ∀ (a0 : Int) (a1 : Int), (Lit.int .u64 a0).wf = true → (Lit.int .u64 a1).wf = true → ∃ k, clewlaw02_WireHeads.f k a0 a1 = some true
theorem clewlaw02_WireHeads.walk (P : clewlaw02_WireHeads.Pure) (a0 : Int) (a1 : Int) (w : World) (w0 : (Lit.int .u64 a0).wf = true) (w1 : (Lit.int .u64 a1).wf = true) :
    Calls Try.prog 7 #[.int .u64 a0, .int .u64 a1] w fun e w' => e = .returned (.bool true) ∧ Below w.heap.size w w' := by
  obtain ⟨k, h⟩ := P a0 a1 w0 w1
  refine (clewlaw02_WireHeads.calls k a0 a1 true w h).mono ?_
  rintro e w' ⟨rfl, hd⟩
  exact ⟨rfl, hd⟩

end Go.Proofs.Ytbillgeckogfnaa.Q
