/- Go functions as Lean functions, each with the proof that its call answers just so; written by wip/tools/myprint.py. -/
import Derived.Test.YtjeoiebdchlilaaQ0
import Derived.Test.YtjeoiebdchlilaaQ6
import Derived.Test.YtjeoiebdchlilaaQ18
namespace Go.Proofs.Ytjeoiebdchlilaa.Q
open Go.RowKit Go.Proofs.YtjeoiebdchlilaaW.PrintWords Go.Proofs.YtjeoiebdchlilaaW.PrintLast Go.Proofs.YtjeoiebdchlilaaW.PrintMore
attribute [local go_sem] max2_int min2_int max_two min_two max_three min_three max_four min_four   -- for this text's walks alone
set_option linter.unusedVariables false
set_option linter.unusedSimpArgs false

/-! ### clewref05_Size: function 38 -/
mutual
def clewref05_Size.j0 : Nat → List (S50) → Int → Bool → Option (Int)
  | 0, _, _, _ => none
  | k + 1, x0, x1, x17 => if x17 = true then (some 0) else (if 0 ≤ x1 then (if x1 < (x0.length : Int) then ((clewref05_Kids.f k ((rd_T50 x0 x1).f0)).bind fun t288 => (if t288 = 0 then (if ((rd_T50 x0 x1).f1) = 0 then (if ((rd_T50 x0 x1).f2) = 0 then (some 1) else (some 0)) else (some 0)) else ((clewref05_Size.f k x0 (wrap64 (x1 - 1))).bind fun t291 => (if t291 = 0 then (some 0) else (if t288 = 1 then (if ((rd_T50 x0 x1).f1) = (wrap64 (x1 - 1)) then (clewref05_Size.j1 k t291 (((rd_T50 x0 x1).f2) != 0)) else (clewref05_Size.j1 k t291 true)) else ((clewref05_Size.f k x0 (wrap64 ((wrap64 (x1 - 1)) - t291))).bind fun t294 => (if t294 = 0 then (some 0) else (if ((rd_T50 x0 x1).f1) = (wrap64 ((wrap64 (x1 - 1)) - t291)) then (if ((rd_T50 x0 x1).f2) = (wrap64 (x1 - 1)) then (some (wrap64 ((wrap64 (t294 + t291)) + 1))) else (some 0)) else (some 0))))))))) else (none)) else (none))
def clewref05_Size.j1 : Nat → Int → Bool → Option (Int)
  | 0, _, _ => none
  | k + 1, x6, x63 => if x63 = true then (some 0) else (some (wrap64 (x6 + 1)))
def clewref05_Size.f : Nat → List (S50) → Int → Option (Int)
  | 0, _, _ => none
  | k + 1, l0, a1 => if a1 < 0 then (clewref05_Size.j0 k l0 a1 true) else (if 0 ≤ a1 then (if a1 < (l0.length : Int) then ((clewref05_fits.f ((rd_T50 l0 a1).f0) ((rd_T50 l0 a1).f1) ((rd_T50 l0 a1).f2) ((rd_T50 l0 a1).f3.f0) ((rd_T50 l0 a1).f3.f1) ((rd_T50 l0 a1).f3.f2) ((rd_T50 l0 a1).f3.f3) ((rd_T50 l0 a1).f4) ((rd_T50 l0 a1).f5) ((rd_T50 l0 a1).f6) ((rd_T50 l0 a1).f7) ((rd_T50 l0 a1).f8)).bind fun t286 => (clewref05_Size.j0 k l0 a1 (!t286))) else (none)) else (none))
end
theorem clewref05_Size.mono_l : ∀ k, (∀ y0 y1, LeO (clewref05_Size.f k y0 y1) (clewref05_Size.f (k + 1) y0 y1)) ∧ (∀ y0 y1 y2, LeO (clewref05_Size.j0 k y0 y1 y2) (clewref05_Size.j0 (k + 1) y0 y1 y2)) ∧ (∀ y0 y1, LeO (clewref05_Size.j1 k y0 y1) (clewref05_Size.j1 (k + 1) y0 y1))
  | 0 => ⟨fun _ _ r h => by simp [clewref05_Size.f] at h, fun _ _ _ r h => by simp [clewref05_Size.j0] at h, fun _ _ r h => by simp [clewref05_Size.j1] at h⟩
  | k + 1 => by
    obtain ⟨ih0, ih1, ih2⟩ := clewref05_Size.mono_l k
    refine ⟨?_, ?_, ?_⟩
    · intro y0 y1
      unfold clewref05_Size.f
      repeat' first
      | (with_reducible exact ih0 _ _)
      | (with_reducible exact ih1 _ _ _)
      | (with_reducible exact ih2 _ _)
      | (with_reducible exact clewref05_Kids.mono _ _)
      | (with_reducible exact LeO.refl _)
      | (with_reducible exact LeO.none _)
      | (with_reducible refine LeO.ite ?_ ?_)
      | (with_reducible refine LeO.bind ?_ (fun _ => ?_))
      | exact ih0 _ _
      | exact ih1 _ _ _
      | exact ih2 _ _
      | exact clewref05_Kids.mono _ _
      | exact LeO.none _
      | refine LeO.ite ?_ ?_
      | refine LeO.bind ?_ (fun _ => ?_)
    · intro y0 y1 y2
      unfold clewref05_Size.j0
      repeat' first
      | (with_reducible exact ih0 _ _)
      | (with_reducible exact ih1 _ _ _)
      | (with_reducible exact ih2 _ _)
      | (with_reducible exact clewref05_Kids.mono _ _)
      | (with_reducible exact LeO.refl _)
      | (with_reducible exact LeO.none _)
      | (with_reducible refine LeO.ite ?_ ?_)
      | (with_reducible refine LeO.bind ?_ (fun _ => ?_))
      | exact ih0 _ _
      | exact ih1 _ _ _
      | exact ih2 _ _
      | exact clewref05_Kids.mono _ _
      | exact LeO.none _
      | refine LeO.ite ?_ ?_
      | refine LeO.bind ?_ (fun _ => ?_)
    · intro y0 y1
      unfold clewref05_Size.j1
      repeat' first
      | (with_reducible exact ih0 _ _)
      | (with_reducible exact ih1 _ _ _)
      | (with_reducible exact ih2 _ _)
      | (with_reducible exact clewref05_Kids.mono _ _)
      | (with_reducible exact LeO.refl _)
      | (with_reducible exact LeO.none _)
      | (with_reducible refine LeO.ite ?_ ?_)
      | (with_reducible refine LeO.bind ?_ (fun _ => ?_))
      | exact ih0 _ _
      | exact ih1 _ _ _
      | exact ih2 _ _
      | exact clewref05_Kids.mono _ _
      | exact LeO.none _
      | refine LeO.ite ?_ ?_
      | refine LeO.bind ?_ (fun _ => ?_)
theorem clewref05_Size.mono : ∀ a0 a1 k, LeO (clewref05_Size.f k a0 a1) (clewref05_Size.f (k + 1) a0 a1) := by
  intro a0 a1 k
  obtain ⟨ih0, ih1, ih2⟩ := clewref05_Size.mono_l k
  exact ih0 a0 a1
set_option maxHeartbeats 8000000 in
set_option maxRecDepth 100000 in
theorem clewref05_Size.calls (k : Nat) : ∀ (A0 : Option Addr) (c0 : Nat) (l0 : List (S50)) (a1 : Int) (r : Int) (w : World) (hr0 : Kd.C k50 w A0 l0.length l0) (hc0 : l0.length ≤ c0) (h : clewref05_Size.f k l0 a1 = some r),
    Calls Try.prog 38 #[.slice A0 l0.length c0, .int .i64 a1] w fun e w' => e = .returned (.int .i64 r) ∧ Below w.heap.size w w' := by
  induction k using Nat.strongRecOn with
  | _ k ih =>
  intro A0 c0 l0 a1 r w hr0 hc0 h
  cases k with
  | zero => exact absurd h (by simp [clewref05_Size.f])
  | succ k =>
  simp only [clewref05_Size.f] at h
  have hu50 := Try.underlying50
  have HR0 := Aside0.mk hr0
  have HC0 := Aside0.mk hc0
  clear hr0 hc0
  have HB := Aside0.mk (Below.refl w.heap.size w)
  have H : (if a1 < 0 then (clewref05_Size.j0 k l0 a1 true) else (if 0 ≤ a1 then (if a1 < (l0.length : Int) then ((clewref05_fits.f ((rd_T50 l0 a1).f0) ((rd_T50 l0 a1).f1) ((rd_T50 l0 a1).f2) ((rd_T50 l0 a1).f3.f0) ((rd_T50 l0 a1).f3.f1) ((rd_T50 l0 a1).f3.f2) ((rd_T50 l0 a1).f3.f3) ((rd_T50 l0 a1).f4) ((rd_T50 l0 a1).f5) ((rd_T50 l0 a1).f6) ((rd_T50 l0 a1).f7) ((rd_T50 l0 a1).f8)).bind fun t286 => (clewref05_Size.j0 k l0 a1 (!t286))) else (none)) else (none))) = some r := h
  clear h
  have HC3 := Aside0.mk H
  clear H
  go_enter Try.func38, Try.ntmps38
  go_upto_region 1 with (fail)
  go_cut [17] (fun v17 wc => ∃ (kq : Nat) (x17_2 : Bool), v17 = .bool x17_2 ∧ Aside0 (clewref05_Size.j0 kq l0 a1 x17_2 = some r) ∧ Aside0 (kq ≤ k) ∧ Aside0 (Below w.heap.size w wc))
  case first =>
    have H := HC3.out
    clear HC3
    by_cases c4 : a1 < 0
    · rw [if_pos c4] at H
      have c4b0 : decide (a1 < 0) = true := decide_eq_true c4
      clear c4
      (first | rw [c4b0] | (simp only [i64_w, i32_w]; rw [c4b0]) | skip)
      have H' := Aside0.mk H
      clear H
      go_wp2
      go_meet
      case rel => exact ⟨_, (true), (by first | rfl | (simp; done) | (simp [*]; done)), H', ⟨by first | omega | exact Nat.le_refl _⟩, ⟨by repeat (first | (with_reducible first | exact HB.out | apply below_alloc | apply pw_below_drewN | apply below_drew1) | exact HB.out)⟩⟩
    · rw [if_neg c4] at H
      have c4b0 : decide (a1 < 0) = false := decide_eq_false c4
      clear c4
      (first | rw [c4b0] | (simp only [i64_w, i32_w]; rw [c4b0]) | skip)
      by_cases c5 : 0 ≤ a1
      · rw [if_pos c5] at H
        have c5b0 : decide (0 ≤ a1) = true := decide_eq_true c5
        clear c5
        by_cases c6 : a1 < (l0.length : Int)
        · rw [if_pos c6] at H
          have c6b0 : decide (a1 < (l0.length : Int)) = true := decide_eq_true c6
          clear c6
          replace H := Option.bind_eq_some_iff.mp H
          obtain ⟨t286, A70, H⟩ := H
          replace H : (clewref05_Size.j0 k l0 a1 (!t286)) = some r := H
          have A7 := Aside0.mk A70
          clear A70
          have H' := Aside0.mk H
          clear H
          have p285 : 0 ≤ (a1 : Int) := of_decide_eq_true (by first | (with_reducible assumption) | assumption)
          have q285 : a1 < (l0.length : Int) := of_decide_eq_true (by first | (with_reducible assumption) | assumption)
          obtain ⟨ad285, e285, hx285_0, hx285_1, hx285_2, hx285_3, hx285_4, hx285_5, hx285_6, hx285_7, hx285_8, hx285_9, hx285_10, hx285_11⟩ := at_T50 HR0.out a1 p285 q285
          cases e285
          replace hx285_0 := (HB.out.cell (World.block_lt_of_cell? w _ hx285_0)).trans hx285_0
          replace hx285_1 := (HB.out.cell (World.block_lt_of_cell? w _ hx285_1)).trans hx285_1
          replace hx285_2 := (HB.out.cell (World.block_lt_of_cell? w _ hx285_2)).trans hx285_2
          replace hx285_3 := (HB.out.cell (World.block_lt_of_cell? w _ hx285_3)).trans hx285_3
          replace hx285_4 := (HB.out.cell (World.block_lt_of_cell? w _ hx285_4)).trans hx285_4
          replace hx285_5 := (HB.out.cell (World.block_lt_of_cell? w _ hx285_5)).trans hx285_5
          replace hx285_6 := (HB.out.cell (World.block_lt_of_cell? w _ hx285_6)).trans hx285_6
          replace hx285_7 := (HB.out.cell (World.block_lt_of_cell? w _ hx285_7)).trans hx285_7
          replace hx285_8 := (HB.out.cell (World.block_lt_of_cell? w _ hx285_8)).trans hx285_8
          replace hx285_9 := (HB.out.cell (World.block_lt_of_cell? w _ hx285_9)).trans hx285_9
          replace hx285_10 := (HB.out.cell (World.block_lt_of_cell? w _ hx285_10)).trans hx285_10
          replace hx285_11 := (HB.out.cell (World.block_lt_of_cell? w _ hx285_11)).trans hx285_11
          replace p285 := eq_true p285
          replace q285 := eq_true q285
          go_wp2_with (first | (go_at_call 54; (with_reducible refine (clewref05_fits.calls ((rd_T50 l0 a1).f0) ((rd_T50 l0 a1).f1) ((rd_T50 l0 a1).f2) ((rd_T50 l0 a1).f3.f0) ((rd_T50 l0 a1).f3.f1) ((rd_T50 l0 a1).f3.f2) ((rd_T50 l0 a1).f3.f3) ((rd_T50 l0 a1).f4) ((rd_T50 l0 a1).f5) ((rd_T50 l0 a1).f6) ((rd_T50 l0 a1).f7) ((rd_T50 l0 a1).f8) t286 _ A7.out).mono ?_); rintro e w8 ⟨rfl, hb⟩; have n0_ := Aside0.mk (below_step (by repeat (first | (with_reducible first | exact HB.out | apply below_alloc | apply pw_below_drewN | apply below_drew1) | exact HB.out)) hb); clear HB; have HB := n0_; clear n0_; (try clear hb); (try clear hb2); (try clear hk); (try clear hi)))
          go_meet
          case rel => exact ⟨_, (!t286), (by first | rfl | (simp; done) | (simp [*]; done)), H', ⟨by first | omega | exact Nat.le_refl _⟩, ⟨by repeat (first | (with_reducible first | exact HB.out | apply below_alloc | apply pw_below_drewN | apply below_drew1) | exact HB.out)⟩⟩
        · rw [if_neg c6] at H
          exact absurd H (by simp)
      · rw [if_neg c5] at H
        exact absurd H (by simp)
  case rest =>
    clear HC3
    try clear p2
    try clear q2
    try clear hx2
    try clear c3
    try clear c4
    try clear c4b0
    try clear c5
    try clear c5b0
    try clear c6
    try clear c6b0
    try clear hx285_0
    try clear hx285_1
    try clear hx285_10
    try clear hx285_11
    try clear hx285_2
    try clear hx285_3
    try clear hx285_4
    try clear hx285_5
    try clear hx285_6
    try clear hx285_7
    try clear hx285_8
    try clear hx285_9
    try clear p285
    try clear q285
    obtain ⟨kq, x17_2, rfl, HA, HJ2, HB⟩ := hcut
    cases kq with
    | zero => exact absurd HA.out (by simp [clewref05_Size.j0])
    | succ kj2 =>
      have H := HA.out
      clear HA
      simp only [clewref05_Size.j0] at H
      by_cases c9 : x17_2 = true
      · subst c9
        have H1 : (some 0) = some r := by rw [if_pos rfl] at H; exact H
        clear H
        have H := H1
        clear H1
        obtain rfl := Option.some.inj H
        go_wp2
        go_ret
        exact ⟨by first | rfl | (simp [errW_none, errW_some] <;> rfl) | (simp [*, errW_none, errW_some] <;> rfl), by repeat (first | (with_reducible first | exact HB.out | apply below_alloc | apply pw_below_drewN | apply below_drew1) | exact HB.out)⟩
      · replace c9 := Bool.eq_false_iff.mpr c9
        subst c9
        have H1 : (if 0 ≤ a1 then (if a1 < (l0.length : Int) then ((clewref05_Kids.f kj2 ((rd_T50 l0 a1).f0)).bind fun t288 => (if t288 = 0 then (if ((rd_T50 l0 a1).f1) = 0 then (if ((rd_T50 l0 a1).f2) = 0 then (some 1) else (some 0)) else (some 0)) else ((clewref05_Size.f kj2 l0 (wrap64 (a1 - 1))).bind fun t291 => (if t291 = 0 then (some 0) else (if t288 = 1 then (if ((rd_T50 l0 a1).f1) = (wrap64 (a1 - 1)) then (clewref05_Size.j1 kj2 t291 (((rd_T50 l0 a1).f2) != 0)) else (clewref05_Size.j1 kj2 t291 true)) else ((clewref05_Size.f kj2 l0 (wrap64 ((wrap64 (a1 - 1)) - t291))).bind fun t294 => (if t294 = 0 then (some 0) else (if ((rd_T50 l0 a1).f1) = (wrap64 ((wrap64 (a1 - 1)) - t291)) then (if ((rd_T50 l0 a1).f2) = (wrap64 (a1 - 1)) then (some (wrap64 ((wrap64 (t294 + t291)) + 1))) else (some 0)) else (some 0))))))))) else (none)) else (none)) = some r := by rw [if_neg (show ¬ (false = true) by decide)] at H; exact H
        clear H
        have H := H1
        clear H1
        by_cases c10 : 0 ≤ a1
        · rw [if_pos c10] at H
          have c10b0 : decide (0 ≤ a1) = true := decide_eq_true c10
          clear c10
          by_cases c11 : a1 < (l0.length : Int)
          · rw [if_pos c11] at H
            have c11b0 : decide (a1 < (l0.length : Int)) = true := decide_eq_true c11
            clear c11
            replace H := Option.bind_eq_some_iff.mp H
            obtain ⟨t288, A120, H⟩ := H
            replace H : (if t288 = 0 then (if ((rd_T50 l0 a1).f1) = 0 then (if ((rd_T50 l0 a1).f2) = 0 then (some 1) else (some 0)) else (some 0)) else ((clewref05_Size.f kj2 l0 (wrap64 (a1 - 1))).bind fun t291 => (if t291 = 0 then (some 0) else (if t288 = 1 then (if ((rd_T50 l0 a1).f1) = (wrap64 (a1 - 1)) then (clewref05_Size.j1 kj2 t291 (((rd_T50 l0 a1).f2) != 0)) else (clewref05_Size.j1 kj2 t291 true)) else ((clewref05_Size.f kj2 l0 (wrap64 ((wrap64 (a1 - 1)) - t291))).bind fun t294 => (if t294 = 0 then (some 0) else (if ((rd_T50 l0 a1).f1) = (wrap64 ((wrap64 (a1 - 1)) - t291)) then (if ((rd_T50 l0 a1).f2) = (wrap64 (a1 - 1)) then (some (wrap64 ((wrap64 (t294 + t291)) + 1))) else (some 0)) else (some 0)))))))) = some r := H
            have A12 := Aside0.mk A120
            clear A120
            by_cases c13 : t288 = 0
            · rw [if_pos c13] at H
              have c13b0 : (t288 == 0) = true := beq_iff_eq.mpr c13
              have c13b1 : (t288 != 0) = false := bne_eq_false_iff_eq.mpr c13
              clear c13
              by_cases c14 : ((rd_T50 l0 a1).f1) = 0
              · rw [if_pos c14] at H
                have c14b0 : (((rd_T50 l0 a1).f1) == 0) = true := beq_iff_eq.mpr c14
                have c14b1 : (((rd_T50 l0 a1).f1) != 0) = false := bne_eq_false_iff_eq.mpr c14
                clear c14
                by_cases c15 : ((rd_T50 l0 a1).f2) = 0
                · rw [if_pos c15] at H
                  have c15b0 : (((rd_T50 l0 a1).f2) == 0) = true := beq_iff_eq.mpr c15
                  have c15b1 : (((rd_T50 l0 a1).f2) != 0) = false := bne_eq_false_iff_eq.mpr c15
                  clear c15
                  obtain rfl := Option.some.inj H
                  have p287 : 0 ≤ (a1 : Int) := of_decide_eq_true (by first | (with_reducible assumption) | assumption)
                  have q287 : a1 < (l0.length : Int) := of_decide_eq_true (by first | (with_reducible assumption) | assumption)
                  obtain ⟨ad287, e287, hx287_0, hx287_1, hx287_2, hx287_3, hx287_4, hx287_5, hx287_6, hx287_7, hx287_8, hx287_9, hx287_10, hx287_11⟩ := at_T50 HR0.out a1 p287 q287
                  cases e287
                  replace hx287_0 := (HB.out.cell (World.block_lt_of_cell? w _ hx287_0)).trans hx287_0
                  replace hx287_1 := (HB.out.cell (World.block_lt_of_cell? w _ hx287_1)).trans hx287_1
                  replace hx287_2 := (HB.out.cell (World.block_lt_of_cell? w _ hx287_2)).trans hx287_2
                  replace hx287_3 := (HB.out.cell (World.block_lt_of_cell? w _ hx287_3)).trans hx287_3
                  replace hx287_4 := (HB.out.cell (World.block_lt_of_cell? w _ hx287_4)).trans hx287_4
                  replace hx287_5 := (HB.out.cell (World.block_lt_of_cell? w _ hx287_5)).trans hx287_5
                  replace hx287_6 := (HB.out.cell (World.block_lt_of_cell? w _ hx287_6)).trans hx287_6
                  replace hx287_7 := (HB.out.cell (World.block_lt_of_cell? w _ hx287_7)).trans hx287_7
                  replace hx287_8 := (HB.out.cell (World.block_lt_of_cell? w _ hx287_8)).trans hx287_8
                  replace hx287_9 := (HB.out.cell (World.block_lt_of_cell? w _ hx287_9)).trans hx287_9
                  replace hx287_10 := (HB.out.cell (World.block_lt_of_cell? w _ hx287_10)).trans hx287_10
                  replace hx287_11 := (HB.out.cell (World.block_lt_of_cell? w _ hx287_11)).trans hx287_11
                  replace p287 := eq_true p287
                  replace q287 := eq_true q287
                  go_wp2_with (first | ((with_reducible refine gate_callee (f := 42) rfl ?_); refine goesL_ (some 23) rfl rfl Try.func42 (by kernel_rfl) rfl #[.int .i64 ((rd_T50 l0 a1).f0)] rfl (by (try simp only [List.map_toArray, List.map_cons, List.map_nil]); first | done | rfl | (simp only [List.length_drop, List.length_take]; rfl)) ?_; (with_reducible refine (clewref05_Kids.calls kj2 ((rd_T50 l0 a1).f0) t288 _ A12.out).mono ?_); rintro e w' ⟨rfl, ⟨nd, rfl⟩⟩; refine ⟨_, rfl, ?_⟩; have p289 : 0 ≤ (a1 : Int) := of_decide_eq_true (by first | (with_reducible assumption) | assumption); have q289 : a1 < (l0.length : Int) := of_decide_eq_true (by first | (with_reducible assumption) | assumption); obtain ⟨ad289, e289, hx289_0, hx289_1, hx289_2, hx289_3, hx289_4, hx289_5, hx289_6, hx289_7, hx289_8, hx289_9, hx289_10, hx289_11⟩ := at_T50 HR0.out a1 p289 q289; obtain rfl : ad287 = ad289 := (by injection e289); replace hx289_0 := (HB.out.cell (World.block_lt_of_cell? w _ hx289_0)).trans hx289_0; replace hx289_1 := (HB.out.cell (World.block_lt_of_cell? w _ hx289_1)).trans hx289_1; replace hx289_2 := (HB.out.cell (World.block_lt_of_cell? w _ hx289_2)).trans hx289_2; replace hx289_3 := (HB.out.cell (World.block_lt_of_cell? w _ hx289_3)).trans hx289_3; replace hx289_4 := (HB.out.cell (World.block_lt_of_cell? w _ hx289_4)).trans hx289_4; replace hx289_5 := (HB.out.cell (World.block_lt_of_cell? w _ hx289_5)).trans hx289_5; replace hx289_6 := (HB.out.cell (World.block_lt_of_cell? w _ hx289_6)).trans hx289_6; replace hx289_7 := (HB.out.cell (World.block_lt_of_cell? w _ hx289_7)).trans hx289_7; replace hx289_8 := (HB.out.cell (World.block_lt_of_cell? w _ hx289_8)).trans hx289_8; replace hx289_9 := (HB.out.cell (World.block_lt_of_cell? w _ hx289_9)).trans hx289_9; replace hx289_10 := (HB.out.cell (World.block_lt_of_cell? w _ hx289_10)).trans hx289_10; replace hx289_11 := (HB.out.cell (World.block_lt_of_cell? w _ hx289_11)).trans hx289_11; replace p289 := eq_true p289; replace q289 := eq_true q289; have p290 : 0 ≤ (a1 : Int) := of_decide_eq_true (by first | (with_reducible assumption) | assumption); have q290 : a1 < (l0.length : Int) := of_decide_eq_true (by first | (with_reducible assumption) | assumption); obtain ⟨ad290, e290, hx290_0, hx290_1, hx290_2, hx290_3, hx290_4, hx290_5, hx290_6, hx290_7, hx290_8, hx290_9, hx290_10, hx290_11⟩ := at_T50 HR0.out a1 p290 q290; obtain rfl : ad287 = ad290 := (by injection e290); replace hx290_0 := (HB.out.cell (World.block_lt_of_cell? w _ hx290_0)).trans hx290_0; replace hx290_1 := (HB.out.cell (World.block_lt_of_cell? w _ hx290_1)).trans hx290_1; replace hx290_2 := (HB.out.cell (World.block_lt_of_cell? w _ hx290_2)).trans hx290_2; replace hx290_3 := (HB.out.cell (World.block_lt_of_cell? w _ hx290_3)).trans hx290_3; replace hx290_4 := (HB.out.cell (World.block_lt_of_cell? w _ hx290_4)).trans hx290_4; replace hx290_5 := (HB.out.cell (World.block_lt_of_cell? w _ hx290_5)).trans hx290_5; replace hx290_6 := (HB.out.cell (World.block_lt_of_cell? w _ hx290_6)).trans hx290_6; replace hx290_7 := (HB.out.cell (World.block_lt_of_cell? w _ hx290_7)).trans hx290_7; replace hx290_8 := (HB.out.cell (World.block_lt_of_cell? w _ hx290_8)).trans hx290_8; replace hx290_9 := (HB.out.cell (World.block_lt_of_cell? w _ hx290_9)).trans hx290_9; replace hx290_10 := (HB.out.cell (World.block_lt_of_cell? w _ hx290_10)).trans hx290_10; replace hx290_11 := (HB.out.cell (World.block_lt_of_cell? w _ hx290_11)).trans hx290_11; replace p290 := eq_true p290; replace q290 := eq_true q290))
                  go_ret
                  exact ⟨by first | rfl | (simp [errW_none, errW_some] <;> rfl) | (simp [*, errW_none, errW_some] <;> rfl), by repeat (first | (with_reducible first | exact HB.out | apply below_alloc | apply pw_below_drewN | apply below_drew1) | exact HB.out)⟩
                · rw [if_neg c15] at H
                  have c15b0 : (((rd_T50 l0 a1).f2) == 0) = false := beq_eq_false_iff_ne.mpr c15
                  have c15b1 : (((rd_T50 l0 a1).f2) != 0) = true := bne_iff_ne.mpr c15
                  obtain rfl := Option.some.inj H
                  have p287 : 0 ≤ (a1 : Int) := of_decide_eq_true (by first | (with_reducible assumption) | assumption)
                  have q287 : a1 < (l0.length : Int) := of_decide_eq_true (by first | (with_reducible assumption) | assumption)
                  obtain ⟨ad287, e287, hx287_0, hx287_1, hx287_2, hx287_3, hx287_4, hx287_5, hx287_6, hx287_7, hx287_8, hx287_9, hx287_10, hx287_11⟩ := at_T50 HR0.out a1 p287 q287
                  cases e287
                  replace hx287_0 := (HB.out.cell (World.block_lt_of_cell? w _ hx287_0)).trans hx287_0
                  replace hx287_1 := (HB.out.cell (World.block_lt_of_cell? w _ hx287_1)).trans hx287_1
                  replace hx287_2 := (HB.out.cell (World.block_lt_of_cell? w _ hx287_2)).trans hx287_2
                  replace hx287_3 := (HB.out.cell (World.block_lt_of_cell? w _ hx287_3)).trans hx287_3
                  replace hx287_4 := (HB.out.cell (World.block_lt_of_cell? w _ hx287_4)).trans hx287_4
                  replace hx287_5 := (HB.out.cell (World.block_lt_of_cell? w _ hx287_5)).trans hx287_5
                  replace hx287_6 := (HB.out.cell (World.block_lt_of_cell? w _ hx287_6)).trans hx287_6
                  replace hx287_7 := (HB.out.cell (World.block_lt_of_cell? w _ hx287_7)).trans hx287_7
                  replace hx287_8 := (HB.out.cell (World.block_lt_of_cell? w _ hx287_8)).trans hx287_8
                  replace hx287_9 := (HB.out.cell (World.block_lt_of_cell? w _ hx287_9)).trans hx287_9
                  replace hx287_10 := (HB.out.cell (World.block_lt_of_cell? w _ hx287_10)).trans hx287_10
                  replace hx287_11 := (HB.out.cell (World.block_lt_of_cell? w _ hx287_11)).trans hx287_11
                  replace p287 := eq_true p287
                  replace q287 := eq_true q287
                  go_wp2_with (first | ((with_reducible refine gate_callee (f := 42) rfl ?_); refine goesL_ (some 23) rfl rfl Try.func42 (by kernel_rfl) rfl #[.int .i64 ((rd_T50 l0 a1).f0)] rfl (by (try simp only [List.map_toArray, List.map_cons, List.map_nil]); first | done | rfl | (simp only [List.length_drop, List.length_take]; rfl)) ?_; (with_reducible refine (clewref05_Kids.calls kj2 ((rd_T50 l0 a1).f0) t288 _ A12.out).mono ?_); rintro e w' ⟨rfl, ⟨nd, rfl⟩⟩; refine ⟨_, rfl, ?_⟩; have p289 : 0 ≤ (a1 : Int) := of_decide_eq_true (by first | (with_reducible assumption) | assumption); have q289 : a1 < (l0.length : Int) := of_decide_eq_true (by first | (with_reducible assumption) | assumption); obtain ⟨ad289, e289, hx289_0, hx289_1, hx289_2, hx289_3, hx289_4, hx289_5, hx289_6, hx289_7, hx289_8, hx289_9, hx289_10, hx289_11⟩ := at_T50 HR0.out a1 p289 q289; obtain rfl : ad287 = ad289 := (by injection e289); replace hx289_0 := (HB.out.cell (World.block_lt_of_cell? w _ hx289_0)).trans hx289_0; replace hx289_1 := (HB.out.cell (World.block_lt_of_cell? w _ hx289_1)).trans hx289_1; replace hx289_2 := (HB.out.cell (World.block_lt_of_cell? w _ hx289_2)).trans hx289_2; replace hx289_3 := (HB.out.cell (World.block_lt_of_cell? w _ hx289_3)).trans hx289_3; replace hx289_4 := (HB.out.cell (World.block_lt_of_cell? w _ hx289_4)).trans hx289_4; replace hx289_5 := (HB.out.cell (World.block_lt_of_cell? w _ hx289_5)).trans hx289_5; replace hx289_6 := (HB.out.cell (World.block_lt_of_cell? w _ hx289_6)).trans hx289_6; replace hx289_7 := (HB.out.cell (World.block_lt_of_cell? w _ hx289_7)).trans hx289_7; replace hx289_8 := (HB.out.cell (World.block_lt_of_cell? w _ hx289_8)).trans hx289_8; replace hx289_9 := (HB.out.cell (World.block_lt_of_cell? w _ hx289_9)).trans hx289_9; replace hx289_10 := (HB.out.cell (World.block_lt_of_cell? w _ hx289_10)).trans hx289_10; replace hx289_11 := (HB.out.cell (World.block_lt_of_cell? w _ hx289_11)).trans hx289_11; replace p289 := eq_true p289; replace q289 := eq_true q289; have p290 : 0 ≤ (a1 : Int) := of_decide_eq_true (by first | (with_reducible assumption) | assumption); have q290 : a1 < (l0.length : Int) := of_decide_eq_true (by first | (with_reducible assumption) | assumption); obtain ⟨ad290, e290, hx290_0, hx290_1, hx290_2, hx290_3, hx290_4, hx290_5, hx290_6, hx290_7, hx290_8, hx290_9, hx290_10, hx290_11⟩ := at_T50 HR0.out a1 p290 q290; obtain rfl : ad287 = ad290 := (by injection e290); replace hx290_0 := (HB.out.cell (World.block_lt_of_cell? w _ hx290_0)).trans hx290_0; replace hx290_1 := (HB.out.cell (World.block_lt_of_cell? w _ hx290_1)).trans hx290_1; replace hx290_2 := (HB.out.cell (World.block_lt_of_cell? w _ hx290_2)).trans hx290_2; replace hx290_3 := (HB.out.cell (World.block_lt_of_cell? w _ hx290_3)).trans hx290_3; replace hx290_4 := (HB.out.cell (World.block_lt_of_cell? w _ hx290_4)).trans hx290_4; replace hx290_5 := (HB.out.cell (World.block_lt_of_cell? w _ hx290_5)).trans hx290_5; replace hx290_6 := (HB.out.cell (World.block_lt_of_cell? w _ hx290_6)).trans hx290_6; replace hx290_7 := (HB.out.cell (World.block_lt_of_cell? w _ hx290_7)).trans hx290_7; replace hx290_8 := (HB.out.cell (World.block_lt_of_cell? w _ hx290_8)).trans hx290_8; replace hx290_9 := (HB.out.cell (World.block_lt_of_cell? w _ hx290_9)).trans hx290_9; replace hx290_10 := (HB.out.cell (World.block_lt_of_cell? w _ hx290_10)).trans hx290_10; replace hx290_11 := (HB.out.cell (World.block_lt_of_cell? w _ hx290_11)).trans hx290_11; replace p290 := eq_true p290; replace q290 := eq_true q290))
                  go_ret
                  exact ⟨by first | rfl | (simp [errW_none, errW_some] <;> rfl) | (simp [*, errW_none, errW_some] <;> rfl), by repeat (first | (with_reducible first | exact HB.out | apply below_alloc | apply pw_below_drewN | apply below_drew1) | exact HB.out)⟩
              · rw [if_neg c14] at H
                have c14b0 : (((rd_T50 l0 a1).f1) == 0) = false := beq_eq_false_iff_ne.mpr c14
                have c14b1 : (((rd_T50 l0 a1).f1) != 0) = true := bne_iff_ne.mpr c14
                obtain rfl := Option.some.inj H
                have p287 : 0 ≤ (a1 : Int) := of_decide_eq_true (by first | (with_reducible assumption) | assumption)
                have q287 : a1 < (l0.length : Int) := of_decide_eq_true (by first | (with_reducible assumption) | assumption)
                obtain ⟨ad287, e287, hx287_0, hx287_1, hx287_2, hx287_3, hx287_4, hx287_5, hx287_6, hx287_7, hx287_8, hx287_9, hx287_10, hx287_11⟩ := at_T50 HR0.out a1 p287 q287
                cases e287
                replace hx287_0 := (HB.out.cell (World.block_lt_of_cell? w _ hx287_0)).trans hx287_0
                replace hx287_1 := (HB.out.cell (World.block_lt_of_cell? w _ hx287_1)).trans hx287_1
                replace hx287_2 := (HB.out.cell (World.block_lt_of_cell? w _ hx287_2)).trans hx287_2
                replace hx287_3 := (HB.out.cell (World.block_lt_of_cell? w _ hx287_3)).trans hx287_3
                replace hx287_4 := (HB.out.cell (World.block_lt_of_cell? w _ hx287_4)).trans hx287_4
                replace hx287_5 := (HB.out.cell (World.block_lt_of_cell? w _ hx287_5)).trans hx287_5
                replace hx287_6 := (HB.out.cell (World.block_lt_of_cell? w _ hx287_6)).trans hx287_6
                replace hx287_7 := (HB.out.cell (World.block_lt_of_cell? w _ hx287_7)).trans hx287_7
                replace hx287_8 := (HB.out.cell (World.block_lt_of_cell? w _ hx287_8)).trans hx287_8
                replace hx287_9 := (HB.out.cell (World.block_lt_of_cell? w _ hx287_9)).trans hx287_9
                replace hx287_10 := (HB.out.cell (World.block_lt_of_cell? w _ hx287_10)).trans hx287_10
                replace hx287_11 := (HB.out.cell (World.block_lt_of_cell? w _ hx287_11)).trans hx287_11
                replace p287 := eq_true p287
                replace q287 := eq_true q287
                go_wp2_with (first | ((with_reducible refine gate_callee (f := 42) rfl ?_); refine goesL_ (some 23) rfl rfl Try.func42 (by kernel_rfl) rfl #[.int .i64 ((rd_T50 l0 a1).f0)] rfl (by (try simp only [List.map_toArray, List.map_cons, List.map_nil]); first | done | rfl | (simp only [List.length_drop, List.length_take]; rfl)) ?_; (with_reducible refine (clewref05_Kids.calls kj2 ((rd_T50 l0 a1).f0) t288 _ A12.out).mono ?_); rintro e w' ⟨rfl, ⟨nd, rfl⟩⟩; refine ⟨_, rfl, ?_⟩; have p289 : 0 ≤ (a1 : Int) := of_decide_eq_true (by first | (with_reducible assumption) | assumption); have q289 : a1 < (l0.length : Int) := of_decide_eq_true (by first | (with_reducible assumption) | assumption); obtain ⟨ad289, e289, hx289_0, hx289_1, hx289_2, hx289_3, hx289_4, hx289_5, hx289_6, hx289_7, hx289_8, hx289_9, hx289_10, hx289_11⟩ := at_T50 HR0.out a1 p289 q289; obtain rfl : ad287 = ad289 := (by injection e289); replace hx289_0 := (HB.out.cell (World.block_lt_of_cell? w _ hx289_0)).trans hx289_0; replace hx289_1 := (HB.out.cell (World.block_lt_of_cell? w _ hx289_1)).trans hx289_1; replace hx289_2 := (HB.out.cell (World.block_lt_of_cell? w _ hx289_2)).trans hx289_2; replace hx289_3 := (HB.out.cell (World.block_lt_of_cell? w _ hx289_3)).trans hx289_3; replace hx289_4 := (HB.out.cell (World.block_lt_of_cell? w _ hx289_4)).trans hx289_4; replace hx289_5 := (HB.out.cell (World.block_lt_of_cell? w _ hx289_5)).trans hx289_5; replace hx289_6 := (HB.out.cell (World.block_lt_of_cell? w _ hx289_6)).trans hx289_6; replace hx289_7 := (HB.out.cell (World.block_lt_of_cell? w _ hx289_7)).trans hx289_7; replace hx289_8 := (HB.out.cell (World.block_lt_of_cell? w _ hx289_8)).trans hx289_8; replace hx289_9 := (HB.out.cell (World.block_lt_of_cell? w _ hx289_9)).trans hx289_9; replace hx289_10 := (HB.out.cell (World.block_lt_of_cell? w _ hx289_10)).trans hx289_10; replace hx289_11 := (HB.out.cell (World.block_lt_of_cell? w _ hx289_11)).trans hx289_11; replace p289 := eq_true p289; replace q289 := eq_true q289))
                go_ret
                exact ⟨by first | rfl | (simp [errW_none, errW_some] <;> rfl) | (simp [*, errW_none, errW_some] <;> rfl), by repeat (first | (with_reducible first | exact HB.out | apply below_alloc | apply pw_below_drewN | apply below_drew1) | exact HB.out)⟩
            · rw [if_neg c13] at H
              have c13b0 : (t288 == 0) = false := beq_eq_false_iff_ne.mpr c13
              have c13b1 : (t288 != 0) = true := bne_iff_ne.mpr c13
              replace H := Option.bind_eq_some_iff.mp H
              obtain ⟨t291, A160, H⟩ := H
              replace H : (if t291 = 0 then (some 0) else (if t288 = 1 then (if ((rd_T50 l0 a1).f1) = (wrap64 (a1 - 1)) then (clewref05_Size.j1 kj2 t291 (((rd_T50 l0 a1).f2) != 0)) else (clewref05_Size.j1 kj2 t291 true)) else ((clewref05_Size.f kj2 l0 (wrap64 ((wrap64 (a1 - 1)) - t291))).bind fun t294 => (if t294 = 0 then (some 0) else (if ((rd_T50 l0 a1).f1) = (wrap64 ((wrap64 (a1 - 1)) - t291)) then (if ((rd_T50 l0 a1).f2) = (wrap64 (a1 - 1)) then (some (wrap64 ((wrap64 (t294 + t291)) + 1))) else (some 0)) else (some 0)))))) = some r := H
              have A16 := Aside0.mk A160
              clear A160
              by_cases c17 : t291 = 0
              · rw [if_pos c17] at H
                have c17b0 : (t291 == 0) = true := beq_iff_eq.mpr c17
                have c17b1 : (t291 != 0) = false := bne_eq_false_iff_eq.mpr c17
                clear c17
                obtain rfl := Option.some.inj H
                have p287 : 0 ≤ (a1 : Int) := of_decide_eq_true (by first | (with_reducible assumption) | assumption)
                have q287 : a1 < (l0.length : Int) := of_decide_eq_true (by first | (with_reducible assumption) | assumption)
                obtain ⟨ad287, e287, hx287_0, hx287_1, hx287_2, hx287_3, hx287_4, hx287_5, hx287_6, hx287_7, hx287_8, hx287_9, hx287_10, hx287_11⟩ := at_T50 HR0.out a1 p287 q287
                cases e287
                replace hx287_0 := (HB.out.cell (World.block_lt_of_cell? w _ hx287_0)).trans hx287_0
                replace hx287_1 := (HB.out.cell (World.block_lt_of_cell? w _ hx287_1)).trans hx287_1
                replace hx287_2 := (HB.out.cell (World.block_lt_of_cell? w _ hx287_2)).trans hx287_2
                replace hx287_3 := (HB.out.cell (World.block_lt_of_cell? w _ hx287_3)).trans hx287_3
                replace hx287_4 := (HB.out.cell (World.block_lt_of_cell? w _ hx287_4)).trans hx287_4
                replace hx287_5 := (HB.out.cell (World.block_lt_of_cell? w _ hx287_5)).trans hx287_5
                replace hx287_6 := (HB.out.cell (World.block_lt_of_cell? w _ hx287_6)).trans hx287_6
                replace hx287_7 := (HB.out.cell (World.block_lt_of_cell? w _ hx287_7)).trans hx287_7
                replace hx287_8 := (HB.out.cell (World.block_lt_of_cell? w _ hx287_8)).trans hx287_8
                replace hx287_9 := (HB.out.cell (World.block_lt_of_cell? w _ hx287_9)).trans hx287_9
                replace hx287_10 := (HB.out.cell (World.block_lt_of_cell? w _ hx287_10)).trans hx287_10
                replace hx287_11 := (HB.out.cell (World.block_lt_of_cell? w _ hx287_11)).trans hx287_11
                replace p287 := eq_true p287
                replace q287 := eq_true q287
                go_wp2_with (first | ((with_reducible refine gate_callee (f := 42) rfl ?_); refine goesL_ (some 23) rfl rfl Try.func42 (by kernel_rfl) rfl #[.int .i64 ((rd_T50 l0 a1).f0)] rfl (by (try simp only [List.map_toArray, List.map_cons, List.map_nil]); first | done | rfl | (simp only [List.length_drop, List.length_take]; rfl)) ?_; (with_reducible refine (clewref05_Kids.calls kj2 ((rd_T50 l0 a1).f0) t288 _ A12.out).mono ?_); rintro e w' ⟨rfl, ⟨nd, rfl⟩⟩; refine ⟨_, rfl, ?_⟩) | ((with_reducible refine gate_callee (f := 38) rfl ?_); refine goesL_ (some 43) rfl rfl Try.func38 (by kernel_rfl) rfl #[.slice (some ad287) l0.length c0, .int .i64 (wrap64 (a1 - 1))] rfl (by (try simp only [List.map_toArray, List.map_cons, List.map_nil]); first | done | rfl | (simp only [List.length_drop, List.length_take]; rfl)) ?_; (with_reducible refine (ih kj2 (by have := HJ2.out; omega) _ _ l0 (wrap64 (a1 - 1)) t291 _ ?side1 ?side2 A16.out).mono ?_); (case side1 => repeat (first | exact (Kd.C_below HR0.out (by repeat (first | (with_reducible first | exact HB.out | apply below_alloc | apply pw_below_drewN | apply below_drew1) | exact HB.out))) | (with_reducible refine Kd.C_alloc ?_ _) | (with_reducible refine Kd.C_drewN ?_ _) | (with_reducible refine Kd.C_drew ?_))); (case side2 => exact HC0.out); rintro e w18 ⟨rfl, hb⟩; refine ⟨_, rfl, ?_⟩; have n0_ := Aside0.mk (below_step (by repeat (first | (with_reducible first | exact HB.out | apply below_alloc | apply pw_below_drewN | apply below_drew1) | exact HB.out)) hb); clear HB; have HB := n0_; clear n0_; (try clear hb); (try clear hb2); (try clear hk); (try clear hi)))
                go_ret
                exact ⟨by first | rfl | (simp [errW_none, errW_some] <;> rfl) | (simp [*, errW_none, errW_some] <;> rfl), by repeat (first | (with_reducible first | exact HB.out | apply below_alloc | apply pw_below_drewN | apply below_drew1) | exact HB.out)⟩
              · rw [if_neg c17] at H
                have c17b0 : (t291 == 0) = false := beq_eq_false_iff_ne.mpr c17
                have c17b1 : (t291 != 0) = true := bne_iff_ne.mpr c17
                by_cases c19 : t288 = 1
                · rw [if_pos c19] at H
                  have c19b0 : (t288 == 1) = true := beq_iff_eq.mpr c19
                  have c19b1 : (t288 != 1) = false := bne_eq_false_iff_eq.mpr c19
                  clear c19
                  have HC20 := Aside0.mk H
                  clear H
                  have p287 : 0 ≤ (a1 : Int) := of_decide_eq_true (by first | (with_reducible assumption) | assumption)
                  have q287 : a1 < (l0.length : Int) := of_decide_eq_true (by first | (with_reducible assumption) | assumption)
                  obtain ⟨ad287, e287, hx287_0, hx287_1, hx287_2, hx287_3, hx287_4, hx287_5, hx287_6, hx287_7, hx287_8, hx287_9, hx287_10, hx287_11⟩ := at_T50 HR0.out a1 p287 q287
                  cases e287
                  replace hx287_0 := (HB.out.cell (World.block_lt_of_cell? w _ hx287_0)).trans hx287_0
                  replace hx287_1 := (HB.out.cell (World.block_lt_of_cell? w _ hx287_1)).trans hx287_1
                  replace hx287_2 := (HB.out.cell (World.block_lt_of_cell? w _ hx287_2)).trans hx287_2
                  replace hx287_3 := (HB.out.cell (World.block_lt_of_cell? w _ hx287_3)).trans hx287_3
                  replace hx287_4 := (HB.out.cell (World.block_lt_of_cell? w _ hx287_4)).trans hx287_4
                  replace hx287_5 := (HB.out.cell (World.block_lt_of_cell? w _ hx287_5)).trans hx287_5
                  replace hx287_6 := (HB.out.cell (World.block_lt_of_cell? w _ hx287_6)).trans hx287_6
                  replace hx287_7 := (HB.out.cell (World.block_lt_of_cell? w _ hx287_7)).trans hx287_7
                  replace hx287_8 := (HB.out.cell (World.block_lt_of_cell? w _ hx287_8)).trans hx287_8
                  replace hx287_9 := (HB.out.cell (World.block_lt_of_cell? w _ hx287_9)).trans hx287_9
                  replace hx287_10 := (HB.out.cell (World.block_lt_of_cell? w _ hx287_10)).trans hx287_10
                  replace hx287_11 := (HB.out.cell (World.block_lt_of_cell? w _ hx287_11)).trans hx287_11
                  replace p287 := eq_true p287
                  replace q287 := eq_true q287
                  go_upto_region 12 with (first | ((with_reducible refine gate_callee (f := 42) rfl ?_); refine goesL_ (some 23) rfl rfl Try.func42 (by kernel_rfl) rfl #[.int .i64 ((rd_T50 l0 a1).f0)] rfl (by (try simp only [List.map_toArray, List.map_cons, List.map_nil]); first | done | rfl | (simp only [List.length_drop, List.length_take]; rfl)) ?_; (with_reducible refine (clewref05_Kids.calls kj2 ((rd_T50 l0 a1).f0) t288 _ A12.out).mono ?_); rintro e w' ⟨rfl, ⟨nd, rfl⟩⟩; refine ⟨_, rfl, ?_⟩) | ((with_reducible refine gate_callee (f := 38) rfl ?_); refine goesL_ (some 43) rfl rfl Try.func38 (by kernel_rfl) rfl #[.slice (some ad287) l0.length c0, .int .i64 (wrap64 (a1 - 1))] rfl (by (try simp only [List.map_toArray, List.map_cons, List.map_nil]); first | done | rfl | (simp only [List.length_drop, List.length_take]; rfl)) ?_; (with_reducible refine (ih kj2 (by have := HJ2.out; omega) _ _ l0 (wrap64 (a1 - 1)) t291 _ ?side1 ?side2 A16.out).mono ?_); (case side1 => repeat (first | exact (Kd.C_below HR0.out (by repeat (first | (with_reducible first | exact HB.out | apply below_alloc | apply pw_below_drewN | apply below_drew1) | exact HB.out))) | (with_reducible refine Kd.C_alloc ?_ _) | (with_reducible refine Kd.C_drewN ?_ _) | (with_reducible refine Kd.C_drew ?_))); (case side2 => exact HC0.out); rintro e w21 ⟨rfl, hb⟩; refine ⟨_, rfl, ?_⟩; have n0_ := Aside0.mk (below_step (by repeat (first | (with_reducible first | exact HB.out | apply below_alloc | apply pw_below_drewN | apply below_drew1) | exact HB.out)) hb); clear HB; have HB := n0_; clear n0_; (try clear hb); (try clear hb2); (try clear hk); (try clear hi)))
                  (try simp only [Act.put, List.setIfInBounds_toArray, List.set_cons_zero, List.set_cons_succ])
                  go_cut [63] (fun v63 wc => ∃ (kq : Nat) (x63_19 : Bool), v63 = .bool x63_19 ∧ Aside0 (clewref05_Size.j1 kq t291 x63_19 = some r) ∧ Aside0 (kq ≤ kj2) ∧ Aside0 (Below w.heap.size w wc))
                  case first =>
                    have H := HC20.out
                    clear HC20
                    by_cases c22 : ((rd_T50 l0 a1).f1) = (wrap64 (a1 - 1))
                    · rw [if_pos c22] at H
                      have c22b0 : (((rd_T50 l0 a1).f1) == (wrap64 (a1 - 1))) = true := beq_iff_eq.mpr c22
                      have c22b1 : (((rd_T50 l0 a1).f1) != (wrap64 (a1 - 1))) = false := bne_eq_false_iff_eq.mpr c22
                      clear c22
                      (first | rw [c22b0] | (simp only [i64_w, i32_w]; rw [c22b0]) | skip)
                      have H' := Aside0.mk H
                      clear H
                      have p292 : 0 ≤ (a1 : Int) := of_decide_eq_true (by first | (with_reducible assumption) | assumption)
                      have q292 : a1 < (l0.length : Int) := of_decide_eq_true (by first | (with_reducible assumption) | assumption)
                      obtain ⟨ad292, e292, hx292_0, hx292_1, hx292_2, hx292_3, hx292_4, hx292_5, hx292_6, hx292_7, hx292_8, hx292_9, hx292_10, hx292_11⟩ := at_T50 HR0.out a1 p292 q292
                      obtain rfl : ad287 = ad292 := (by injection e292)
                      replace hx292_0 := (HB.out.cell (World.block_lt_of_cell? w _ hx292_0)).trans hx292_0
                      replace hx292_1 := (HB.out.cell (World.block_lt_of_cell? w _ hx292_1)).trans hx292_1
                      replace hx292_2 := (HB.out.cell (World.block_lt_of_cell? w _ hx292_2)).trans hx292_2
                      replace hx292_3 := (HB.out.cell (World.block_lt_of_cell? w _ hx292_3)).trans hx292_3
                      replace hx292_4 := (HB.out.cell (World.block_lt_of_cell? w _ hx292_4)).trans hx292_4
                      replace hx292_5 := (HB.out.cell (World.block_lt_of_cell? w _ hx292_5)).trans hx292_5
                      replace hx292_6 := (HB.out.cell (World.block_lt_of_cell? w _ hx292_6)).trans hx292_6
                      replace hx292_7 := (HB.out.cell (World.block_lt_of_cell? w _ hx292_7)).trans hx292_7
                      replace hx292_8 := (HB.out.cell (World.block_lt_of_cell? w _ hx292_8)).trans hx292_8
                      replace hx292_9 := (HB.out.cell (World.block_lt_of_cell? w _ hx292_9)).trans hx292_9
                      replace hx292_10 := (HB.out.cell (World.block_lt_of_cell? w _ hx292_10)).trans hx292_10
                      replace hx292_11 := (HB.out.cell (World.block_lt_of_cell? w _ hx292_11)).trans hx292_11
                      replace p292 := eq_true p292
                      replace q292 := eq_true q292
                      have p293 : 0 ≤ (a1 : Int) := of_decide_eq_true (by first | (with_reducible assumption) | assumption)
                      have q293 : a1 < (l0.length : Int) := of_decide_eq_true (by first | (with_reducible assumption) | assumption)
                      obtain ⟨ad293, e293, hx293_0, hx293_1, hx293_2, hx293_3, hx293_4, hx293_5, hx293_6, hx293_7, hx293_8, hx293_9, hx293_10, hx293_11⟩ := at_T50 HR0.out a1 p293 q293
                      obtain rfl : ad287 = ad293 := (by injection e293)
                      replace hx293_0 := (HB.out.cell (World.block_lt_of_cell? w _ hx293_0)).trans hx293_0
                      replace hx293_1 := (HB.out.cell (World.block_lt_of_cell? w _ hx293_1)).trans hx293_1
                      replace hx293_2 := (HB.out.cell (World.block_lt_of_cell? w _ hx293_2)).trans hx293_2
                      replace hx293_3 := (HB.out.cell (World.block_lt_of_cell? w _ hx293_3)).trans hx293_3
                      replace hx293_4 := (HB.out.cell (World.block_lt_of_cell? w _ hx293_4)).trans hx293_4
                      replace hx293_5 := (HB.out.cell (World.block_lt_of_cell? w _ hx293_5)).trans hx293_5
                      replace hx293_6 := (HB.out.cell (World.block_lt_of_cell? w _ hx293_6)).trans hx293_6
                      replace hx293_7 := (HB.out.cell (World.block_lt_of_cell? w _ hx293_7)).trans hx293_7
                      replace hx293_8 := (HB.out.cell (World.block_lt_of_cell? w _ hx293_8)).trans hx293_8
                      replace hx293_9 := (HB.out.cell (World.block_lt_of_cell? w _ hx293_9)).trans hx293_9
                      replace hx293_10 := (HB.out.cell (World.block_lt_of_cell? w _ hx293_10)).trans hx293_10
                      replace hx293_11 := (HB.out.cell (World.block_lt_of_cell? w _ hx293_11)).trans hx293_11
                      replace p293 := eq_true p293
                      replace q293 := eq_true q293
                      go_wp2
                      go_meet
                      case rel => exact ⟨_, ((((rd_T50 l0 a1).f2) != 0)), (by first | rfl | (simp; done) | (simp [*]; done)), H', ⟨by have := HJ2.out; first | omega | exact Nat.le_refl _⟩, ⟨by repeat (first | (with_reducible first | exact HB.out | apply below_alloc | apply pw_below_drewN | apply below_drew1) | exact HB.out)⟩⟩
                    · rw [if_neg c22] at H
                      have c22b0 : (((rd_T50 l0 a1).f1) == (wrap64 (a1 - 1))) = false := beq_eq_false_iff_ne.mpr c22
                      have c22b1 : (((rd_T50 l0 a1).f1) != (wrap64 (a1 - 1))) = true := bne_iff_ne.mpr c22
                      (first | rw [c22b0] | (simp only [i64_w, i32_w]; rw [c22b0]) | skip)
                      have H' := Aside0.mk H
                      clear H
                      have p292 : 0 ≤ (a1 : Int) := of_decide_eq_true (by first | (with_reducible assumption) | assumption)
                      have q292 : a1 < (l0.length : Int) := of_decide_eq_true (by first | (with_reducible assumption) | assumption)
                      obtain ⟨ad292, e292, hx292_0, hx292_1, hx292_2, hx292_3, hx292_4, hx292_5, hx292_6, hx292_7, hx292_8, hx292_9, hx292_10, hx292_11⟩ := at_T50 HR0.out a1 p292 q292
                      obtain rfl : ad287 = ad292 := (by injection e292)
                      replace hx292_0 := (HB.out.cell (World.block_lt_of_cell? w _ hx292_0)).trans hx292_0
                      replace hx292_1 := (HB.out.cell (World.block_lt_of_cell? w _ hx292_1)).trans hx292_1
                      replace hx292_2 := (HB.out.cell (World.block_lt_of_cell? w _ hx292_2)).trans hx292_2
                      replace hx292_3 := (HB.out.cell (World.block_lt_of_cell? w _ hx292_3)).trans hx292_3
                      replace hx292_4 := (HB.out.cell (World.block_lt_of_cell? w _ hx292_4)).trans hx292_4
                      replace hx292_5 := (HB.out.cell (World.block_lt_of_cell? w _ hx292_5)).trans hx292_5
                      replace hx292_6 := (HB.out.cell (World.block_lt_of_cell? w _ hx292_6)).trans hx292_6
                      replace hx292_7 := (HB.out.cell (World.block_lt_of_cell? w _ hx292_7)).trans hx292_7
                      replace hx292_8 := (HB.out.cell (World.block_lt_of_cell? w _ hx292_8)).trans hx292_8
                      replace hx292_9 := (HB.out.cell (World.block_lt_of_cell? w _ hx292_9)).trans hx292_9
                      replace hx292_10 := (HB.out.cell (World.block_lt_of_cell? w _ hx292_10)).trans hx292_10
                      replace hx292_11 := (HB.out.cell (World.block_lt_of_cell? w _ hx292_11)).trans hx292_11
                      replace p292 := eq_true p292
                      replace q292 := eq_true q292
                      go_wp2
                      go_meet
                      case rel => exact ⟨_, (true), (by first | rfl | (simp; done) | (simp [*]; done)), H', ⟨by have := HJ2.out; first | omega | exact Nat.le_refl _⟩, ⟨by repeat (first | (with_reducible first | exact HB.out | apply below_alloc | apply pw_below_drewN | apply below_drew1) | exact HB.out)⟩⟩
                  case rest =>
                    clear HC20
                    try clear c1
                    try clear c2
                    try clear p2
                    try clear q2
                    try clear hx2
                    try clear c3
                    try clear c4
                    try clear c4b0
                    try clear c5
                    try clear c5b0
                    try clear c6
                    try clear c6b0
                    try clear p6
                    try clear c9
                    try clear c10
                    try clear c10b0
                    try clear c11
                    try clear c11b0
                    try clear c13
                    try clear c13b0
                    try clear c13b1
                    try clear c14
                    try clear c14b0
                    try clear c14b1
                    try clear c15
                    try clear c15b0
                    try clear c15b1
                    try clear c17
                    try clear c17b0
                    try clear c17b1
                    try clear c19
                    try clear c19b0
                    try clear c19b1
                    try clear c22
                    try clear c22b0
                    try clear c22b1
                    try clear hx285_0
                    try clear hx285_1
                    try clear hx285_10
                    try clear hx285_11
                    try clear hx285_2
                    try clear hx285_3
                    try clear hx285_4
                    try clear hx285_5
                    try clear hx285_6
                    try clear hx285_7
                    try clear hx285_8
                    try clear hx285_9
                    try clear hx287_0
                    try clear hx287_1
                    try clear hx287_10
                    try clear hx287_11
                    try clear hx287_2
                    try clear hx287_3
                    try clear hx287_4
                    try clear hx287_5
                    try clear hx287_6
                    try clear hx287_7
                    try clear hx287_8
                    try clear hx287_9
                    try clear hx289_0
                    try clear hx289_1
                    try clear hx289_10
                    try clear hx289_11
                    try clear hx289_2
                    try clear hx289_3
                    try clear hx289_4
                    try clear hx289_5
                    try clear hx289_6
                    try clear hx289_7
                    try clear hx289_8
                    try clear hx289_9
                    try clear hx290_0
                    try clear hx290_1
                    try clear hx290_10
                    try clear hx290_11
                    try clear hx290_2
                    try clear hx290_3
                    try clear hx290_4
                    try clear hx290_5
                    try clear hx290_6
                    try clear hx290_7
                    try clear hx290_8
                    try clear hx290_9
                    try clear hx292_0
                    try clear hx292_1
                    try clear hx292_10
                    try clear hx292_11
                    try clear hx292_2
                    try clear hx292_3
                    try clear hx292_4
                    try clear hx292_5
                    try clear hx292_6
                    try clear hx292_7
                    try clear hx292_8
                    try clear hx292_9
                    try clear hx293_0
                    try clear hx293_1
                    try clear hx293_10
                    try clear hx293_11
                    try clear hx293_2
                    try clear hx293_3
                    try clear hx293_4
                    try clear hx293_5
                    try clear hx293_6
                    try clear hx293_7
                    try clear hx293_8
                    try clear hx293_9
                    try clear p2
                    try clear p285
                    try clear p287
                    try clear p289
                    try clear p290
                    try clear p292
                    try clear p293
                    try clear q2
                    try clear q285
                    try clear q287
                    try clear q289
                    try clear q290
                    try clear q292
                    try clear q293
                    obtain ⟨kq, x63_19, rfl, HA, HJ19, HB⟩ := hcut
                    cases kq with
                    | zero => exact absurd HA.out (by simp [clewref05_Size.j1])
                    | succ kj19 =>
                      have H := HA.out
                      clear HA
                      simp only [clewref05_Size.j1] at H
                      by_cases c23 : x63_19 = true
                      · subst c23
                        have H1 : (some 0) = some r := by rw [if_pos rfl] at H; exact H
                        clear H
                        have H := H1
                        clear H1
                        obtain rfl := Option.some.inj H
                        go_wp2
                        go_ret
                        exact ⟨by first | rfl | (simp [errW_none, errW_some] <;> rfl) | (simp [*, errW_none, errW_some] <;> rfl), by repeat (first | (with_reducible first | exact HB.out | apply below_alloc | apply pw_below_drewN | apply below_drew1) | exact HB.out)⟩
                      · replace c23 := Bool.eq_false_iff.mpr c23
                        subst c23
                        have H1 : (some (wrap64 (t291 + 1))) = some r := by rw [if_neg (show ¬ (false = true) by decide)] at H; exact H
                        clear H
                        have H := H1
                        clear H1
                        obtain rfl := Option.some.inj H
                        go_wp2
                        go_ret
                        exact ⟨by first | rfl | (simp [errW_none, errW_some] <;> rfl) | (simp [*, errW_none, errW_some] <;> rfl), by repeat (first | (with_reducible first | exact HB.out | apply below_alloc | apply pw_below_drewN | apply below_drew1) | exact HB.out)⟩
                · rw [if_neg c19] at H
                  have c19b0 : (t288 == 1) = false := beq_eq_false_iff_ne.mpr c19
                  have c19b1 : (t288 != 1) = true := bne_iff_ne.mpr c19
                  replace H := Option.bind_eq_some_iff.mp H
                  obtain ⟨t294, A240, H⟩ := H
                  replace H : (if t294 = 0 then (some 0) else (if ((rd_T50 l0 a1).f1) = (wrap64 ((wrap64 (a1 - 1)) - t291)) then (if ((rd_T50 l0 a1).f2) = (wrap64 (a1 - 1)) then (some (wrap64 ((wrap64 (t294 + t291)) + 1))) else (some 0)) else (some 0))) = some r := H
                  have A24 := Aside0.mk A240
                  clear A240
                  by_cases c25 : t294 = 0
                  · rw [if_pos c25] at H
                    have c25b0 : (t294 == 0) = true := beq_iff_eq.mpr c25
                    have c25b1 : (t294 != 0) = false := bne_eq_false_iff_eq.mpr c25
                    clear c25
                    obtain rfl := Option.some.inj H
                    have p287 : 0 ≤ (a1 : Int) := of_decide_eq_true (by first | (with_reducible assumption) | assumption)
                    have q287 : a1 < (l0.length : Int) := of_decide_eq_true (by first | (with_reducible assumption) | assumption)
                    obtain ⟨ad287, e287, hx287_0, hx287_1, hx287_2, hx287_3, hx287_4, hx287_5, hx287_6, hx287_7, hx287_8, hx287_9, hx287_10, hx287_11⟩ := at_T50 HR0.out a1 p287 q287
                    cases e287
                    replace hx287_0 := (HB.out.cell (World.block_lt_of_cell? w _ hx287_0)).trans hx287_0
                    replace hx287_1 := (HB.out.cell (World.block_lt_of_cell? w _ hx287_1)).trans hx287_1
                    replace hx287_2 := (HB.out.cell (World.block_lt_of_cell? w _ hx287_2)).trans hx287_2
                    replace hx287_3 := (HB.out.cell (World.block_lt_of_cell? w _ hx287_3)).trans hx287_3
                    replace hx287_4 := (HB.out.cell (World.block_lt_of_cell? w _ hx287_4)).trans hx287_4
                    replace hx287_5 := (HB.out.cell (World.block_lt_of_cell? w _ hx287_5)).trans hx287_5
                    replace hx287_6 := (HB.out.cell (World.block_lt_of_cell? w _ hx287_6)).trans hx287_6
                    replace hx287_7 := (HB.out.cell (World.block_lt_of_cell? w _ hx287_7)).trans hx287_7
                    replace hx287_8 := (HB.out.cell (World.block_lt_of_cell? w _ hx287_8)).trans hx287_8
                    replace hx287_9 := (HB.out.cell (World.block_lt_of_cell? w _ hx287_9)).trans hx287_9
                    replace hx287_10 := (HB.out.cell (World.block_lt_of_cell? w _ hx287_10)).trans hx287_10
                    replace hx287_11 := (HB.out.cell (World.block_lt_of_cell? w _ hx287_11)).trans hx287_11
                    replace p287 := eq_true p287
                    replace q287 := eq_true q287
                    go_wp2_with (first | ((with_reducible refine gate_callee (f := 42) rfl ?_); refine goesL_ (some 23) rfl rfl Try.func42 (by kernel_rfl) rfl #[.int .i64 ((rd_T50 l0 a1).f0)] rfl (by (try simp only [List.map_toArray, List.map_cons, List.map_nil]); first | done | rfl | (simp only [List.length_drop, List.length_take]; rfl)) ?_; (with_reducible refine (clewref05_Kids.calls kj2 ((rd_T50 l0 a1).f0) t288 _ A12.out).mono ?_); rintro e w' ⟨rfl, ⟨nd, rfl⟩⟩; refine ⟨_, rfl, ?_⟩) | ((with_reducible refine gate_callee (f := 38) rfl ?_); refine goesL_ (some 43) rfl rfl Try.func38 (by kernel_rfl) rfl #[.slice (some ad287) l0.length c0, .int .i64 (wrap64 (a1 - 1))] rfl (by (try simp only [List.map_toArray, List.map_cons, List.map_nil]); first | done | rfl | (simp only [List.length_drop, List.length_take]; rfl)) ?_; (with_reducible refine (ih kj2 (by have := HJ2.out; omega) _ _ l0 (wrap64 (a1 - 1)) t291 _ ?side1 ?side2 A16.out).mono ?_); (case side1 => repeat (first | exact (Kd.C_below HR0.out (by repeat (first | (with_reducible first | exact HB.out | apply below_alloc | apply pw_below_drewN | apply below_drew1) | exact HB.out))) | (with_reducible refine Kd.C_alloc ?_ _) | (with_reducible refine Kd.C_drewN ?_ _) | (with_reducible refine Kd.C_drew ?_))); (case side2 => exact HC0.out); rintro e w26 ⟨rfl, hb⟩; refine ⟨_, rfl, ?_⟩; have n0_ := Aside0.mk (below_step (by repeat (first | (with_reducible first | exact HB.out | apply below_alloc | apply pw_below_drewN | apply below_drew1) | exact HB.out)) hb); clear HB; have HB := n0_; clear n0_; (try clear hb); (try clear hb2); (try clear hk); (try clear hi)) | ((with_reducible refine gate_callee (f := 38) rfl ?_); refine goesL_ (some 71) rfl rfl Try.func38 (by kernel_rfl) rfl #[.slice (some ad287) l0.length c0, .int .i64 (wrap64 ((wrap64 (a1 - 1)) - t291))] rfl (by (try simp only [List.map_toArray, List.map_cons, List.map_nil]); first | done | rfl | (simp only [List.length_drop, List.length_take]; rfl)) ?_; (with_reducible refine (ih kj2 (by have := HJ2.out; omega) _ _ l0 (wrap64 ((wrap64 (a1 - 1)) - t291)) t294 _ ?side1 ?side2 A24.out).mono ?_); (case side1 => repeat (first | exact (Kd.C_below HR0.out HB.out) | (with_reducible refine Kd.C_alloc ?_ _) | (with_reducible refine Kd.C_drewN ?_ _) | (with_reducible refine Kd.C_drew ?_))); (case side2 => exact HC0.out); rintro e w27 ⟨rfl, hb⟩; refine ⟨_, rfl, ?_⟩; have n0_ := Aside0.mk (below_step (by repeat (first | (with_reducible first | exact HB.out | apply below_alloc | apply pw_below_drewN | apply below_drew1) | exact HB.out)) hb); clear HB; have HB := n0_; clear n0_; (try clear hb); (try clear hb2); (try clear hk); (try clear hi)))
                    go_ret
                    exact ⟨by first | rfl | (simp [errW_none, errW_some] <;> rfl) | (simp [*, errW_none, errW_some] <;> rfl), by repeat (first | (with_reducible first | exact HB.out | apply below_alloc | apply pw_below_drewN | apply below_drew1) | exact HB.out)⟩
                  · rw [if_neg c25] at H
                    have c25b0 : (t294 == 0) = false := beq_eq_false_iff_ne.mpr c25
                    have c25b1 : (t294 != 0) = true := bne_iff_ne.mpr c25
                    by_cases c28 : ((rd_T50 l0 a1).f1) = (wrap64 ((wrap64 (a1 - 1)) - t291))
                    · rw [if_pos c28] at H
                      have c28b0 : (((rd_T50 l0 a1).f1) == (wrap64 ((wrap64 (a1 - 1)) - t291))) = true := beq_iff_eq.mpr c28
                      have c28b1 : (((rd_T50 l0 a1).f1) != (wrap64 ((wrap64 (a1 - 1)) - t291))) = false := bne_eq_false_iff_eq.mpr c28
                      clear c28
                      by_cases c29 : ((rd_T50 l0 a1).f2) = (wrap64 (a1 - 1))
                      · rw [if_pos c29] at H
                        have c29b0 : (((rd_T50 l0 a1).f2) == (wrap64 (a1 - 1))) = true := beq_iff_eq.mpr c29
                        have c29b1 : (((rd_T50 l0 a1).f2) != (wrap64 (a1 - 1))) = false := bne_eq_false_iff_eq.mpr c29
                        clear c29
                        obtain rfl := Option.some.inj H
                        have p287 : 0 ≤ (a1 : Int) := of_decide_eq_true (by first | (with_reducible assumption) | assumption)
                        have q287 : a1 < (l0.length : Int) := of_decide_eq_true (by first | (with_reducible assumption) | assumption)
                        obtain ⟨ad287, e287, hx287_0, hx287_1, hx287_2, hx287_3, hx287_4, hx287_5, hx287_6, hx287_7, hx287_8, hx287_9, hx287_10, hx287_11⟩ := at_T50 HR0.out a1 p287 q287
                        cases e287
                        replace hx287_0 := (HB.out.cell (World.block_lt_of_cell? w _ hx287_0)).trans hx287_0
                        replace hx287_1 := (HB.out.cell (World.block_lt_of_cell? w _ hx287_1)).trans hx287_1
                        replace hx287_2 := (HB.out.cell (World.block_lt_of_cell? w _ hx287_2)).trans hx287_2
                        replace hx287_3 := (HB.out.cell (World.block_lt_of_cell? w _ hx287_3)).trans hx287_3
                        replace hx287_4 := (HB.out.cell (World.block_lt_of_cell? w _ hx287_4)).trans hx287_4
                        replace hx287_5 := (HB.out.cell (World.block_lt_of_cell? w _ hx287_5)).trans hx287_5
                        replace hx287_6 := (HB.out.cell (World.block_lt_of_cell? w _ hx287_6)).trans hx287_6
                        replace hx287_7 := (HB.out.cell (World.block_lt_of_cell? w _ hx287_7)).trans hx287_7
                        replace hx287_8 := (HB.out.cell (World.block_lt_of_cell? w _ hx287_8)).trans hx287_8
                        replace hx287_9 := (HB.out.cell (World.block_lt_of_cell? w _ hx287_9)).trans hx287_9
                        replace hx287_10 := (HB.out.cell (World.block_lt_of_cell? w _ hx287_10)).trans hx287_10
                        replace hx287_11 := (HB.out.cell (World.block_lt_of_cell? w _ hx287_11)).trans hx287_11
                        replace p287 := eq_true p287
                        replace q287 := eq_true q287
                        go_wp2_with (first | ((with_reducible refine gate_callee (f := 42) rfl ?_); refine goesL_ (some 23) rfl rfl Try.func42 (by kernel_rfl) rfl #[.int .i64 ((rd_T50 l0 a1).f0)] rfl (by (try simp only [List.map_toArray, List.map_cons, List.map_nil]); first | done | rfl | (simp only [List.length_drop, List.length_take]; rfl)) ?_; (with_reducible refine (clewref05_Kids.calls kj2 ((rd_T50 l0 a1).f0) t288 _ A12.out).mono ?_); rintro e w' ⟨rfl, ⟨nd, rfl⟩⟩; refine ⟨_, rfl, ?_⟩) | ((with_reducible refine gate_callee (f := 38) rfl ?_); refine goesL_ (some 43) rfl rfl Try.func38 (by kernel_rfl) rfl #[.slice (some ad287) l0.length c0, .int .i64 (wrap64 (a1 - 1))] rfl (by (try simp only [List.map_toArray, List.map_cons, List.map_nil]); first | done | rfl | (simp only [List.length_drop, List.length_take]; rfl)) ?_; (with_reducible refine (ih kj2 (by have := HJ2.out; omega) _ _ l0 (wrap64 (a1 - 1)) t291 _ ?side1 ?side2 A16.out).mono ?_); (case side1 => repeat (first | exact (Kd.C_below HR0.out (by repeat (first | (with_reducible first | exact HB.out | apply below_alloc | apply pw_below_drewN | apply below_drew1) | exact HB.out))) | (with_reducible refine Kd.C_alloc ?_ _) | (with_reducible refine Kd.C_drewN ?_ _) | (with_reducible refine Kd.C_drew ?_))); (case side2 => exact HC0.out); rintro e w30 ⟨rfl, hb⟩; refine ⟨_, rfl, ?_⟩; have n0_ := Aside0.mk (below_step (by repeat (first | (with_reducible first | exact HB.out | apply below_alloc | apply pw_below_drewN | apply below_drew1) | exact HB.out)) hb); clear HB; have HB := n0_; clear n0_; (try clear hb); (try clear hb2); (try clear hk); (try clear hi)) | ((with_reducible refine gate_callee (f := 38) rfl ?_); refine goesL_ (some 71) rfl rfl Try.func38 (by kernel_rfl) rfl #[.slice (some ad287) l0.length c0, .int .i64 (wrap64 ((wrap64 (a1 - 1)) - t291))] rfl (by (try simp only [List.map_toArray, List.map_cons, List.map_nil]); first | done | rfl | (simp only [List.length_drop, List.length_take]; rfl)) ?_; (with_reducible refine (ih kj2 (by have := HJ2.out; omega) _ _ l0 (wrap64 ((wrap64 (a1 - 1)) - t291)) t294 _ ?side1 ?side2 A24.out).mono ?_); (case side1 => repeat (first | exact (Kd.C_below HR0.out HB.out) | (with_reducible refine Kd.C_alloc ?_ _) | (with_reducible refine Kd.C_drewN ?_ _) | (with_reducible refine Kd.C_drew ?_))); (case side2 => exact HC0.out); rintro e w31 ⟨rfl, hb⟩; refine ⟨_, rfl, ?_⟩; have n0_ := Aside0.mk (below_step (by repeat (first | (with_reducible first | exact HB.out | apply below_alloc | apply pw_below_drewN | apply below_drew1) | exact HB.out)) hb); clear HB; have HB := n0_; clear n0_; (try clear hb); (try clear hb2); (try clear hk); (try clear hi); have p295 : 0 ≤ (a1 : Int) := of_decide_eq_true (by first | (with_reducible assumption) | assumption); have q295 : a1 < (l0.length : Int) := of_decide_eq_true (by first | (with_reducible assumption) | assumption); obtain ⟨ad295, e295, hx295_0, hx295_1, hx295_2, hx295_3, hx295_4, hx295_5, hx295_6, hx295_7, hx295_8, hx295_9, hx295_10, hx295_11⟩ := at_T50 HR0.out a1 p295 q295; obtain rfl : ad287 = ad295 := (by injection e295); replace hx295_0 := (HB.out.cell (World.block_lt_of_cell? w _ hx295_0)).trans hx295_0; replace hx295_1 := (HB.out.cell (World.block_lt_of_cell? w _ hx295_1)).trans hx295_1; replace hx295_2 := (HB.out.cell (World.block_lt_of_cell? w _ hx295_2)).trans hx295_2; replace hx295_3 := (HB.out.cell (World.block_lt_of_cell? w _ hx295_3)).trans hx295_3; replace hx295_4 := (HB.out.cell (World.block_lt_of_cell? w _ hx295_4)).trans hx295_4; replace hx295_5 := (HB.out.cell (World.block_lt_of_cell? w _ hx295_5)).trans hx295_5; replace hx295_6 := (HB.out.cell (World.block_lt_of_cell? w _ hx295_6)).trans hx295_6; replace hx295_7 := (HB.out.cell (World.block_lt_of_cell? w _ hx295_7)).trans hx295_7; replace hx295_8 := (HB.out.cell (World.block_lt_of_cell? w _ hx295_8)).trans hx295_8; replace hx295_9 := (HB.out.cell (World.block_lt_of_cell? w _ hx295_9)).trans hx295_9; replace hx295_10 := (HB.out.cell (World.block_lt_of_cell? w _ hx295_10)).trans hx295_10; replace hx295_11 := (HB.out.cell (World.block_lt_of_cell? w _ hx295_11)).trans hx295_11; replace p295 := eq_true p295; replace q295 := eq_true q295; have p296 : 0 ≤ (a1 : Int) := of_decide_eq_true (by first | (with_reducible assumption) | assumption); have q296 : a1 < (l0.length : Int) := of_decide_eq_true (by first | (with_reducible assumption) | assumption); obtain ⟨ad296, e296, hx296_0, hx296_1, hx296_2, hx296_3, hx296_4, hx296_5, hx296_6, hx296_7, hx296_8, hx296_9, hx296_10, hx296_11⟩ := at_T50 HR0.out a1 p296 q296; obtain rfl : ad287 = ad296 := (by injection e296); replace hx296_0 := (HB.out.cell (World.block_lt_of_cell? w _ hx296_0)).trans hx296_0; replace hx296_1 := (HB.out.cell (World.block_lt_of_cell? w _ hx296_1)).trans hx296_1; replace hx296_2 := (HB.out.cell (World.block_lt_of_cell? w _ hx296_2)).trans hx296_2; replace hx296_3 := (HB.out.cell (World.block_lt_of_cell? w _ hx296_3)).trans hx296_3; replace hx296_4 := (HB.out.cell (World.block_lt_of_cell? w _ hx296_4)).trans hx296_4; replace hx296_5 := (HB.out.cell (World.block_lt_of_cell? w _ hx296_5)).trans hx296_5; replace hx296_6 := (HB.out.cell (World.block_lt_of_cell? w _ hx296_6)).trans hx296_6; replace hx296_7 := (HB.out.cell (World.block_lt_of_cell? w _ hx296_7)).trans hx296_7; replace hx296_8 := (HB.out.cell (World.block_lt_of_cell? w _ hx296_8)).trans hx296_8; replace hx296_9 := (HB.out.cell (World.block_lt_of_cell? w _ hx296_9)).trans hx296_9; replace hx296_10 := (HB.out.cell (World.block_lt_of_cell? w _ hx296_10)).trans hx296_10; replace hx296_11 := (HB.out.cell (World.block_lt_of_cell? w _ hx296_11)).trans hx296_11; replace p296 := eq_true p296; replace q296 := eq_true q296))
                        go_ret
                        exact ⟨by first | rfl | (simp [errW_none, errW_some] <;> rfl) | (simp [*, errW_none, errW_some] <;> rfl), by repeat (first | (with_reducible first | exact HB.out | apply below_alloc | apply pw_below_drewN | apply below_drew1) | exact HB.out)⟩
                      · rw [if_neg c29] at H
                        have c29b0 : (((rd_T50 l0 a1).f2) == (wrap64 (a1 - 1))) = false := beq_eq_false_iff_ne.mpr c29
                        have c29b1 : (((rd_T50 l0 a1).f2) != (wrap64 (a1 - 1))) = true := bne_iff_ne.mpr c29
                        obtain rfl := Option.some.inj H
                        have p287 : 0 ≤ (a1 : Int) := of_decide_eq_true (by first | (with_reducible assumption) | assumption)
                        have q287 : a1 < (l0.length : Int) := of_decide_eq_true (by first | (with_reducible assumption) | assumption)
                        obtain ⟨ad287, e287, hx287_0, hx287_1, hx287_2, hx287_3, hx287_4, hx287_5, hx287_6, hx287_7, hx287_8, hx287_9, hx287_10, hx287_11⟩ := at_T50 HR0.out a1 p287 q287
                        cases e287
                        replace hx287_0 := (HB.out.cell (World.block_lt_of_cell? w _ hx287_0)).trans hx287_0
                        replace hx287_1 := (HB.out.cell (World.block_lt_of_cell? w _ hx287_1)).trans hx287_1
                        replace hx287_2 := (HB.out.cell (World.block_lt_of_cell? w _ hx287_2)).trans hx287_2
                        replace hx287_3 := (HB.out.cell (World.block_lt_of_cell? w _ hx287_3)).trans hx287_3
                        replace hx287_4 := (HB.out.cell (World.block_lt_of_cell? w _ hx287_4)).trans hx287_4
                        replace hx287_5 := (HB.out.cell (World.block_lt_of_cell? w _ hx287_5)).trans hx287_5
                        replace hx287_6 := (HB.out.cell (World.block_lt_of_cell? w _ hx287_6)).trans hx287_6
                        replace hx287_7 := (HB.out.cell (World.block_lt_of_cell? w _ hx287_7)).trans hx287_7
                        replace hx287_8 := (HB.out.cell (World.block_lt_of_cell? w _ hx287_8)).trans hx287_8
                        replace hx287_9 := (HB.out.cell (World.block_lt_of_cell? w _ hx287_9)).trans hx287_9
                        replace hx287_10 := (HB.out.cell (World.block_lt_of_cell? w _ hx287_10)).trans hx287_10
                        replace hx287_11 := (HB.out.cell (World.block_lt_of_cell? w _ hx287_11)).trans hx287_11
                        replace p287 := eq_true p287
                        replace q287 := eq_true q287
                        go_wp2_with (first | ((with_reducible refine gate_callee (f := 42) rfl ?_); refine goesL_ (some 23) rfl rfl Try.func42 (by kernel_rfl) rfl #[.int .i64 ((rd_T50 l0 a1).f0)] rfl (by (try simp only [List.map_toArray, List.map_cons, List.map_nil]); first | done | rfl | (simp only [List.length_drop, List.length_take]; rfl)) ?_; (with_reducible refine (clewref05_Kids.calls kj2 ((rd_T50 l0 a1).f0) t288 _ A12.out).mono ?_); rintro e w' ⟨rfl, ⟨nd, rfl⟩⟩; refine ⟨_, rfl, ?_⟩) | ((with_reducible refine gate_callee (f := 38) rfl ?_); refine goesL_ (some 43) rfl rfl Try.func38 (by kernel_rfl) rfl #[.slice (some ad287) l0.length c0, .int .i64 (wrap64 (a1 - 1))] rfl (by (try simp only [List.map_toArray, List.map_cons, List.map_nil]); first | done | rfl | (simp only [List.length_drop, List.length_take]; rfl)) ?_; (with_reducible refine (ih kj2 (by have := HJ2.out; omega) _ _ l0 (wrap64 (a1 - 1)) t291 _ ?side1 ?side2 A16.out).mono ?_); (case side1 => repeat (first | exact (Kd.C_below HR0.out (by repeat (first | (with_reducible first | exact HB.out | apply below_alloc | apply pw_below_drewN | apply below_drew1) | exact HB.out))) | (with_reducible refine Kd.C_alloc ?_ _) | (with_reducible refine Kd.C_drewN ?_ _) | (with_reducible refine Kd.C_drew ?_))); (case side2 => exact HC0.out); rintro e w32 ⟨rfl, hb⟩; refine ⟨_, rfl, ?_⟩; have n0_ := Aside0.mk (below_step (by repeat (first | (with_reducible first | exact HB.out | apply below_alloc | apply pw_below_drewN | apply below_drew1) | exact HB.out)) hb); clear HB; have HB := n0_; clear n0_; (try clear hb); (try clear hb2); (try clear hk); (try clear hi)) | ((with_reducible refine gate_callee (f := 38) rfl ?_); refine goesL_ (some 71) rfl rfl Try.func38 (by kernel_rfl) rfl #[.slice (some ad287) l0.length c0, .int .i64 (wrap64 ((wrap64 (a1 - 1)) - t291))] rfl (by (try simp only [List.map_toArray, List.map_cons, List.map_nil]); first | done | rfl | (simp only [List.length_drop, List.length_take]; rfl)) ?_; (with_reducible refine (ih kj2 (by have := HJ2.out; omega) _ _ l0 (wrap64 ((wrap64 (a1 - 1)) - t291)) t294 _ ?side1 ?side2 A24.out).mono ?_); (case side1 => repeat (first | exact (Kd.C_below HR0.out HB.out) | (with_reducible refine Kd.C_alloc ?_ _) | (with_reducible refine Kd.C_drewN ?_ _) | (with_reducible refine Kd.C_drew ?_))); (case side2 => exact HC0.out); rintro e w33 ⟨rfl, hb⟩; refine ⟨_, rfl, ?_⟩; have n0_ := Aside0.mk (below_step (by repeat (first | (with_reducible first | exact HB.out | apply below_alloc | apply pw_below_drewN | apply below_drew1) | exact HB.out)) hb); clear HB; have HB := n0_; clear n0_; (try clear hb); (try clear hb2); (try clear hk); (try clear hi); have p295 : 0 ≤ (a1 : Int) := of_decide_eq_true (by first | (with_reducible assumption) | assumption); have q295 : a1 < (l0.length : Int) := of_decide_eq_true (by first | (with_reducible assumption) | assumption); obtain ⟨ad295, e295, hx295_0, hx295_1, hx295_2, hx295_3, hx295_4, hx295_5, hx295_6, hx295_7, hx295_8, hx295_9, hx295_10, hx295_11⟩ := at_T50 HR0.out a1 p295 q295; obtain rfl : ad287 = ad295 := (by injection e295); replace hx295_0 := (HB.out.cell (World.block_lt_of_cell? w _ hx295_0)).trans hx295_0; replace hx295_1 := (HB.out.cell (World.block_lt_of_cell? w _ hx295_1)).trans hx295_1; replace hx295_2 := (HB.out.cell (World.block_lt_of_cell? w _ hx295_2)).trans hx295_2; replace hx295_3 := (HB.out.cell (World.block_lt_of_cell? w _ hx295_3)).trans hx295_3; replace hx295_4 := (HB.out.cell (World.block_lt_of_cell? w _ hx295_4)).trans hx295_4; replace hx295_5 := (HB.out.cell (World.block_lt_of_cell? w _ hx295_5)).trans hx295_5; replace hx295_6 := (HB.out.cell (World.block_lt_of_cell? w _ hx295_6)).trans hx295_6; replace hx295_7 := (HB.out.cell (World.block_lt_of_cell? w _ hx295_7)).trans hx295_7; replace hx295_8 := (HB.out.cell (World.block_lt_of_cell? w _ hx295_8)).trans hx295_8; replace hx295_9 := (HB.out.cell (World.block_lt_of_cell? w _ hx295_9)).trans hx295_9; replace hx295_10 := (HB.out.cell (World.block_lt_of_cell? w _ hx295_10)).trans hx295_10; replace hx295_11 := (HB.out.cell (World.block_lt_of_cell? w _ hx295_11)).trans hx295_11; replace p295 := eq_true p295; replace q295 := eq_true q295; have p296 : 0 ≤ (a1 : Int) := of_decide_eq_true (by first | (with_reducible assumption) | assumption); have q296 : a1 < (l0.length : Int) := of_decide_eq_true (by first | (with_reducible assumption) | assumption); obtain ⟨ad296, e296, hx296_0, hx296_1, hx296_2, hx296_3, hx296_4, hx296_5, hx296_6, hx296_7, hx296_8, hx296_9, hx296_10, hx296_11⟩ := at_T50 HR0.out a1 p296 q296; obtain rfl : ad287 = ad296 := (by injection e296); replace hx296_0 := (HB.out.cell (World.block_lt_of_cell? w _ hx296_0)).trans hx296_0; replace hx296_1 := (HB.out.cell (World.block_lt_of_cell? w _ hx296_1)).trans hx296_1; replace hx296_2 := (HB.out.cell (World.block_lt_of_cell? w _ hx296_2)).trans hx296_2; replace hx296_3 := (HB.out.cell (World.block_lt_of_cell? w _ hx296_3)).trans hx296_3; replace hx296_4 := (HB.out.cell (World.block_lt_of_cell? w _ hx296_4)).trans hx296_4; replace hx296_5 := (HB.out.cell (World.block_lt_of_cell? w _ hx296_5)).trans hx296_5; replace hx296_6 := (HB.out.cell (World.block_lt_of_cell? w _ hx296_6)).trans hx296_6; replace hx296_7 := (HB.out.cell (World.block_lt_of_cell? w _ hx296_7)).trans hx296_7; replace hx296_8 := (HB.out.cell (World.block_lt_of_cell? w _ hx296_8)).trans hx296_8; replace hx296_9 := (HB.out.cell (World.block_lt_of_cell? w _ hx296_9)).trans hx296_9; replace hx296_10 := (HB.out.cell (World.block_lt_of_cell? w _ hx296_10)).trans hx296_10; replace hx296_11 := (HB.out.cell (World.block_lt_of_cell? w _ hx296_11)).trans hx296_11; replace p296 := eq_true p296; replace q296 := eq_true q296))
                        go_ret
                        exact ⟨by first | rfl | (simp [errW_none, errW_some] <;> rfl) | (simp [*, errW_none, errW_some] <;> rfl), by repeat (first | (with_reducible first | exact HB.out | apply below_alloc | apply pw_below_drewN | apply below_drew1) | exact HB.out)⟩
                    · rw [if_neg c28] at H
                      have c28b0 : (((rd_T50 l0 a1).f1) == (wrap64 ((wrap64 (a1 - 1)) - t291))) = false := beq_eq_false_iff_ne.mpr c28
                      have c28b1 : (((rd_T50 l0 a1).f1) != (wrap64 ((wrap64 (a1 - 1)) - t291))) = true := bne_iff_ne.mpr c28
                      obtain rfl := Option.some.inj H
                      have p287 : 0 ≤ (a1 : Int) := of_decide_eq_true (by first | (with_reducible assumption) | assumption)
                      have q287 : a1 < (l0.length : Int) := of_decide_eq_true (by first | (with_reducible assumption) | assumption)
                      obtain ⟨ad287, e287, hx287_0, hx287_1, hx287_2, hx287_3, hx287_4, hx287_5, hx287_6, hx287_7, hx287_8, hx287_9, hx287_10, hx287_11⟩ := at_T50 HR0.out a1 p287 q287
                      cases e287
                      replace hx287_0 := (HB.out.cell (World.block_lt_of_cell? w _ hx287_0)).trans hx287_0
                      replace hx287_1 := (HB.out.cell (World.block_lt_of_cell? w _ hx287_1)).trans hx287_1
                      replace hx287_2 := (HB.out.cell (World.block_lt_of_cell? w _ hx287_2)).trans hx287_2
                      replace hx287_3 := (HB.out.cell (World.block_lt_of_cell? w _ hx287_3)).trans hx287_3
                      replace hx287_4 := (HB.out.cell (World.block_lt_of_cell? w _ hx287_4)).trans hx287_4
                      replace hx287_5 := (HB.out.cell (World.block_lt_of_cell? w _ hx287_5)).trans hx287_5
                      replace hx287_6 := (HB.out.cell (World.block_lt_of_cell? w _ hx287_6)).trans hx287_6
                      replace hx287_7 := (HB.out.cell (World.block_lt_of_cell? w _ hx287_7)).trans hx287_7
                      replace hx287_8 := (HB.out.cell (World.block_lt_of_cell? w _ hx287_8)).trans hx287_8
                      replace hx287_9 := (HB.out.cell (World.block_lt_of_cell? w _ hx287_9)).trans hx287_9
                      replace hx287_10 := (HB.out.cell (World.block_lt_of_cell? w _ hx287_10)).trans hx287_10
                      replace hx287_11 := (HB.out.cell (World.block_lt_of_cell? w _ hx287_11)).trans hx287_11
                      replace p287 := eq_true p287
                      replace q287 := eq_true q287
                      go_wp2_with (first | ((with_reducible refine gate_callee (f := 42) rfl ?_); refine goesL_ (some 23) rfl rfl Try.func42 (by kernel_rfl) rfl #[.int .i64 ((rd_T50 l0 a1).f0)] rfl (by (try simp only [List.map_toArray, List.map_cons, List.map_nil]); first | done | rfl | (simp only [List.length_drop, List.length_take]; rfl)) ?_; (with_reducible refine (clewref05_Kids.calls kj2 ((rd_T50 l0 a1).f0) t288 _ A12.out).mono ?_); rintro e w' ⟨rfl, ⟨nd, rfl⟩⟩; refine ⟨_, rfl, ?_⟩) | ((with_reducible refine gate_callee (f := 38) rfl ?_); refine goesL_ (some 43) rfl rfl Try.func38 (by kernel_rfl) rfl #[.slice (some ad287) l0.length c0, .int .i64 (wrap64 (a1 - 1))] rfl (by (try simp only [List.map_toArray, List.map_cons, List.map_nil]); first | done | rfl | (simp only [List.length_drop, List.length_take]; rfl)) ?_; (with_reducible refine (ih kj2 (by have := HJ2.out; omega) _ _ l0 (wrap64 (a1 - 1)) t291 _ ?side1 ?side2 A16.out).mono ?_); (case side1 => repeat (first | exact (Kd.C_below HR0.out (by repeat (first | (with_reducible first | exact HB.out | apply below_alloc | apply pw_below_drewN | apply below_drew1) | exact HB.out))) | (with_reducible refine Kd.C_alloc ?_ _) | (with_reducible refine Kd.C_drewN ?_ _) | (with_reducible refine Kd.C_drew ?_))); (case side2 => exact HC0.out); rintro e w34 ⟨rfl, hb⟩; refine ⟨_, rfl, ?_⟩; have n0_ := Aside0.mk (below_step (by repeat (first | (with_reducible first | exact HB.out | apply below_alloc | apply pw_below_drewN | apply below_drew1) | exact HB.out)) hb); clear HB; have HB := n0_; clear n0_; (try clear hb); (try clear hb2); (try clear hk); (try clear hi)) | ((with_reducible refine gate_callee (f := 38) rfl ?_); refine goesL_ (some 71) rfl rfl Try.func38 (by kernel_rfl) rfl #[.slice (some ad287) l0.length c0, .int .i64 (wrap64 ((wrap64 (a1 - 1)) - t291))] rfl (by (try simp only [List.map_toArray, List.map_cons, List.map_nil]); first | done | rfl | (simp only [List.length_drop, List.length_take]; rfl)) ?_; (with_reducible refine (ih kj2 (by have := HJ2.out; omega) _ _ l0 (wrap64 ((wrap64 (a1 - 1)) - t291)) t294 _ ?side1 ?side2 A24.out).mono ?_); (case side1 => repeat (first | exact (Kd.C_below HR0.out HB.out) | (with_reducible refine Kd.C_alloc ?_ _) | (with_reducible refine Kd.C_drewN ?_ _) | (with_reducible refine Kd.C_drew ?_))); (case side2 => exact HC0.out); rintro e w35 ⟨rfl, hb⟩; refine ⟨_, rfl, ?_⟩; have n0_ := Aside0.mk (below_step (by repeat (first | (with_reducible first | exact HB.out | apply below_alloc | apply pw_below_drewN | apply below_drew1) | exact HB.out)) hb); clear HB; have HB := n0_; clear n0_; (try clear hb); (try clear hb2); (try clear hk); (try clear hi); have p295 : 0 ≤ (a1 : Int) := of_decide_eq_true (by first | (with_reducible assumption) | assumption); have q295 : a1 < (l0.length : Int) := of_decide_eq_true (by first | (with_reducible assumption) | assumption); obtain ⟨ad295, e295, hx295_0, hx295_1, hx295_2, hx295_3, hx295_4, hx295_5, hx295_6, hx295_7, hx295_8, hx295_9, hx295_10, hx295_11⟩ := at_T50 HR0.out a1 p295 q295; obtain rfl : ad287 = ad295 := (by injection e295); replace hx295_0 := (HB.out.cell (World.block_lt_of_cell? w _ hx295_0)).trans hx295_0; replace hx295_1 := (HB.out.cell (World.block_lt_of_cell? w _ hx295_1)).trans hx295_1; replace hx295_2 := (HB.out.cell (World.block_lt_of_cell? w _ hx295_2)).trans hx295_2; replace hx295_3 := (HB.out.cell (World.block_lt_of_cell? w _ hx295_3)).trans hx295_3; replace hx295_4 := (HB.out.cell (World.block_lt_of_cell? w _ hx295_4)).trans hx295_4; replace hx295_5 := (HB.out.cell (World.block_lt_of_cell? w _ hx295_5)).trans hx295_5; replace hx295_6 := (HB.out.cell (World.block_lt_of_cell? w _ hx295_6)).trans hx295_6; replace hx295_7 := (HB.out.cell (World.block_lt_of_cell? w _ hx295_7)).trans hx295_7; replace hx295_8 := (HB.out.cell (World.block_lt_of_cell? w _ hx295_8)).trans hx295_8; replace hx295_9 := (HB.out.cell (World.block_lt_of_cell? w _ hx295_9)).trans hx295_9; replace hx295_10 := (HB.out.cell (World.block_lt_of_cell? w _ hx295_10)).trans hx295_10; replace hx295_11 := (HB.out.cell (World.block_lt_of_cell? w _ hx295_11)).trans hx295_11; replace p295 := eq_true p295; replace q295 := eq_true q295))
                      go_ret
                      exact ⟨by first | rfl | (simp [errW_none, errW_some] <;> rfl) | (simp [*, errW_none, errW_some] <;> rfl), by repeat (first | (with_reducible first | exact HB.out | apply below_alloc | apply pw_below_drewN | apply below_drew1) | exact HB.out)⟩
          · rw [if_neg c11] at H
            exact absurd H (by simp)
        · rw [if_neg c10] at H
          exact absurd H (by simp)

end Go.Proofs.Ytjeoiebdchlilaa.Q
