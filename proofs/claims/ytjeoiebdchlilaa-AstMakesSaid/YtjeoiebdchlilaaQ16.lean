/- Go functions as Lean functions, each with the proof that its call answers just so; written by wip/tools/myprint.py. -/
import Derived.Test.YtjeoiebdchlilaaQ0
import Derived.Test.YtjeoiebdchlilaaQ9
import Derived.Test.YtjeoiebdchlilaaQ15
namespace Go.Proofs.Ytjeoiebdchlilaa.Q
open Go.RowKit Go.Proofs.YtjeoiebdchlilaaW.PrintWords Go.Proofs.YtjeoiebdchlilaaW.PrintLast Go.Proofs.YtjeoiebdchlilaaW.PrintMore
attribute [local go_sem] max2_int min2_int max_two min_two max_three min_three max_four min_four   -- for this text's walks alone
set_option linter.unusedVariables false
set_option linter.unusedSimpArgs false

/-! ### clewref05_Lens: function 33 -/
mutual
def clewref05_Lens.j0 : Nat → List (S50) → Int → Bool → Int → Int → Int → Int → Int → Int → Int → Int → Int → Int → Int → Bool → Option (Int × Int)
  | 0, _, _, _, _, _, _, _, _, _, _, _, _, _, _, _ => none
  | k + 1, x0, x18, x23, x235000, x235001, x235002, x235003, x235004, x235005, x235006, x235007, x235008, x235009, x235010, x235011 => if x23 = true then ((clewref05_Lens.f k x0 x235001).bind fun bt235 => ((clewref05_Lens.f k x0 x235002).bind fun bt237 => (if x235000 = 8 then ((clewref05_Plus.f bt235.1 bt237.1).bind fun t239 => ((clewref05_Plus.f bt235.2 bt237.2).bind fun t240 => (some (t239, t240)))) else (if bt235.2 < 0 then (some (mn bt235.1 bt237.1, (-1))) else (if bt237.2 < 0 then (some (mn bt235.1 bt237.1, (-1))) else (some (mn bt235.1 bt237.1, mx bt235.2 bt237.2))))))) else (if x18 = 10 then ((clewref05_Lens.f k x0 x235001).bind fun bt241 => ((clewref05_Times.f k bt241.1 x235007).bind fun t243 => ((clewref05_Times.f k bt241.2 x235008).bind fun t244 => (some (t243, t244))))) else (if x18 = 11 then ((clewref05_Lens.f k x0 x235001).bind fun bt245 => (some (bt245.1, bt245.2))) else (if x18 = 17 then ((clewref05_Lens.f k x0 x235001).bind fun bt247 => (some (bt247.1, bt247.2))) else (some (0, 0)))))
def clewref05_Lens.f : Nat → List (S50) → Int → Option (Int × Int)
  | 0, _, _ => none
  | k + 1, l0, a1 => if 0 ≤ a1 then (if a1 < (l0.length : Int) then (if ((rd_T50 l0 a1).f0) = 1 then (some (1, 1)) else (if ((rd_T50 l0 a1).f0) = 12 then (some (0, (-1))) else (if ((rd_T50 l0 a1).f0) = 8 then (clewref05_Lens.j0 k l0 ((rd_T50 l0 a1).f0) (((rd_T50 l0 a1).f0) == 8) ((rd_T50 l0 a1).f0) ((rd_T50 l0 a1).f1) ((rd_T50 l0 a1).f2) ((rd_T50 l0 a1).f3.f0) ((rd_T50 l0 a1).f3.f1) ((rd_T50 l0 a1).f3.f2) ((rd_T50 l0 a1).f3.f3) ((rd_T50 l0 a1).f4) ((rd_T50 l0 a1).f5) ((rd_T50 l0 a1).f6) ((rd_T50 l0 a1).f7) ((rd_T50 l0 a1).f8)) else (clewref05_Lens.j0 k l0 ((rd_T50 l0 a1).f0) (((rd_T50 l0 a1).f0) == 9) ((rd_T50 l0 a1).f0) ((rd_T50 l0 a1).f1) ((rd_T50 l0 a1).f2) ((rd_T50 l0 a1).f3.f0) ((rd_T50 l0 a1).f3.f1) ((rd_T50 l0 a1).f3.f2) ((rd_T50 l0 a1).f3.f3) ((rd_T50 l0 a1).f4) ((rd_T50 l0 a1).f5) ((rd_T50 l0 a1).f6) ((rd_T50 l0 a1).f7) ((rd_T50 l0 a1).f8))))) else (none)) else (none)
end
theorem clewref05_Lens.mono_l : ∀ k, (∀ y0 y1, LeO (clewref05_Lens.f k y0 y1) (clewref05_Lens.f (k + 1) y0 y1)) ∧ (∀ y0 y1 y2 y3 y4 y5 y6 y7 y8 y9 y10 y11 y12 y13 y14, LeO (clewref05_Lens.j0 k y0 y1 y2 y3 y4 y5 y6 y7 y8 y9 y10 y11 y12 y13 y14) (clewref05_Lens.j0 (k + 1) y0 y1 y2 y3 y4 y5 y6 y7 y8 y9 y10 y11 y12 y13 y14))
  | 0 => ⟨fun _ _ r h => by simp [clewref05_Lens.f] at h, fun _ _ _ _ _ _ _ _ _ _ _ _ _ _ _ r h => by simp [clewref05_Lens.j0] at h⟩
  | k + 1 => by
    obtain ⟨ih0, ih1⟩ := clewref05_Lens.mono_l k
    refine ⟨?_, ?_⟩
    · intro y0 y1
      unfold clewref05_Lens.f
      repeat' first
      | (with_reducible exact ih0 _ _)
      | (with_reducible exact ih1 _ _ _ _ _ _ _ _ _ _ _ _ _ _ _)
      | (with_reducible exact clewref05_Times.mono _ _ _)
      | (with_reducible exact LeO.refl _)
      | (with_reducible exact LeO.none _)
      | (with_reducible refine LeO.ite ?_ ?_)
      | (with_reducible refine LeO.bind ?_ (fun _ => ?_))
      | exact ih0 _ _
      | exact ih1 _ _ _ _ _ _ _ _ _ _ _ _ _ _ _
      | exact clewref05_Times.mono _ _ _
      | exact LeO.none _
      | refine LeO.ite ?_ ?_
      | refine LeO.bind ?_ (fun _ => ?_)
    · intro y0 y1 y2 y3 y4 y5 y6 y7 y8 y9 y10 y11 y12 y13 y14
      unfold clewref05_Lens.j0
      repeat' first
      | (with_reducible exact ih0 _ _)
      | (with_reducible exact ih1 _ _ _ _ _ _ _ _ _ _ _ _ _ _ _)
      | (with_reducible exact clewref05_Times.mono _ _ _)
      | (with_reducible exact LeO.refl _)
      | (with_reducible exact LeO.none _)
      | (with_reducible refine LeO.ite ?_ ?_)
      | (with_reducible refine LeO.bind ?_ (fun _ => ?_))
      | exact ih0 _ _
      | exact ih1 _ _ _ _ _ _ _ _ _ _ _ _ _ _ _
      | exact clewref05_Times.mono _ _ _
      | exact LeO.none _
      | refine LeO.ite ?_ ?_
      | refine LeO.bind ?_ (fun _ => ?_)
theorem clewref05_Lens.mono : ∀ a0 a1 k, LeO (clewref05_Lens.f k a0 a1) (clewref05_Lens.f (k + 1) a0 a1) := by
  intro a0 a1 k
  obtain ⟨ih0, ih1⟩ := clewref05_Lens.mono_l k
  exact ih0 a0 a1
def clewref05_Lens.T18 : Bool × List (List Nat × List Nat) := (true, [([], []), ([], []), ([1], [1]), ([0, 2], [0, 2]), ([], []), ([], []), ([5], [5]), ([4, 6, 3], [4, 6]), ([3, 7, 0, 1, 2, 3], [3]), ([7, 8, 0, 1, 2, 3, 4, 5, 6, 7, 8], [7])])
def clewref05_Lens.B18 : List Nat := [0, 0, 2, 7, 0, 0, 32, 127, 255, 511]
theorem clewref05_Lens.tab18 : rtab .any (opsOf Try.f33 18) = clewref05_Lens.T18 := by kernel_rfl
theorem clewref05_Lens.bits18 : waitsOk clewref05_Lens.T18.2 clewref05_Lens.B18 = true := by kernel_rfl
set_option maxHeartbeats 8000000 in
set_option maxRecDepth 100000 in
theorem clewref05_Lens.calls (k : Nat) : ∀ (A0 : Option Addr) (c0 : Nat) (l0 : List (S50)) (a1 : Int) (r1 : Int) (r2 : Int) (w : World) (hr0 : Kd.C k50 w A0 l0.length l0) (hc0 : l0.length ≤ c0) (h : clewref05_Lens.f k l0 a1 = some (r1, r2)),
    Calls Try.prog 33 #[.slice A0 l0.length c0, .int .i64 a1] w fun e w' => e = .returned (.tuple #[.int .i64 r1, .int .i64 r2]) ∧ Below w.heap.size w w' := by
  induction k using Nat.strongRecOn with
  | _ k ih =>
  intro A0 c0 l0 a1 r1 r2 w hr0 hc0 h
  cases k with
  | zero => exact absurd h (by simp [clewref05_Lens.f])
  | succ k =>
  simp only [clewref05_Lens.f] at h
  have hu50 := Try.underlying50
  have HR0 := Aside0.mk hr0
  have HC0 := Aside0.mk hc0
  clear hr0 hc0
  have HB := Aside0.mk (Below.refl w.heap.size w)
  have H : (if 0 ≤ a1 then (if a1 < (l0.length : Int) then (if ((rd_T50 l0 a1).f0) = 1 then (some (1, 1)) else (if ((rd_T50 l0 a1).f0) = 12 then (some (0, (-1))) else (if ((rd_T50 l0 a1).f0) = 8 then (clewref05_Lens.j0 k l0 ((rd_T50 l0 a1).f0) (((rd_T50 l0 a1).f0) == 8) ((rd_T50 l0 a1).f0) ((rd_T50 l0 a1).f1) ((rd_T50 l0 a1).f2) ((rd_T50 l0 a1).f3.f0) ((rd_T50 l0 a1).f3.f1) ((rd_T50 l0 a1).f3.f2) ((rd_T50 l0 a1).f3.f3) ((rd_T50 l0 a1).f4) ((rd_T50 l0 a1).f5) ((rd_T50 l0 a1).f6) ((rd_T50 l0 a1).f7) ((rd_T50 l0 a1).f8)) else (clewref05_Lens.j0 k l0 ((rd_T50 l0 a1).f0) (((rd_T50 l0 a1).f0) == 9) ((rd_T50 l0 a1).f0) ((rd_T50 l0 a1).f1) ((rd_T50 l0 a1).f2) ((rd_T50 l0 a1).f3.f0) ((rd_T50 l0 a1).f3.f1) ((rd_T50 l0 a1).f3.f2) ((rd_T50 l0 a1).f3.f3) ((rd_T50 l0 a1).f4) ((rd_T50 l0 a1).f5) ((rd_T50 l0 a1).f6) ((rd_T50 l0 a1).f7) ((rd_T50 l0 a1).f8))))) else (none)) else (none)) = some (r1, r2) := h
  clear h
  by_cases c3 : 0 ≤ a1
  · rw [if_pos c3] at H
    have c3b0 : decide (0 ≤ a1) = true := decide_eq_true c3
    clear c3
    by_cases c4 : a1 < (l0.length : Int)
    · rw [if_pos c4] at H
      have c4b0 : decide (a1 < (l0.length : Int)) = true := decide_eq_true c4
      clear c4
      by_cases c5 : ((rd_T50 l0 a1).f0) = 1
      · rw [if_pos c5] at H
        have c5b0 : (((rd_T50 l0 a1).f0) == 1) = true := beq_iff_eq.mpr c5
        have c5b1 : (((rd_T50 l0 a1).f0) != 1) = false := bne_eq_false_iff_eq.mpr c5
        clear c5
        simp only [Option.some.injEq, Prod.mk.injEq] at H
        obtain ⟨rfl, rfl⟩ := H
        have p233 : 0 ≤ (a1 : Int) := of_decide_eq_true (by first | (with_reducible assumption) | assumption)
        have q233 : a1 < (l0.length : Int) := of_decide_eq_true (by first | (with_reducible assumption) | assumption)
        obtain ⟨ad233, e233, hx233_0, hx233_1, hx233_2, hx233_3, hx233_4, hx233_5, hx233_6, hx233_7, hx233_8, hx233_9, hx233_10, hx233_11⟩ := at_T50 HR0.out a1 p233 q233
        cases e233
        replace p233 := eq_true p233
        replace q233 := eq_true q233
        go_enter Try.func33, Try.ntmps33
        go_wp2_with (first | ((with_reducible refine gate_dst (N := 6) rfl ?_); refine box_event ?hg (N := 6) ?hd (cs := #[.int .i64 0, .int .i64 0, .int .i64 0, .int .u64 0, .int .u64 0, .int .u64 0, .int .u64 0, .int .i64 0, .int .i64 0, .int .i64 0, .int .i64 0, .bool false]) (t := 50) ?hr ?_; (case hd => rfl); (case hg => rfl); (case hr => first | (go_simp; done) | (go_simp; rfl)); intro gb234 hg w6 hbox hb; have n0_ := Aside0.mk (below_step (by repeat (first | (with_reducible first | exact HB.out | apply below_alloc | apply pw_below_drewN | apply below_drew1) | exact HB.out)) hb); have n1_ := Aside0.mk (hbox); have n2_ := Aside0.mk ((by rw [hg]; exact (below_size (by repeat (first | (with_reducible first | exact HB.out | apply below_alloc | apply pw_below_drewN | apply below_drew1) | exact HB.out))) : w.heap.size ≤ gb234)); have n3_ := Aside0.mk ((by rw [hg]; exact (below_size (by repeat (first | (with_reducible first | exact HB.out | apply below_alloc | apply pw_below_drewN | apply below_drew1) | exact HB.out))) : w.heap.size ≤ gb234)); clear HB; have HB := n0_; have BK234 := n1_; have GW234 := n2_; have GE234 := n3_; clear n0_ n1_ n2_ n3_; clear hb hbox hg; have hcz7_0 : w6.cell? ⟨gb234, 0, none⟩ = some (.int .i64 0) := (blk_cell BK234.out 0).trans rfl; have hcz7_1 : w6.cell? ⟨gb234, 1, none⟩ = some (.int .i64 0) := (blk_cell BK234.out 1).trans rfl; have hcz7_2 : w6.cell? ⟨gb234, 2, none⟩ = some (.int .i64 0) := (blk_cell BK234.out 2).trans rfl; have hcz7_3 : w6.cell? ⟨gb234, 3, none⟩ = some (.int .u64 0) := (blk_cell BK234.out 3).trans rfl; have hcz7_4 : w6.cell? ⟨gb234, 4, none⟩ = some (.int .u64 0) := (blk_cell BK234.out 4).trans rfl; have hcz7_5 : w6.cell? ⟨gb234, 5, none⟩ = some (.int .u64 0) := (blk_cell BK234.out 5).trans rfl; have hcz7_6 : w6.cell? ⟨gb234, 6, none⟩ = some (.int .u64 0) := (blk_cell BK234.out 6).trans rfl; have hcz7_7 : w6.cell? ⟨gb234, 7, none⟩ = some (.int .i64 0) := (blk_cell BK234.out 7).trans rfl; have hcz7_8 : w6.cell? ⟨gb234, 8, none⟩ = some (.int .i64 0) := (blk_cell BK234.out 8).trans rfl; have hcz7_9 : w6.cell? ⟨gb234, 9, none⟩ = some (.int .i64 0) := (blk_cell BK234.out 9).trans rfl; have hcz7_10 : w6.cell? ⟨gb234, 10, none⟩ = some (.int .i64 0) := (blk_cell BK234.out 10).trans rfl; have hcz7_11 : w6.cell? ⟨gb234, 11, none⟩ = some (.bool false) := (blk_cell BK234.out 11).trans rfl; have hfz7_0 := blk_frozen BK234.out 0; have hfz7_1 := blk_frozen BK234.out 1; have hfz7_2 := blk_frozen BK234.out 2; have hfz7_3 := blk_frozen BK234.out 3; have hfz7_4 := blk_frozen BK234.out 4; have hfz7_5 := blk_frozen BK234.out 5; have hfz7_6 := blk_frozen BK234.out 6; have hfz7_7 := blk_frozen BK234.out 7; have hfz7_8 := blk_frozen BK234.out 8; have hfz7_9 := blk_frozen BK234.out 9; have hfz7_10 := blk_frozen BK234.out 10; have hfz7_11 := blk_frozen BK234.out 11))
        go_ret2
        exact ⟨by first | rfl | (simp [errW_none, errW_some] <;> rfl) | (simp [*, errW_none, errW_some] <;> rfl), by repeat (first | (with_reducible first | exact HB.out | apply below_alloc | apply pw_below_drewN | apply below_drew1 | refine below_set ?_ GE234.out) | exact HB.out)⟩
      · rw [if_neg c5] at H
        have c5b0 : (((rd_T50 l0 a1).f0) == 1) = false := beq_eq_false_iff_ne.mpr c5
        have c5b1 : (((rd_T50 l0 a1).f0) != 1) = true := bne_iff_ne.mpr c5
        by_cases c8 : ((rd_T50 l0 a1).f0) = 12
        · rw [if_pos c8] at H
          have c8b0 : (((rd_T50 l0 a1).f0) == 12) = true := beq_iff_eq.mpr c8
          have c8b1 : (((rd_T50 l0 a1).f0) != 12) = false := bne_eq_false_iff_eq.mpr c8
          clear c8
          simp only [Option.some.injEq, Prod.mk.injEq] at H
          obtain ⟨rfl, rfl⟩ := H
          have p233 : 0 ≤ (a1 : Int) := of_decide_eq_true (by first | (with_reducible assumption) | assumption)
          have q233 : a1 < (l0.length : Int) := of_decide_eq_true (by first | (with_reducible assumption) | assumption)
          obtain ⟨ad233, e233, hx233_0, hx233_1, hx233_2, hx233_3, hx233_4, hx233_5, hx233_6, hx233_7, hx233_8, hx233_9, hx233_10, hx233_11⟩ := at_T50 HR0.out a1 p233 q233
          cases e233
          replace p233 := eq_true p233
          replace q233 := eq_true q233
          go_enter Try.func33, Try.ntmps33
          go_wp2_with (first | ((with_reducible refine gate_dst (N := 6) rfl ?_); refine box_event ?hg (N := 6) ?hd (cs := #[.int .i64 0, .int .i64 0, .int .i64 0, .int .u64 0, .int .u64 0, .int .u64 0, .int .u64 0, .int .i64 0, .int .i64 0, .int .i64 0, .int .i64 0, .bool false]) (t := 50) ?hr ?_; (case hd => rfl); (case hg => rfl); (case hr => first | (go_simp; done) | (go_simp; rfl)); intro gb234 hg w9 hbox hb; have n0_ := Aside0.mk (below_step (by repeat (first | (with_reducible first | exact HB.out | apply below_alloc | apply pw_below_drewN | apply below_drew1) | exact HB.out)) hb); have n1_ := Aside0.mk (hbox); have n2_ := Aside0.mk ((by rw [hg]; exact (below_size (by repeat (first | (with_reducible first | exact HB.out | apply below_alloc | apply pw_below_drewN | apply below_drew1) | exact HB.out))) : w.heap.size ≤ gb234)); have n3_ := Aside0.mk ((by rw [hg]; exact (below_size (by repeat (first | (with_reducible first | exact HB.out | apply below_alloc | apply pw_below_drewN | apply below_drew1) | exact HB.out))) : w.heap.size ≤ gb234)); clear HB; have HB := n0_; have BK234 := n1_; have GW234 := n2_; have GE234 := n3_; clear n0_ n1_ n2_ n3_; clear hb hbox hg; have hcz10_0 : w9.cell? ⟨gb234, 0, none⟩ = some (.int .i64 0) := (blk_cell BK234.out 0).trans rfl; have hcz10_1 : w9.cell? ⟨gb234, 1, none⟩ = some (.int .i64 0) := (blk_cell BK234.out 1).trans rfl; have hcz10_2 : w9.cell? ⟨gb234, 2, none⟩ = some (.int .i64 0) := (blk_cell BK234.out 2).trans rfl; have hcz10_3 : w9.cell? ⟨gb234, 3, none⟩ = some (.int .u64 0) := (blk_cell BK234.out 3).trans rfl; have hcz10_4 : w9.cell? ⟨gb234, 4, none⟩ = some (.int .u64 0) := (blk_cell BK234.out 4).trans rfl; have hcz10_5 : w9.cell? ⟨gb234, 5, none⟩ = some (.int .u64 0) := (blk_cell BK234.out 5).trans rfl; have hcz10_6 : w9.cell? ⟨gb234, 6, none⟩ = some (.int .u64 0) := (blk_cell BK234.out 6).trans rfl; have hcz10_7 : w9.cell? ⟨gb234, 7, none⟩ = some (.int .i64 0) := (blk_cell BK234.out 7).trans rfl; have hcz10_8 : w9.cell? ⟨gb234, 8, none⟩ = some (.int .i64 0) := (blk_cell BK234.out 8).trans rfl; have hcz10_9 : w9.cell? ⟨gb234, 9, none⟩ = some (.int .i64 0) := (blk_cell BK234.out 9).trans rfl; have hcz10_10 : w9.cell? ⟨gb234, 10, none⟩ = some (.int .i64 0) := (blk_cell BK234.out 10).trans rfl; have hcz10_11 : w9.cell? ⟨gb234, 11, none⟩ = some (.bool false) := (blk_cell BK234.out 11).trans rfl; have hfz10_0 := blk_frozen BK234.out 0; have hfz10_1 := blk_frozen BK234.out 1; have hfz10_2 := blk_frozen BK234.out 2; have hfz10_3 := blk_frozen BK234.out 3; have hfz10_4 := blk_frozen BK234.out 4; have hfz10_5 := blk_frozen BK234.out 5; have hfz10_6 := blk_frozen BK234.out 6; have hfz10_7 := blk_frozen BK234.out 7; have hfz10_8 := blk_frozen BK234.out 8; have hfz10_9 := blk_frozen BK234.out 9; have hfz10_10 := blk_frozen BK234.out 10; have hfz10_11 := blk_frozen BK234.out 11))
          go_ret2
          exact ⟨by first | rfl | (simp [errW_none, errW_some] <;> rfl) | (simp [*, errW_none, errW_some] <;> rfl), by repeat (first | (with_reducible first | exact HB.out | apply below_alloc | apply pw_below_drewN | apply below_drew1 | refine below_set ?_ GE234.out) | exact HB.out)⟩
        · rw [if_neg c8] at H
          have c8b0 : (((rd_T50 l0 a1).f0) == 12) = false := beq_eq_false_iff_ne.mpr c8
          have c8b1 : (((rd_T50 l0 a1).f0) != 12) = true := bne_iff_ne.mpr c8
          have HC11 := Aside0.mk H
          clear H
          have p233 : 0 ≤ (a1 : Int) := of_decide_eq_true (by first | (with_reducible assumption) | assumption)
          have q233 : a1 < (l0.length : Int) := of_decide_eq_true (by first | (with_reducible assumption) | assumption)
          obtain ⟨ad233, e233, hx233_0, hx233_1, hx233_2, hx233_3, hx233_4, hx233_5, hx233_6, hx233_7, hx233_8, hx233_9, hx233_10, hx233_11⟩ := at_T50 HR0.out a1 p233 q233
          cases e233
          replace p233 := eq_true p233
          replace q233 := eq_true q233
          go_enter Try.func33, Try.ntmps33
          go_upto_if 23 with (first | ((with_reducible refine gate_dst (N := 6) rfl ?_); refine box_event ?hg (N := 6) ?hd (cs := #[.int .i64 0, .int .i64 0, .int .i64 0, .int .u64 0, .int .u64 0, .int .u64 0, .int .u64 0, .int .i64 0, .int .i64 0, .int .i64 0, .int .i64 0, .bool false]) (t := 50) ?hr ?_; (case hd => rfl); (case hg => rfl); (case hr => first | (go_simp; done) | (go_simp; rfl)); intro gb234 hg w12 hbox hb; have n0_ := Aside0.mk (below_step (by repeat (first | (with_reducible first | exact HB.out | apply below_alloc | apply pw_below_drewN | apply below_drew1) | exact HB.out)) hb); have n1_ := Aside0.mk (hbox); have n2_ := Aside0.mk ((by rw [hg]; exact (below_size (by repeat (first | (with_reducible first | exact HB.out | apply below_alloc | apply pw_below_drewN | apply below_drew1) | exact HB.out))) : w.heap.size ≤ gb234)); have n3_ := Aside0.mk ((by rw [hg]; exact (below_size (by repeat (first | (with_reducible first | exact HB.out | apply below_alloc | apply pw_below_drewN | apply below_drew1) | exact HB.out))) : w.heap.size ≤ gb234)); clear HB; have HB := n0_; have BK234 := n1_; have GW234 := n2_; have GE234 := n3_; clear n0_ n1_ n2_ n3_; clear hb hbox hg; have hcz13_0 : w12.cell? ⟨gb234, 0, none⟩ = some (.int .i64 0) := (blk_cell BK234.out 0).trans rfl; have hcz13_1 : w12.cell? ⟨gb234, 1, none⟩ = some (.int .i64 0) := (blk_cell BK234.out 1).trans rfl; have hcz13_2 : w12.cell? ⟨gb234, 2, none⟩ = some (.int .i64 0) := (blk_cell BK234.out 2).trans rfl; have hcz13_3 : w12.cell? ⟨gb234, 3, none⟩ = some (.int .u64 0) := (blk_cell BK234.out 3).trans rfl; have hcz13_4 : w12.cell? ⟨gb234, 4, none⟩ = some (.int .u64 0) := (blk_cell BK234.out 4).trans rfl; have hcz13_5 : w12.cell? ⟨gb234, 5, none⟩ = some (.int .u64 0) := (blk_cell BK234.out 5).trans rfl; have hcz13_6 : w12.cell? ⟨gb234, 6, none⟩ = some (.int .u64 0) := (blk_cell BK234.out 6).trans rfl; have hcz13_7 : w12.cell? ⟨gb234, 7, none⟩ = some (.int .i64 0) := (blk_cell BK234.out 7).trans rfl; have hcz13_8 : w12.cell? ⟨gb234, 8, none⟩ = some (.int .i64 0) := (blk_cell BK234.out 8).trans rfl; have hcz13_9 : w12.cell? ⟨gb234, 9, none⟩ = some (.int .i64 0) := (blk_cell BK234.out 9).trans rfl; have hcz13_10 : w12.cell? ⟨gb234, 10, none⟩ = some (.int .i64 0) := (blk_cell BK234.out 10).trans rfl; have hcz13_11 : w12.cell? ⟨gb234, 11, none⟩ = some (.bool false) := (blk_cell BK234.out 11).trans rfl; have hfz13_0 := blk_frozen BK234.out 0; have hfz13_1 := blk_frozen BK234.out 1; have hfz13_2 := blk_frozen BK234.out 2; have hfz13_3 := blk_frozen BK234.out 3; have hfz13_4 := blk_frozen BK234.out 4; have hfz13_5 := blk_frozen BK234.out 5; have hfz13_6 := blk_frozen BK234.out 6; have hfz13_7 := blk_frozen BK234.out 7; have hfz13_8 := blk_frozen BK234.out 8; have hfz13_9 := blk_frozen BK234.out 9; have hfz13_10 := blk_frozen BK234.out 10; have hfz13_11 := blk_frozen BK234.out 11))
          (try simp only [Act.put, List.setIfInBounds_toArray, List.set_cons_zero, List.set_cons_succ])
          go_cut [23] (fun v23 wc => ∃ (kq : Nat) (x23_10 : Bool), v23 = .bool x23_10 ∧ Aside0 (clewref05_Lens.j0 kq l0 ((rd_T50 l0 a1).f0) x23_10 ((rd_T50 l0 a1).f0) ((rd_T50 l0 a1).f1) ((rd_T50 l0 a1).f2) ((rd_T50 l0 a1).f3.f0) ((rd_T50 l0 a1).f3.f1) ((rd_T50 l0 a1).f3.f2) ((rd_T50 l0 a1).f3.f3) ((rd_T50 l0 a1).f4) ((rd_T50 l0 a1).f5) ((rd_T50 l0 a1).f6) ((rd_T50 l0 a1).f7) ((rd_T50 l0 a1).f8) = some (r1, r2)) ∧ Aside0 (kq ≤ k) ∧ Aside0 (wc.heap[gb234]? = some (.cells #[.int .i64 ((rd_T50 l0 a1).f0), .int .i64 ((rd_T50 l0 a1).f1), .int .i64 ((rd_T50 l0 a1).f2), .int .u64 ((rd_T50 l0 a1).f3.f0), .int .u64 ((rd_T50 l0 a1).f3.f1), .int .u64 ((rd_T50 l0 a1).f3.f2), .int .u64 ((rd_T50 l0 a1).f3.f3), .int .i64 ((rd_T50 l0 a1).f4), .int .i64 ((rd_T50 l0 a1).f5), .int .i64 ((rd_T50 l0 a1).f6), .int .i64 ((rd_T50 l0 a1).f7), .bool ((rd_T50 l0 a1).f8)] 50 (0, 0))) ∧ Aside0 (Below w.heap.size w wc))
          case first =>
            have H := HC11.out
            clear HC11
            by_cases c14 : ((rd_T50 l0 a1).f0) = 8
            · rw [if_pos c14] at H
              have c14b0 : (((rd_T50 l0 a1).f0) == 8) = true := beq_iff_eq.mpr c14
              have c14b1 : (((rd_T50 l0 a1).f0) != 8) = false := bne_eq_false_iff_eq.mpr c14
              clear c14
              (first | rw [c14b0] | (simp only [i64_w, i32_w]; rw [c14b0]) | skip)
              have H' := Aside0.mk H
              clear H
              go_wp2
              go_meet
              case rel => exact ⟨_, ((((rd_T50 l0 a1).f0) == 8)), (by first | rfl | (simp; done) | (simp [*]; done)), H', ⟨by first | omega | exact Nat.le_refl _⟩, ⟨by (with_reducible repeat (first | refine blk_drewN ?_ _ | refine blk_drew ?_ | refine blk_alloc ?_ _)); refine blk_put (cs := #[.int .i64 ((rd_T50 l0 a1).f0), .int .i64 ((rd_T50 l0 a1).f1), .int .i64 ((rd_T50 l0 a1).f2), .int .u64 ((rd_T50 l0 a1).f3.f0), .int .u64 ((rd_T50 l0 a1).f3.f1), .int .u64 ((rd_T50 l0 a1).f3.f2), .int .u64 ((rd_T50 l0 a1).f3.f3), .int .i64 ((rd_T50 l0 a1).f4), .int .i64 ((rd_T50 l0 a1).f5), .int .i64 ((rd_T50 l0 a1).f6), .int .i64 ((rd_T50 l0 a1).f7), .bool false]) ?_ 11 _ rfl; (with_reducible repeat (first | refine blk_drewN ?_ _ | refine blk_drew ?_ | refine blk_alloc ?_ _)); refine blk_put (cs := #[.int .i64 ((rd_T50 l0 a1).f0), .int .i64 ((rd_T50 l0 a1).f1), .int .i64 ((rd_T50 l0 a1).f2), .int .u64 ((rd_T50 l0 a1).f3.f0), .int .u64 ((rd_T50 l0 a1).f3.f1), .int .u64 ((rd_T50 l0 a1).f3.f2), .int .u64 ((rd_T50 l0 a1).f3.f3), .int .i64 ((rd_T50 l0 a1).f4), .int .i64 ((rd_T50 l0 a1).f5), .int .i64 ((rd_T50 l0 a1).f6), .int .i64 0, .bool false]) ?_ 10 _ rfl; (with_reducible repeat (first | refine blk_drewN ?_ _ | refine blk_drew ?_ | refine blk_alloc ?_ _)); refine blk_put (cs := #[.int .i64 ((rd_T50 l0 a1).f0), .int .i64 ((rd_T50 l0 a1).f1), .int .i64 ((rd_T50 l0 a1).f2), .int .u64 ((rd_T50 l0 a1).f3.f0), .int .u64 ((rd_T50 l0 a1).f3.f1), .int .u64 ((rd_T50 l0 a1).f3.f2), .int .u64 ((rd_T50 l0 a1).f3.f3), .int .i64 ((rd_T50 l0 a1).f4), .int .i64 ((rd_T50 l0 a1).f5), .int .i64 0, .int .i64 0, .bool false]) ?_ 9 _ rfl; (with_reducible repeat (first | refine blk_drewN ?_ _ | refine blk_drew ?_ | refine blk_alloc ?_ _)); refine blk_put (cs := #[.int .i64 ((rd_T50 l0 a1).f0), .int .i64 ((rd_T50 l0 a1).f1), .int .i64 ((rd_T50 l0 a1).f2), .int .u64 ((rd_T50 l0 a1).f3.f0), .int .u64 ((rd_T50 l0 a1).f3.f1), .int .u64 ((rd_T50 l0 a1).f3.f2), .int .u64 ((rd_T50 l0 a1).f3.f3), .int .i64 ((rd_T50 l0 a1).f4), .int .i64 0, .int .i64 0, .int .i64 0, .bool false]) ?_ 8 _ rfl; (with_reducible repeat (first | refine blk_drewN ?_ _ | refine blk_drew ?_ | refine blk_alloc ?_ _)); refine blk_put (cs := #[.int .i64 ((rd_T50 l0 a1).f0), .int .i64 ((rd_T50 l0 a1).f1), .int .i64 ((rd_T50 l0 a1).f2), .int .u64 ((rd_T50 l0 a1).f3.f0), .int .u64 ((rd_T50 l0 a1).f3.f1), .int .u64 ((rd_T50 l0 a1).f3.f2), .int .u64 ((rd_T50 l0 a1).f3.f3), .int .i64 0, .int .i64 0, .int .i64 0, .int .i64 0, .bool false]) ?_ 7 _ rfl; (with_reducible repeat (first | refine blk_drewN ?_ _ | refine blk_drew ?_ | refine blk_alloc ?_ _)); refine blk_put (cs := #[.int .i64 ((rd_T50 l0 a1).f0), .int .i64 ((rd_T50 l0 a1).f1), .int .i64 ((rd_T50 l0 a1).f2), .int .u64 ((rd_T50 l0 a1).f3.f0), .int .u64 ((rd_T50 l0 a1).f3.f1), .int .u64 ((rd_T50 l0 a1).f3.f2), .int .u64 0, .int .i64 0, .int .i64 0, .int .i64 0, .int .i64 0, .bool false]) ?_ 6 _ rfl; (with_reducible repeat (first | refine blk_drewN ?_ _ | refine blk_drew ?_ | refine blk_alloc ?_ _)); refine blk_put (cs := #[.int .i64 ((rd_T50 l0 a1).f0), .int .i64 ((rd_T50 l0 a1).f1), .int .i64 ((rd_T50 l0 a1).f2), .int .u64 ((rd_T50 l0 a1).f3.f0), .int .u64 ((rd_T50 l0 a1).f3.f1), .int .u64 0, .int .u64 0, .int .i64 0, .int .i64 0, .int .i64 0, .int .i64 0, .bool false]) ?_ 5 _ rfl; (with_reducible repeat (first | refine blk_drewN ?_ _ | refine blk_drew ?_ | refine blk_alloc ?_ _)); refine blk_put (cs := #[.int .i64 ((rd_T50 l0 a1).f0), .int .i64 ((rd_T50 l0 a1).f1), .int .i64 ((rd_T50 l0 a1).f2), .int .u64 ((rd_T50 l0 a1).f3.f0), .int .u64 0, .int .u64 0, .int .u64 0, .int .i64 0, .int .i64 0, .int .i64 0, .int .i64 0, .bool false]) ?_ 4 _ rfl; (with_reducible repeat (first | refine blk_drewN ?_ _ | refine blk_drew ?_ | refine blk_alloc ?_ _)); refine blk_put (cs := #[.int .i64 ((rd_T50 l0 a1).f0), .int .i64 ((rd_T50 l0 a1).f1), .int .i64 ((rd_T50 l0 a1).f2), .int .u64 0, .int .u64 0, .int .u64 0, .int .u64 0, .int .i64 0, .int .i64 0, .int .i64 0, .int .i64 0, .bool false]) ?_ 3 _ rfl; (with_reducible repeat (first | refine blk_drewN ?_ _ | refine blk_drew ?_ | refine blk_alloc ?_ _)); refine blk_put (cs := #[.int .i64 ((rd_T50 l0 a1).f0), .int .i64 ((rd_T50 l0 a1).f1), .int .i64 0, .int .u64 0, .int .u64 0, .int .u64 0, .int .u64 0, .int .i64 0, .int .i64 0, .int .i64 0, .int .i64 0, .bool false]) ?_ 2 _ rfl; (with_reducible repeat (first | refine blk_drewN ?_ _ | refine blk_drew ?_ | refine blk_alloc ?_ _)); refine blk_put (cs := #[.int .i64 ((rd_T50 l0 a1).f0), .int .i64 0, .int .i64 0, .int .u64 0, .int .u64 0, .int .u64 0, .int .u64 0, .int .i64 0, .int .i64 0, .int .i64 0, .int .i64 0, .bool false]) ?_ 1 _ rfl; (with_reducible repeat (first | refine blk_drewN ?_ _ | refine blk_drew ?_ | refine blk_alloc ?_ _)); refine blk_put (cs := #[.int .i64 0, .int .i64 0, .int .i64 0, .int .u64 0, .int .u64 0, .int .u64 0, .int .u64 0, .int .i64 0, .int .i64 0, .int .i64 0, .int .i64 0, .bool false]) ?_ 0 _ rfl; (with_reducible repeat (first | refine blk_drewN ?_ _ | refine blk_drew ?_ | refine blk_alloc ?_ _)); exact BK234.out⟩, ⟨by repeat (first | (with_reducible first | exact HB.out | apply below_alloc | apply pw_below_drewN | apply below_drew1 | refine below_set ?_ GE234.out) | exact HB.out)⟩⟩
            · rw [if_neg c14] at H
              have c14b0 : (((rd_T50 l0 a1).f0) == 8) = false := beq_eq_false_iff_ne.mpr c14
              have c14b1 : (((rd_T50 l0 a1).f0) != 8) = true := bne_iff_ne.mpr c14
              (first | rw [c14b0] | (simp only [i64_w, i32_w]; rw [c14b0]) | skip)
              have H' := Aside0.mk H
              clear H
              go_wp2
              go_meet
              case rel => exact ⟨_, ((((rd_T50 l0 a1).f0) == 9)), (by first | rfl | (simp; done) | (simp [*]; done)), H', ⟨by first | omega | exact Nat.le_refl _⟩, ⟨by (with_reducible repeat (first | refine blk_drewN ?_ _ | refine blk_drew ?_ | refine blk_alloc ?_ _)); refine blk_put (cs := #[.int .i64 ((rd_T50 l0 a1).f0), .int .i64 ((rd_T50 l0 a1).f1), .int .i64 ((rd_T50 l0 a1).f2), .int .u64 ((rd_T50 l0 a1).f3.f0), .int .u64 ((rd_T50 l0 a1).f3.f1), .int .u64 ((rd_T50 l0 a1).f3.f2), .int .u64 ((rd_T50 l0 a1).f3.f3), .int .i64 ((rd_T50 l0 a1).f4), .int .i64 ((rd_T50 l0 a1).f5), .int .i64 ((rd_T50 l0 a1).f6), .int .i64 ((rd_T50 l0 a1).f7), .bool false]) ?_ 11 _ rfl; (with_reducible repeat (first | refine blk_drewN ?_ _ | refine blk_drew ?_ | refine blk_alloc ?_ _)); refine blk_put (cs := #[.int .i64 ((rd_T50 l0 a1).f0), .int .i64 ((rd_T50 l0 a1).f1), .int .i64 ((rd_T50 l0 a1).f2), .int .u64 ((rd_T50 l0 a1).f3.f0), .int .u64 ((rd_T50 l0 a1).f3.f1), .int .u64 ((rd_T50 l0 a1).f3.f2), .int .u64 ((rd_T50 l0 a1).f3.f3), .int .i64 ((rd_T50 l0 a1).f4), .int .i64 ((rd_T50 l0 a1).f5), .int .i64 ((rd_T50 l0 a1).f6), .int .i64 0, .bool false]) ?_ 10 _ rfl; (with_reducible repeat (first | refine blk_drewN ?_ _ | refine blk_drew ?_ | refine blk_alloc ?_ _)); refine blk_put (cs := #[.int .i64 ((rd_T50 l0 a1).f0), .int .i64 ((rd_T50 l0 a1).f1), .int .i64 ((rd_T50 l0 a1).f2), .int .u64 ((rd_T50 l0 a1).f3.f0), .int .u64 ((rd_T50 l0 a1).f3.f1), .int .u64 ((rd_T50 l0 a1).f3.f2), .int .u64 ((rd_T50 l0 a1).f3.f3), .int .i64 ((rd_T50 l0 a1).f4), .int .i64 ((rd_T50 l0 a1).f5), .int .i64 0, .int .i64 0, .bool false]) ?_ 9 _ rfl; (with_reducible repeat (first | refine blk_drewN ?_ _ | refine blk_drew ?_ | refine blk_alloc ?_ _)); refine blk_put (cs := #[.int .i64 ((rd_T50 l0 a1).f0), .int .i64 ((rd_T50 l0 a1).f1), .int .i64 ((rd_T50 l0 a1).f2), .int .u64 ((rd_T50 l0 a1).f3.f0), .int .u64 ((rd_T50 l0 a1).f3.f1), .int .u64 ((rd_T50 l0 a1).f3.f2), .int .u64 ((rd_T50 l0 a1).f3.f3), .int .i64 ((rd_T50 l0 a1).f4), .int .i64 0, .int .i64 0, .int .i64 0, .bool false]) ?_ 8 _ rfl; (with_reducible repeat (first | refine blk_drewN ?_ _ | refine blk_drew ?_ | refine blk_alloc ?_ _)); refine blk_put (cs := #[.int .i64 ((rd_T50 l0 a1).f0), .int .i64 ((rd_T50 l0 a1).f1), .int .i64 ((rd_T50 l0 a1).f2), .int .u64 ((rd_T50 l0 a1).f3.f0), .int .u64 ((rd_T50 l0 a1).f3.f1), .int .u64 ((rd_T50 l0 a1).f3.f2), .int .u64 ((rd_T50 l0 a1).f3.f3), .int .i64 0, .int .i64 0, .int .i64 0, .int .i64 0, .bool false]) ?_ 7 _ rfl; (with_reducible repeat (first | refine blk_drewN ?_ _ | refine blk_drew ?_ | refine blk_alloc ?_ _)); refine blk_put (cs := #[.int .i64 ((rd_T50 l0 a1).f0), .int .i64 ((rd_T50 l0 a1).f1), .int .i64 ((rd_T50 l0 a1).f2), .int .u64 ((rd_T50 l0 a1).f3.f0), .int .u64 ((rd_T50 l0 a1).f3.f1), .int .u64 ((rd_T50 l0 a1).f3.f2), .int .u64 0, .int .i64 0, .int .i64 0, .int .i64 0, .int .i64 0, .bool false]) ?_ 6 _ rfl; (with_reducible repeat (first | refine blk_drewN ?_ _ | refine blk_drew ?_ | refine blk_alloc ?_ _)); refine blk_put (cs := #[.int .i64 ((rd_T50 l0 a1).f0), .int .i64 ((rd_T50 l0 a1).f1), .int .i64 ((rd_T50 l0 a1).f2), .int .u64 ((rd_T50 l0 a1).f3.f0), .int .u64 ((rd_T50 l0 a1).f3.f1), .int .u64 0, .int .u64 0, .int .i64 0, .int .i64 0, .int .i64 0, .int .i64 0, .bool false]) ?_ 5 _ rfl; (with_reducible repeat (first | refine blk_drewN ?_ _ | refine blk_drew ?_ | refine blk_alloc ?_ _)); refine blk_put (cs := #[.int .i64 ((rd_T50 l0 a1).f0), .int .i64 ((rd_T50 l0 a1).f1), .int .i64 ((rd_T50 l0 a1).f2), .int .u64 ((rd_T50 l0 a1).f3.f0), .int .u64 0, .int .u64 0, .int .u64 0, .int .i64 0, .int .i64 0, .int .i64 0, .int .i64 0, .bool false]) ?_ 4 _ rfl; (with_reducible repeat (first | refine blk_drewN ?_ _ | refine blk_drew ?_ | refine blk_alloc ?_ _)); refine blk_put (cs := #[.int .i64 ((rd_T50 l0 a1).f0), .int .i64 ((rd_T50 l0 a1).f1), .int .i64 ((rd_T50 l0 a1).f2), .int .u64 0, .int .u64 0, .int .u64 0, .int .u64 0, .int .i64 0, .int .i64 0, .int .i64 0, .int .i64 0, .bool false]) ?_ 3 _ rfl; (with_reducible repeat (first | refine blk_drewN ?_ _ | refine blk_drew ?_ | refine blk_alloc ?_ _)); refine blk_put (cs := #[.int .i64 ((rd_T50 l0 a1).f0), .int .i64 ((rd_T50 l0 a1).f1), .int .i64 0, .int .u64 0, .int .u64 0, .int .u64 0, .int .u64 0, .int .i64 0, .int .i64 0, .int .i64 0, .int .i64 0, .bool false]) ?_ 2 _ rfl; (with_reducible repeat (first | refine blk_drewN ?_ _ | refine blk_drew ?_ | refine blk_alloc ?_ _)); refine blk_put (cs := #[.int .i64 ((rd_T50 l0 a1).f0), .int .i64 0, .int .i64 0, .int .u64 0, .int .u64 0, .int .u64 0, .int .u64 0, .int .i64 0, .int .i64 0, .int .i64 0, .int .i64 0, .bool false]) ?_ 1 _ rfl; (with_reducible repeat (first | refine blk_drewN ?_ _ | refine blk_drew ?_ | refine blk_alloc ?_ _)); refine blk_put (cs := #[.int .i64 0, .int .i64 0, .int .i64 0, .int .u64 0, .int .u64 0, .int .u64 0, .int .u64 0, .int .i64 0, .int .i64 0, .int .i64 0, .int .i64 0, .bool false]) ?_ 0 _ rfl; (with_reducible repeat (first | refine blk_drewN ?_ _ | refine blk_drew ?_ | refine blk_alloc ?_ _)); exact BK234.out⟩, ⟨by repeat (first | (with_reducible first | exact HB.out | apply below_alloc | apply pw_below_drewN | apply below_drew1 | refine below_set ?_ GE234.out) | exact HB.out)⟩⟩
          case rest =>
            clear HC11
            try clear c1
            try clear p2
            try clear q2
            try clear hx2
            try clear c3
            try clear c3b0
            try clear c4
            try clear c4b0
            try clear c5
            try clear c5b0
            try clear c5b1
            try clear c8
            try clear c8b0
            try clear c8b1
            try clear c14
            try clear c14b0
            try clear c14b1
            try clear hcz10_0
            try clear hcz10_1
            try clear hcz10_10
            try clear hcz10_11
            try clear hcz10_2
            try clear hcz10_3
            try clear hcz10_4
            try clear hcz10_5
            try clear hcz10_6
            try clear hcz10_7
            try clear hcz10_8
            try clear hcz10_9
            try clear hcz13_0
            try clear hcz13_1
            try clear hcz13_10
            try clear hcz13_11
            try clear hcz13_2
            try clear hcz13_3
            try clear hcz13_4
            try clear hcz13_5
            try clear hcz13_6
            try clear hcz13_7
            try clear hcz13_8
            try clear hcz13_9
            try clear hcz7_0
            try clear hcz7_1
            try clear hcz7_10
            try clear hcz7_11
            try clear hcz7_2
            try clear hcz7_3
            try clear hcz7_4
            try clear hcz7_5
            try clear hcz7_6
            try clear hcz7_7
            try clear hcz7_8
            try clear hcz7_9
            try clear hfz10_0
            try clear hfz10_1
            try clear hfz10_10
            try clear hfz10_11
            try clear hfz10_2
            try clear hfz10_3
            try clear hfz10_4
            try clear hfz10_5
            try clear hfz10_6
            try clear hfz10_7
            try clear hfz10_8
            try clear hfz10_9
            try clear hfz13_0
            try clear hfz13_1
            try clear hfz13_10
            try clear hfz13_11
            try clear hfz13_2
            try clear hfz13_3
            try clear hfz13_4
            try clear hfz13_5
            try clear hfz13_6
            try clear hfz13_7
            try clear hfz13_8
            try clear hfz13_9
            try clear hfz7_0
            try clear hfz7_1
            try clear hfz7_10
            try clear hfz7_11
            try clear hfz7_2
            try clear hfz7_3
            try clear hfz7_4
            try clear hfz7_5
            try clear hfz7_6
            try clear hfz7_7
            try clear hfz7_8
            try clear hfz7_9
            try clear hx233_0
            try clear hx233_1
            try clear hx233_10
            try clear hx233_11
            try clear hx233_2
            try clear hx233_3
            try clear hx233_4
            try clear hx233_5
            try clear hx233_6
            try clear hx233_7
            try clear hx233_8
            try clear hx233_9
            try clear p233
            try clear q233
            obtain ⟨kq, x23_10, rfl, HA, HJ10, BK234, HB⟩ := hcut
            cases kq with
            | zero => exact absurd HA.out (by simp [clewref05_Lens.j0])
            | succ kj10 =>
              have H := HA.out
              clear HA
              simp only [clewref05_Lens.j0] at H
              by_cases c15 : x23_10 = true
              · subst c15
                have H1 : ((clewref05_Lens.f kj10 l0 ((rd_T50 l0 a1).f1)).bind fun bt235 => ((clewref05_Lens.f kj10 l0 ((rd_T50 l0 a1).f2)).bind fun bt237 => (if ((rd_T50 l0 a1).f0) = 8 then ((clewref05_Plus.f bt235.1 bt237.1).bind fun t239 => ((clewref05_Plus.f bt235.2 bt237.2).bind fun t240 => (some (t239, t240)))) else (if bt235.2 < 0 then (some (mn bt235.1 bt237.1, (-1))) else (if bt237.2 < 0 then (some (mn bt235.1 bt237.1, (-1))) else (some (mn bt235.1 bt237.1, mx bt235.2 bt237.2))))))) = some (r1, r2) := by rw [if_pos rfl] at H; exact H
                clear H
                have H := H1
                clear H1
                replace H := Option.bind_eq_some_iff.mp H
                obtain ⟨⟨t235, t236⟩, A160, H⟩ := H
                replace H : ((clewref05_Lens.f kj10 l0 ((rd_T50 l0 a1).f2)).bind fun bt237 => (if ((rd_T50 l0 a1).f0) = 8 then ((clewref05_Plus.f t235 bt237.1).bind fun t239 => ((clewref05_Plus.f t236 bt237.2).bind fun t240 => (some (t239, t240)))) else (if t236 < 0 then (some (mn t235 bt237.1, (-1))) else (if bt237.2 < 0 then (some (mn t235 bt237.1, (-1))) else (some (mn t235 bt237.1, mx t236 bt237.2)))))) = some (r1, r2) := H
                have A16 := Aside0.mk A160
                clear A160
                replace H := Option.bind_eq_some_iff.mp H
                obtain ⟨⟨t237, t238⟩, A170, H⟩ := H
                replace H : (if ((rd_T50 l0 a1).f0) = 8 then ((clewref05_Plus.f t235 t237).bind fun t239 => ((clewref05_Plus.f t236 t238).bind fun t240 => (some (t239, t240)))) else (if t236 < 0 then (some (mn t235 t237, (-1))) else (if t238 < 0 then (some (mn t235 t237, (-1))) else (some (mn t235 t237, mx t236 t238))))) = some (r1, r2) := H
                have A17 := Aside0.mk A170
                clear A170
                by_cases c18 : ((rd_T50 l0 a1).f0) = 8
                · rw [if_pos c18] at H
                  have c18b0 : (((rd_T50 l0 a1).f0) == 8) = true := beq_iff_eq.mpr c18
                  have c18b1 : (((rd_T50 l0 a1).f0) != 8) = false := bne_eq_false_iff_eq.mpr c18
                  clear c18
                  replace H := Option.bind_eq_some_iff.mp H
                  obtain ⟨t239, A190, H⟩ := H
                  replace H : ((clewref05_Plus.f t236 t238).bind fun t240 => (some (t239, t240))) = some (r1, r2) := H
                  have A19 := Aside0.mk A190
                  clear A190
                  replace H := Option.bind_eq_some_iff.mp H
                  obtain ⟨t240, A200, H⟩ := H
                  replace H : (some (t239, t240)) = some (r1, r2) := H
                  have A20 := Aside0.mk A200
                  clear A200
                  simp only [Option.some.injEq, Prod.mk.injEq] at H
                  obtain ⟨rfl, rfl⟩ := H
                  have hcz21_0 : wc.cell? ⟨gb234, 0, none⟩ = some (.int .i64 ((rd_T50 l0 a1).f0)) := (blk_cell BK234.out 0).trans rfl
                  have hcz21_1 : wc.cell? ⟨gb234, 1, none⟩ = some (.int .i64 ((rd_T50 l0 a1).f1)) := (blk_cell BK234.out 1).trans rfl
                  have hcz21_2 : wc.cell? ⟨gb234, 2, none⟩ = some (.int .i64 ((rd_T50 l0 a1).f2)) := (blk_cell BK234.out 2).trans rfl
                  have hcz21_3 : wc.cell? ⟨gb234, 3, none⟩ = some (.int .u64 ((rd_T50 l0 a1).f3.f0)) := (blk_cell BK234.out 3).trans rfl
                  have hcz21_4 : wc.cell? ⟨gb234, 4, none⟩ = some (.int .u64 ((rd_T50 l0 a1).f3.f1)) := (blk_cell BK234.out 4).trans rfl
                  have hcz21_5 : wc.cell? ⟨gb234, 5, none⟩ = some (.int .u64 ((rd_T50 l0 a1).f3.f2)) := (blk_cell BK234.out 5).trans rfl
                  have hcz21_6 : wc.cell? ⟨gb234, 6, none⟩ = some (.int .u64 ((rd_T50 l0 a1).f3.f3)) := (blk_cell BK234.out 6).trans rfl
                  have hcz21_7 : wc.cell? ⟨gb234, 7, none⟩ = some (.int .i64 ((rd_T50 l0 a1).f4)) := (blk_cell BK234.out 7).trans rfl
                  have hcz21_8 : wc.cell? ⟨gb234, 8, none⟩ = some (.int .i64 ((rd_T50 l0 a1).f5)) := (blk_cell BK234.out 8).trans rfl
                  have hcz21_9 : wc.cell? ⟨gb234, 9, none⟩ = some (.int .i64 ((rd_T50 l0 a1).f6)) := (blk_cell BK234.out 9).trans rfl
                  have hcz21_10 : wc.cell? ⟨gb234, 10, none⟩ = some (.int .i64 ((rd_T50 l0 a1).f7)) := (blk_cell BK234.out 10).trans rfl
                  have hcz21_11 : wc.cell? ⟨gb234, 11, none⟩ = some (.bool ((rd_T50 l0 a1).f8)) := (blk_cell BK234.out 11).trans rfl
                  have hfz21_0 := blk_frozen BK234.out 0
                  have hfz21_1 := blk_frozen BK234.out 1
                  have hfz21_2 := blk_frozen BK234.out 2
                  have hfz21_3 := blk_frozen BK234.out 3
                  have hfz21_4 := blk_frozen BK234.out 4
                  have hfz21_5 := blk_frozen BK234.out 5
                  have hfz21_6 := blk_frozen BK234.out 6
                  have hfz21_7 := blk_frozen BK234.out 7
                  have hfz21_8 := blk_frozen BK234.out 8
                  have hfz21_9 := blk_frozen BK234.out 9
                  have hfz21_10 := blk_frozen BK234.out 10
                  have hfz21_11 := blk_frozen BK234.out 11
                  go_wp2_with (first | ((with_reducible refine gate_callee (f := 33) rfl ?_); refine goesL_ (some 30) rfl rfl Try.func33 (by kernel_rfl) rfl #[.slice (some ad233) l0.length c0, .int .i64 ((rd_T50 l0 a1).f1)] rfl (by (try simp only [List.map_toArray, List.map_cons, List.map_nil]); first | done | rfl | (simp only [List.length_drop, List.length_take]; rfl)) ?_; (with_reducible refine (ih kj10 (by have := HJ10.out; omega) _ _ l0 ((rd_T50 l0 a1).f1) t235 t236 _ ?side1 ?side2 A16.out).mono ?_); (case side1 => repeat (first | exact (Kd.C_below HR0.out HB.out) | (with_reducible refine Kd.C_alloc ?_ _) | (with_reducible refine Kd.C_drewN ?_ _) | (with_reducible refine Kd.C_drew ?_))); (case side2 => exact HC0.out); rintro e w22 ⟨rfl, hb⟩; refine ⟨_, rfl, ?_⟩; have n0_ := Aside0.mk (blk_below (g := gb234) (o := .cells #[.int .i64 ((rd_T50 l0 a1).f0), .int .i64 ((rd_T50 l0 a1).f1), .int .i64 ((rd_T50 l0 a1).f2), .int .u64 ((rd_T50 l0 a1).f3.f0), .int .u64 ((rd_T50 l0 a1).f3.f1), .int .u64 ((rd_T50 l0 a1).f3.f2), .int .u64 ((rd_T50 l0 a1).f3.f3), .int .i64 ((rd_T50 l0 a1).f4), .int .i64 ((rd_T50 l0 a1).f5), .int .i64 ((rd_T50 l0 a1).f6), .int .i64 ((rd_T50 l0 a1).f7), .bool ((rd_T50 l0 a1).f8)] 50 (0, 0)) (by (with_reducible repeat (first | refine blk_drewN ?_ _ | refine blk_drew ?_ | refine blk_alloc ?_ _)); exact BK234.out) hb); have n1_ := Aside0.mk (below_step (by repeat (first | (with_reducible first | exact HB.out | apply below_alloc | apply pw_below_drewN | apply below_drew1 | refine below_set ?_ GE234.out) | exact HB.out)) hb); clear BK234; clear HB; have BK234 := n0_; have HB := n1_; clear n0_ n1_; (try clear hb); (try clear hb2); (try clear hk); (try clear hi); have hcz23_0 : w22.cell? ⟨gb234, 0, none⟩ = some (.int .i64 ((rd_T50 l0 a1).f0)) := (blk_cell BK234.out 0).trans rfl; have hcz23_1 : w22.cell? ⟨gb234, 1, none⟩ = some (.int .i64 ((rd_T50 l0 a1).f1)) := (blk_cell BK234.out 1).trans rfl; have hcz23_2 : w22.cell? ⟨gb234, 2, none⟩ = some (.int .i64 ((rd_T50 l0 a1).f2)) := (blk_cell BK234.out 2).trans rfl; have hcz23_3 : w22.cell? ⟨gb234, 3, none⟩ = some (.int .u64 ((rd_T50 l0 a1).f3.f0)) := (blk_cell BK234.out 3).trans rfl; have hcz23_4 : w22.cell? ⟨gb234, 4, none⟩ = some (.int .u64 ((rd_T50 l0 a1).f3.f1)) := (blk_cell BK234.out 4).trans rfl; have hcz23_5 : w22.cell? ⟨gb234, 5, none⟩ = some (.int .u64 ((rd_T50 l0 a1).f3.f2)) := (blk_cell BK234.out 5).trans rfl; have hcz23_6 : w22.cell? ⟨gb234, 6, none⟩ = some (.int .u64 ((rd_T50 l0 a1).f3.f3)) := (blk_cell BK234.out 6).trans rfl; have hcz23_7 : w22.cell? ⟨gb234, 7, none⟩ = some (.int .i64 ((rd_T50 l0 a1).f4)) := (blk_cell BK234.out 7).trans rfl; have hcz23_8 : w22.cell? ⟨gb234, 8, none⟩ = some (.int .i64 ((rd_T50 l0 a1).f5)) := (blk_cell BK234.out 8).trans rfl; have hcz23_9 : w22.cell? ⟨gb234, 9, none⟩ = some (.int .i64 ((rd_T50 l0 a1).f6)) := (blk_cell BK234.out 9).trans rfl; have hcz23_10 : w22.cell? ⟨gb234, 10, none⟩ = some (.int .i64 ((rd_T50 l0 a1).f7)) := (blk_cell BK234.out 10).trans rfl; have hcz23_11 : w22.cell? ⟨gb234, 11, none⟩ = some (.bool ((rd_T50 l0 a1).f8)) := (blk_cell BK234.out 11).trans rfl; have hfz23_0 := blk_frozen BK234.out 0; have hfz23_1 := blk_frozen BK234.out 1; have hfz23_2 := blk_frozen BK234.out 2; have hfz23_3 := blk_frozen BK234.out 3; have hfz23_4 := blk_frozen BK234.out 4; have hfz23_5 := blk_frozen BK234.out 5; have hfz23_6 := blk_frozen BK234.out 6; have hfz23_7 := blk_frozen BK234.out 7; have hfz23_8 := blk_frozen BK234.out 8; have hfz23_9 := blk_frozen BK234.out 9; have hfz23_10 := blk_frozen BK234.out 10; have hfz23_11 := blk_frozen BK234.out 11) | ((with_reducible refine gate_callee (f := 33) rfl ?_); refine goesL_ (some 37) rfl rfl Try.func33 (by kernel_rfl) rfl #[.slice (some ad233) l0.length c0, .int .i64 ((rd_T50 l0 a1).f2)] rfl (by (try simp only [List.map_toArray, List.map_cons, List.map_nil]); first | done | rfl | (simp only [List.length_drop, List.length_take]; rfl)) ?_; (with_reducible refine (ih kj10 (by have := HJ10.out; omega) _ _ l0 ((rd_T50 l0 a1).f2) t237 t238 _ ?side1 ?side2 A17.out).mono ?_); (case side1 => repeat (first | exact (Kd.C_below HR0.out HB.out) | (with_reducible refine Kd.C_alloc ?_ _) | (with_reducible refine Kd.C_drewN ?_ _) | (with_reducible refine Kd.C_drew ?_))); (case side2 => exact HC0.out); rintro e w24 ⟨rfl, hb⟩; refine ⟨_, rfl, ?_⟩; have n0_ := Aside0.mk (blk_below (g := gb234) (o := .cells #[.int .i64 ((rd_T50 l0 a1).f0), .int .i64 ((rd_T50 l0 a1).f1), .int .i64 ((rd_T50 l0 a1).f2), .int .u64 ((rd_T50 l0 a1).f3.f0), .int .u64 ((rd_T50 l0 a1).f3.f1), .int .u64 ((rd_T50 l0 a1).f3.f2), .int .u64 ((rd_T50 l0 a1).f3.f3), .int .i64 ((rd_T50 l0 a1).f4), .int .i64 ((rd_T50 l0 a1).f5), .int .i64 ((rd_T50 l0 a1).f6), .int .i64 ((rd_T50 l0 a1).f7), .bool ((rd_T50 l0 a1).f8)] 50 (0, 0)) (by (with_reducible repeat (first | refine blk_drewN ?_ _ | refine blk_drew ?_ | refine blk_alloc ?_ _)); exact BK234.out) hb); have n1_ := Aside0.mk (below_step (by repeat (first | (with_reducible first | exact HB.out | apply below_alloc | apply pw_below_drewN | apply below_drew1 | refine below_set ?_ GE234.out) | exact HB.out)) hb); clear BK234; clear HB; have BK234 := n0_; have HB := n1_; clear n0_ n1_; (try clear hb); (try clear hb2); (try clear hk); (try clear hi); have hcz25_0 : w24.cell? ⟨gb234, 0, none⟩ = some (.int .i64 ((rd_T50 l0 a1).f0)) := (blk_cell BK234.out 0).trans rfl; have hcz25_1 : w24.cell? ⟨gb234, 1, none⟩ = some (.int .i64 ((rd_T50 l0 a1).f1)) := (blk_cell BK234.out 1).trans rfl; have hcz25_2 : w24.cell? ⟨gb234, 2, none⟩ = some (.int .i64 ((rd_T50 l0 a1).f2)) := (blk_cell BK234.out 2).trans rfl; have hcz25_3 : w24.cell? ⟨gb234, 3, none⟩ = some (.int .u64 ((rd_T50 l0 a1).f3.f0)) := (blk_cell BK234.out 3).trans rfl; have hcz25_4 : w24.cell? ⟨gb234, 4, none⟩ = some (.int .u64 ((rd_T50 l0 a1).f3.f1)) := (blk_cell BK234.out 4).trans rfl; have hcz25_5 : w24.cell? ⟨gb234, 5, none⟩ = some (.int .u64 ((rd_T50 l0 a1).f3.f2)) := (blk_cell BK234.out 5).trans rfl; have hcz25_6 : w24.cell? ⟨gb234, 6, none⟩ = some (.int .u64 ((rd_T50 l0 a1).f3.f3)) := (blk_cell BK234.out 6).trans rfl; have hcz25_7 : w24.cell? ⟨gb234, 7, none⟩ = some (.int .i64 ((rd_T50 l0 a1).f4)) := (blk_cell BK234.out 7).trans rfl; have hcz25_8 : w24.cell? ⟨gb234, 8, none⟩ = some (.int .i64 ((rd_T50 l0 a1).f5)) := (blk_cell BK234.out 8).trans rfl; have hcz25_9 : w24.cell? ⟨gb234, 9, none⟩ = some (.int .i64 ((rd_T50 l0 a1).f6)) := (blk_cell BK234.out 9).trans rfl; have hcz25_10 : w24.cell? ⟨gb234, 10, none⟩ = some (.int .i64 ((rd_T50 l0 a1).f7)) := (blk_cell BK234.out 10).trans rfl; have hcz25_11 : w24.cell? ⟨gb234, 11, none⟩ = some (.bool ((rd_T50 l0 a1).f8)) := (blk_cell BK234.out 11).trans rfl; have hfz25_0 := blk_frozen BK234.out 0; have hfz25_1 := blk_frozen BK234.out 1; have hfz25_2 := blk_frozen BK234.out 2; have hfz25_3 := blk_frozen BK234.out 3; have hfz25_4 := blk_frozen BK234.out 4; have hfz25_5 := blk_frozen BK234.out 5; have hfz25_6 := blk_frozen BK234.out 6; have hfz25_7 := blk_frozen BK234.out 7; have hfz25_8 := blk_frozen BK234.out 8; have hfz25_9 := blk_frozen BK234.out 9; have hfz25_10 := blk_frozen BK234.out 10; have hfz25_11 := blk_frozen BK234.out 11) | ((with_reducible refine gate_callee (f := 29) rfl ?_); refine goesL_ (some 45) rfl rfl Try.func29 (by kernel_rfl) rfl #[.int .i64 t235, .int .i64 t237] rfl (by (try simp only [List.map_toArray, List.map_cons, List.map_nil]); first | done | rfl | (simp only [List.length_drop, List.length_take]; rfl)) ?_; (with_reducible refine (clewref05_Plus.calls t235 t237 t239 _ A19.out).mono ?_); rintro e w26 ⟨rfl, hb⟩; refine ⟨_, rfl, ?_⟩; have n0_ := Aside0.mk (blk_below (g := gb234) (o := .cells #[.int .i64 ((rd_T50 l0 a1).f0), .int .i64 ((rd_T50 l0 a1).f1), .int .i64 ((rd_T50 l0 a1).f2), .int .u64 ((rd_T50 l0 a1).f3.f0), .int .u64 ((rd_T50 l0 a1).f3.f1), .int .u64 ((rd_T50 l0 a1).f3.f2), .int .u64 ((rd_T50 l0 a1).f3.f3), .int .i64 ((rd_T50 l0 a1).f4), .int .i64 ((rd_T50 l0 a1).f5), .int .i64 ((rd_T50 l0 a1).f6), .int .i64 ((rd_T50 l0 a1).f7), .bool ((rd_T50 l0 a1).f8)] 50 (0, 0)) (by (with_reducible repeat (first | refine blk_drewN ?_ _ | refine blk_drew ?_ | refine blk_alloc ?_ _)); exact BK234.out) hb); have n1_ := Aside0.mk (below_step (by repeat (first | (with_reducible first | exact HB.out | apply below_alloc | apply pw_below_drewN | apply below_drew1 | refine below_set ?_ GE234.out) | exact HB.out)) hb); clear BK234; clear HB; have BK234 := n0_; have HB := n1_; clear n0_ n1_; (try clear hb); (try clear hb2); (try clear hk); (try clear hi)) | ((with_reducible refine gate_callee (f := 29) rfl ?_); refine goesL_ (some 48) rfl rfl Try.func29 (by kernel_rfl) rfl #[.int .i64 t236, .int .i64 t238] rfl (by (try simp only [List.map_toArray, List.map_cons, List.map_nil]); first | done | rfl | (simp only [List.length_drop, List.length_take]; rfl)) ?_; (with_reducible refine (clewref05_Plus.calls t236 t238 t240 _ A20.out).mono ?_); rintro e w27 ⟨rfl, hb⟩; refine ⟨_, rfl, ?_⟩; have n0_ := Aside0.mk (blk_below (g := gb234) (o := .cells #[.int .i64 ((rd_T50 l0 a1).f0), .int .i64 ((rd_T50 l0 a1).f1), .int .i64 ((rd_T50 l0 a1).f2), .int .u64 ((rd_T50 l0 a1).f3.f0), .int .u64 ((rd_T50 l0 a1).f3.f1), .int .u64 ((rd_T50 l0 a1).f3.f2), .int .u64 ((rd_T50 l0 a1).f3.f3), .int .i64 ((rd_T50 l0 a1).f4), .int .i64 ((rd_T50 l0 a1).f5), .int .i64 ((rd_T50 l0 a1).f6), .int .i64 ((rd_T50 l0 a1).f7), .bool ((rd_T50 l0 a1).f8)] 50 (0, 0)) (by (with_reducible repeat (first | refine blk_drewN ?_ _ | refine blk_drew ?_ | refine blk_alloc ?_ _)); exact BK234.out) hb); have n1_ := Aside0.mk (below_step (by repeat (first | (with_reducible first | exact HB.out | apply below_alloc | apply pw_below_drewN | apply below_drew1 | refine below_set ?_ GE234.out) | exact HB.out)) hb); clear BK234; clear HB; have BK234 := n0_; have HB := n1_; clear n0_ n1_; (try clear hb); (try clear hb2); (try clear hk); (try clear hi)))
                  go_ret2
                  exact ⟨by first | rfl | (simp [errW_none, errW_some] <;> rfl) | (simp [*, errW_none, errW_some] <;> rfl), by repeat (first | (with_reducible first | exact HB.out | apply below_alloc | apply pw_below_drewN | apply below_drew1 | refine below_set ?_ GE234.out) | exact HB.out)⟩
                · rw [if_neg c18] at H
                  have c18b0 : (((rd_T50 l0 a1).f0) == 8) = false := beq_eq_false_iff_ne.mpr c18
                  have c18b1 : (((rd_T50 l0 a1).f0) != 8) = true := bne_iff_ne.mpr c18
                  by_cases c28 : t236 < 0
                  · rw [if_pos c28] at H
                    have c28b0 : decide (t236 < 0) = true := decide_eq_true c28
                    clear c28
                    obtain ⟨ji29, hji29⟩ : ∃ j_ : Int, (mn t235 t237) = j_ := ⟨_, rfl⟩
                    replace H : (some (ji29, (-1))) = some (r1, r2) := by first | (rw [hji29] at H; exact H) | (simp only [hji29] at H ⊢; exact H)
                    (try rw [hji29] at A16)
                    (try rw [hji29] at A17)
                    have hji29_ : (if t237 < t235 then t237 else t235) = ji29 := hji29
                    simp only [Option.some.injEq, Prod.mk.injEq] at H
                    obtain ⟨rfl, rfl⟩ := H
                    have hcz30_0 : wc.cell? ⟨gb234, 0, none⟩ = some (.int .i64 ((rd_T50 l0 a1).f0)) := (blk_cell BK234.out 0).trans rfl
                    have hcz30_1 : wc.cell? ⟨gb234, 1, none⟩ = some (.int .i64 ((rd_T50 l0 a1).f1)) := (blk_cell BK234.out 1).trans rfl
                    have hcz30_2 : wc.cell? ⟨gb234, 2, none⟩ = some (.int .i64 ((rd_T50 l0 a1).f2)) := (blk_cell BK234.out 2).trans rfl
                    have hcz30_3 : wc.cell? ⟨gb234, 3, none⟩ = some (.int .u64 ((rd_T50 l0 a1).f3.f0)) := (blk_cell BK234.out 3).trans rfl
                    have hcz30_4 : wc.cell? ⟨gb234, 4, none⟩ = some (.int .u64 ((rd_T50 l0 a1).f3.f1)) := (blk_cell BK234.out 4).trans rfl
                    have hcz30_5 : wc.cell? ⟨gb234, 5, none⟩ = some (.int .u64 ((rd_T50 l0 a1).f3.f2)) := (blk_cell BK234.out 5).trans rfl
                    have hcz30_6 : wc.cell? ⟨gb234, 6, none⟩ = some (.int .u64 ((rd_T50 l0 a1).f3.f3)) := (blk_cell BK234.out 6).trans rfl
                    have hcz30_7 : wc.cell? ⟨gb234, 7, none⟩ = some (.int .i64 ((rd_T50 l0 a1).f4)) := (blk_cell BK234.out 7).trans rfl
                    have hcz30_8 : wc.cell? ⟨gb234, 8, none⟩ = some (.int .i64 ((rd_T50 l0 a1).f5)) := (blk_cell BK234.out 8).trans rfl
                    have hcz30_9 : wc.cell? ⟨gb234, 9, none⟩ = some (.int .i64 ((rd_T50 l0 a1).f6)) := (blk_cell BK234.out 9).trans rfl
                    have hcz30_10 : wc.cell? ⟨gb234, 10, none⟩ = some (.int .i64 ((rd_T50 l0 a1).f7)) := (blk_cell BK234.out 10).trans rfl
                    have hcz30_11 : wc.cell? ⟨gb234, 11, none⟩ = some (.bool ((rd_T50 l0 a1).f8)) := (blk_cell BK234.out 11).trans rfl
                    have hfz30_0 := blk_frozen BK234.out 0
                    have hfz30_1 := blk_frozen BK234.out 1
                    have hfz30_2 := blk_frozen BK234.out 2
                    have hfz30_3 := blk_frozen BK234.out 3
                    have hfz30_4 := blk_frozen BK234.out 4
                    have hfz30_5 := blk_frozen BK234.out 5
                    have hfz30_6 := blk_frozen BK234.out 6
                    have hfz30_7 := blk_frozen BK234.out 7
                    have hfz30_8 := blk_frozen BK234.out 8
                    have hfz30_9 := blk_frozen BK234.out 9
                    have hfz30_10 := blk_frozen BK234.out 10
                    have hfz30_11 := blk_frozen BK234.out 11
                    go_wp2_with (first | ((with_reducible refine gate_callee (f := 33) rfl ?_); refine goesL_ (some 30) rfl rfl Try.func33 (by kernel_rfl) rfl #[.slice (some ad233) l0.length c0, .int .i64 ((rd_T50 l0 a1).f1)] rfl (by (try simp only [List.map_toArray, List.map_cons, List.map_nil]); first | done | rfl | (simp only [List.length_drop, List.length_take]; rfl)) ?_; (with_reducible refine (ih kj10 (by have := HJ10.out; omega) _ _ l0 ((rd_T50 l0 a1).f1) t235 t236 _ ?side1 ?side2 A16.out).mono ?_); (case side1 => repeat (first | exact (Kd.C_below HR0.out HB.out) | (with_reducible refine Kd.C_alloc ?_ _) | (with_reducible refine Kd.C_drewN ?_ _) | (with_reducible refine Kd.C_drew ?_))); (case side2 => exact HC0.out); rintro e w31 ⟨rfl, hb⟩; refine ⟨_, rfl, ?_⟩; have n0_ := Aside0.mk (blk_below (g := gb234) (o := .cells #[.int .i64 ((rd_T50 l0 a1).f0), .int .i64 ((rd_T50 l0 a1).f1), .int .i64 ((rd_T50 l0 a1).f2), .int .u64 ((rd_T50 l0 a1).f3.f0), .int .u64 ((rd_T50 l0 a1).f3.f1), .int .u64 ((rd_T50 l0 a1).f3.f2), .int .u64 ((rd_T50 l0 a1).f3.f3), .int .i64 ((rd_T50 l0 a1).f4), .int .i64 ((rd_T50 l0 a1).f5), .int .i64 ((rd_T50 l0 a1).f6), .int .i64 ((rd_T50 l0 a1).f7), .bool ((rd_T50 l0 a1).f8)] 50 (0, 0)) (by (with_reducible repeat (first | refine blk_drewN ?_ _ | refine blk_drew ?_ | refine blk_alloc ?_ _)); exact BK234.out) hb); have n1_ := Aside0.mk (below_step (by repeat (first | (with_reducible first | exact HB.out | apply below_alloc | apply pw_below_drewN | apply below_drew1 | refine below_set ?_ GE234.out) | exact HB.out)) hb); clear BK234; clear HB; have BK234 := n0_; have HB := n1_; clear n0_ n1_; (try clear hb); (try clear hb2); (try clear hk); (try clear hi); have hcz32_0 : w31.cell? ⟨gb234, 0, none⟩ = some (.int .i64 ((rd_T50 l0 a1).f0)) := (blk_cell BK234.out 0).trans rfl; have hcz32_1 : w31.cell? ⟨gb234, 1, none⟩ = some (.int .i64 ((rd_T50 l0 a1).f1)) := (blk_cell BK234.out 1).trans rfl; have hcz32_2 : w31.cell? ⟨gb234, 2, none⟩ = some (.int .i64 ((rd_T50 l0 a1).f2)) := (blk_cell BK234.out 2).trans rfl; have hcz32_3 : w31.cell? ⟨gb234, 3, none⟩ = some (.int .u64 ((rd_T50 l0 a1).f3.f0)) := (blk_cell BK234.out 3).trans rfl; have hcz32_4 : w31.cell? ⟨gb234, 4, none⟩ = some (.int .u64 ((rd_T50 l0 a1).f3.f1)) := (blk_cell BK234.out 4).trans rfl; have hcz32_5 : w31.cell? ⟨gb234, 5, none⟩ = some (.int .u64 ((rd_T50 l0 a1).f3.f2)) := (blk_cell BK234.out 5).trans rfl; have hcz32_6 : w31.cell? ⟨gb234, 6, none⟩ = some (.int .u64 ((rd_T50 l0 a1).f3.f3)) := (blk_cell BK234.out 6).trans rfl; have hcz32_7 : w31.cell? ⟨gb234, 7, none⟩ = some (.int .i64 ((rd_T50 l0 a1).f4)) := (blk_cell BK234.out 7).trans rfl; have hcz32_8 : w31.cell? ⟨gb234, 8, none⟩ = some (.int .i64 ((rd_T50 l0 a1).f5)) := (blk_cell BK234.out 8).trans rfl; have hcz32_9 : w31.cell? ⟨gb234, 9, none⟩ = some (.int .i64 ((rd_T50 l0 a1).f6)) := (blk_cell BK234.out 9).trans rfl; have hcz32_10 : w31.cell? ⟨gb234, 10, none⟩ = some (.int .i64 ((rd_T50 l0 a1).f7)) := (blk_cell BK234.out 10).trans rfl; have hcz32_11 : w31.cell? ⟨gb234, 11, none⟩ = some (.bool ((rd_T50 l0 a1).f8)) := (blk_cell BK234.out 11).trans rfl; have hfz32_0 := blk_frozen BK234.out 0; have hfz32_1 := blk_frozen BK234.out 1; have hfz32_2 := blk_frozen BK234.out 2; have hfz32_3 := blk_frozen BK234.out 3; have hfz32_4 := blk_frozen BK234.out 4; have hfz32_5 := blk_frozen BK234.out 5; have hfz32_6 := blk_frozen BK234.out 6; have hfz32_7 := blk_frozen BK234.out 7; have hfz32_8 := blk_frozen BK234.out 8; have hfz32_9 := blk_frozen BK234.out 9; have hfz32_10 := blk_frozen BK234.out 10; have hfz32_11 := blk_frozen BK234.out 11) | ((with_reducible refine gate_callee (f := 33) rfl ?_); refine goesL_ (some 37) rfl rfl Try.func33 (by kernel_rfl) rfl #[.slice (some ad233) l0.length c0, .int .i64 ((rd_T50 l0 a1).f2)] rfl (by (try simp only [List.map_toArray, List.map_cons, List.map_nil]); first | done | rfl | (simp only [List.length_drop, List.length_take]; rfl)) ?_; (with_reducible refine (ih kj10 (by have := HJ10.out; omega) _ _ l0 ((rd_T50 l0 a1).f2) t237 t238 _ ?side1 ?side2 A17.out).mono ?_); (case side1 => repeat (first | exact (Kd.C_below HR0.out HB.out) | (with_reducible refine Kd.C_alloc ?_ _) | (with_reducible refine Kd.C_drewN ?_ _) | (with_reducible refine Kd.C_drew ?_))); (case side2 => exact HC0.out); rintro e w33 ⟨rfl, hb⟩; refine ⟨_, rfl, ?_⟩; have n0_ := Aside0.mk (blk_below (g := gb234) (o := .cells #[.int .i64 ((rd_T50 l0 a1).f0), .int .i64 ((rd_T50 l0 a1).f1), .int .i64 ((rd_T50 l0 a1).f2), .int .u64 ((rd_T50 l0 a1).f3.f0), .int .u64 ((rd_T50 l0 a1).f3.f1), .int .u64 ((rd_T50 l0 a1).f3.f2), .int .u64 ((rd_T50 l0 a1).f3.f3), .int .i64 ((rd_T50 l0 a1).f4), .int .i64 ((rd_T50 l0 a1).f5), .int .i64 ((rd_T50 l0 a1).f6), .int .i64 ((rd_T50 l0 a1).f7), .bool ((rd_T50 l0 a1).f8)] 50 (0, 0)) (by (with_reducible repeat (first | refine blk_drewN ?_ _ | refine blk_drew ?_ | refine blk_alloc ?_ _)); exact BK234.out) hb); have n1_ := Aside0.mk (below_step (by repeat (first | (with_reducible first | exact HB.out | apply below_alloc | apply pw_below_drewN | apply below_drew1 | refine below_set ?_ GE234.out) | exact HB.out)) hb); clear BK234; clear HB; have BK234 := n0_; have HB := n1_; clear n0_ n1_; (try clear hb); (try clear hb2); (try clear hk); (try clear hi); have hcz34_0 : w33.cell? ⟨gb234, 0, none⟩ = some (.int .i64 ((rd_T50 l0 a1).f0)) := (blk_cell BK234.out 0).trans rfl; have hcz34_1 : w33.cell? ⟨gb234, 1, none⟩ = some (.int .i64 ((rd_T50 l0 a1).f1)) := (blk_cell BK234.out 1).trans rfl; have hcz34_2 : w33.cell? ⟨gb234, 2, none⟩ = some (.int .i64 ((rd_T50 l0 a1).f2)) := (blk_cell BK234.out 2).trans rfl; have hcz34_3 : w33.cell? ⟨gb234, 3, none⟩ = some (.int .u64 ((rd_T50 l0 a1).f3.f0)) := (blk_cell BK234.out 3).trans rfl; have hcz34_4 : w33.cell? ⟨gb234, 4, none⟩ = some (.int .u64 ((rd_T50 l0 a1).f3.f1)) := (blk_cell BK234.out 4).trans rfl; have hcz34_5 : w33.cell? ⟨gb234, 5, none⟩ = some (.int .u64 ((rd_T50 l0 a1).f3.f2)) := (blk_cell BK234.out 5).trans rfl; have hcz34_6 : w33.cell? ⟨gb234, 6, none⟩ = some (.int .u64 ((rd_T50 l0 a1).f3.f3)) := (blk_cell BK234.out 6).trans rfl; have hcz34_7 : w33.cell? ⟨gb234, 7, none⟩ = some (.int .i64 ((rd_T50 l0 a1).f4)) := (blk_cell BK234.out 7).trans rfl; have hcz34_8 : w33.cell? ⟨gb234, 8, none⟩ = some (.int .i64 ((rd_T50 l0 a1).f5)) := (blk_cell BK234.out 8).trans rfl; have hcz34_9 : w33.cell? ⟨gb234, 9, none⟩ = some (.int .i64 ((rd_T50 l0 a1).f6)) := (blk_cell BK234.out 9).trans rfl; have hcz34_10 : w33.cell? ⟨gb234, 10, none⟩ = some (.int .i64 ((rd_T50 l0 a1).f7)) := (blk_cell BK234.out 10).trans rfl; have hcz34_11 : w33.cell? ⟨gb234, 11, none⟩ = some (.bool ((rd_T50 l0 a1).f8)) := (blk_cell BK234.out 11).trans rfl; have hfz34_0 := blk_frozen BK234.out 0; have hfz34_1 := blk_frozen BK234.out 1; have hfz34_2 := blk_frozen BK234.out 2; have hfz34_3 := blk_frozen BK234.out 3; have hfz34_4 := blk_frozen BK234.out 4; have hfz34_5 := blk_frozen BK234.out 5; have hfz34_6 := blk_frozen BK234.out 6; have hfz34_7 := blk_frozen BK234.out 7; have hfz34_8 := blk_frozen BK234.out 8; have hfz34_9 := blk_frozen BK234.out 9; have hfz34_10 := blk_frozen BK234.out 10; have hfz34_11 := blk_frozen BK234.out 11))
                    go_ret2
                    exact ⟨by first | rfl | (simp [errW_none, errW_some] <;> rfl) | (simp only [← hji29]; first | rfl | (simp [errW_none, errW_some] <;> rfl)) | (simp [*, errW_none, errW_some] <;> rfl), by repeat (first | (with_reducible first | exact HB.out | apply below_alloc | apply pw_below_drewN | apply below_drew1 | refine below_set ?_ GE234.out) | exact HB.out)⟩
                  · rw [if_neg c28] at H
                    have c28b0 : decide (t236 < 0) = false := decide_eq_false c28
                    clear c28
                    by_cases c35 : t238 < 0
                    · rw [if_pos c35] at H
                      have c35b0 : decide (t238 < 0) = true := decide_eq_true c35
                      clear c35
                      obtain ⟨ji36, hji36⟩ : ∃ j_ : Int, (mn t235 t237) = j_ := ⟨_, rfl⟩
                      replace H : (some (ji36, (-1))) = some (r1, r2) := by first | (rw [hji36] at H; exact H) | (simp only [hji36] at H ⊢; exact H)
                      (try rw [hji36] at A16)
                      (try rw [hji36] at A17)
                      have hji36_ : (if t237 < t235 then t237 else t235) = ji36 := hji36
                      simp only [Option.some.injEq, Prod.mk.injEq] at H
                      obtain ⟨rfl, rfl⟩ := H
                      have hcz37_0 : wc.cell? ⟨gb234, 0, none⟩ = some (.int .i64 ((rd_T50 l0 a1).f0)) := (blk_cell BK234.out 0).trans rfl
                      have hcz37_1 : wc.cell? ⟨gb234, 1, none⟩ = some (.int .i64 ((rd_T50 l0 a1).f1)) := (blk_cell BK234.out 1).trans rfl
                      have hcz37_2 : wc.cell? ⟨gb234, 2, none⟩ = some (.int .i64 ((rd_T50 l0 a1).f2)) := (blk_cell BK234.out 2).trans rfl
                      have hcz37_3 : wc.cell? ⟨gb234, 3, none⟩ = some (.int .u64 ((rd_T50 l0 a1).f3.f0)) := (blk_cell BK234.out 3).trans rfl
                      have hcz37_4 : wc.cell? ⟨gb234, 4, none⟩ = some (.int .u64 ((rd_T50 l0 a1).f3.f1)) := (blk_cell BK234.out 4).trans rfl
                      have hcz37_5 : wc.cell? ⟨gb234, 5, none⟩ = some (.int .u64 ((rd_T50 l0 a1).f3.f2)) := (blk_cell BK234.out 5).trans rfl
                      have hcz37_6 : wc.cell? ⟨gb234, 6, none⟩ = some (.int .u64 ((rd_T50 l0 a1).f3.f3)) := (blk_cell BK234.out 6).trans rfl
                      have hcz37_7 : wc.cell? ⟨gb234, 7, none⟩ = some (.int .i64 ((rd_T50 l0 a1).f4)) := (blk_cell BK234.out 7).trans rfl
                      have hcz37_8 : wc.cell? ⟨gb234, 8, none⟩ = some (.int .i64 ((rd_T50 l0 a1).f5)) := (blk_cell BK234.out 8).trans rfl
                      have hcz37_9 : wc.cell? ⟨gb234, 9, none⟩ = some (.int .i64 ((rd_T50 l0 a1).f6)) := (blk_cell BK234.out 9).trans rfl
                      have hcz37_10 : wc.cell? ⟨gb234, 10, none⟩ = some (.int .i64 ((rd_T50 l0 a1).f7)) := (blk_cell BK234.out 10).trans rfl
                      have hcz37_11 : wc.cell? ⟨gb234, 11, none⟩ = some (.bool ((rd_T50 l0 a1).f8)) := (blk_cell BK234.out 11).trans rfl
                      have hfz37_0 := blk_frozen BK234.out 0
                      have hfz37_1 := blk_frozen BK234.out 1
                      have hfz37_2 := blk_frozen BK234.out 2
                      have hfz37_3 := blk_frozen BK234.out 3
                      have hfz37_4 := blk_frozen BK234.out 4
                      have hfz37_5 := blk_frozen BK234.out 5
                      have hfz37_6 := blk_frozen BK234.out 6
                      have hfz37_7 := blk_frozen BK234.out 7
                      have hfz37_8 := blk_frozen BK234.out 8
                      have hfz37_9 := blk_frozen BK234.out 9
                      have hfz37_10 := blk_frozen BK234.out 10
                      have hfz37_11 := blk_frozen BK234.out 11
                      go_wp2_with (first | ((with_reducible refine gate_callee (f := 33) rfl ?_); refine goesL_ (some 30) rfl rfl Try.func33 (by kernel_rfl) rfl #[.slice (some ad233) l0.length c0, .int .i64 ((rd_T50 l0 a1).f1)] rfl (by (try simp only [List.map_toArray, List.map_cons, List.map_nil]); first | done | rfl | (simp only [List.length_drop, List.length_take]; rfl)) ?_; (with_reducible refine (ih kj10 (by have := HJ10.out; omega) _ _ l0 ((rd_T50 l0 a1).f1) t235 t236 _ ?side1 ?side2 A16.out).mono ?_); (case side1 => repeat (first | exact (Kd.C_below HR0.out HB.out) | (with_reducible refine Kd.C_alloc ?_ _) | (with_reducible refine Kd.C_drewN ?_ _) | (with_reducible refine Kd.C_drew ?_))); (case side2 => exact HC0.out); rintro e w38 ⟨rfl, hb⟩; refine ⟨_, rfl, ?_⟩; have n0_ := Aside0.mk (blk_below (g := gb234) (o := .cells #[.int .i64 ((rd_T50 l0 a1).f0), .int .i64 ((rd_T50 l0 a1).f1), .int .i64 ((rd_T50 l0 a1).f2), .int .u64 ((rd_T50 l0 a1).f3.f0), .int .u64 ((rd_T50 l0 a1).f3.f1), .int .u64 ((rd_T50 l0 a1).f3.f2), .int .u64 ((rd_T50 l0 a1).f3.f3), .int .i64 ((rd_T50 l0 a1).f4), .int .i64 ((rd_T50 l0 a1).f5), .int .i64 ((rd_T50 l0 a1).f6), .int .i64 ((rd_T50 l0 a1).f7), .bool ((rd_T50 l0 a1).f8)] 50 (0, 0)) (by (with_reducible repeat (first | refine blk_drewN ?_ _ | refine blk_drew ?_ | refine blk_alloc ?_ _)); exact BK234.out) hb); have n1_ := Aside0.mk (below_step (by repeat (first | (with_reducible first | exact HB.out | apply below_alloc | apply pw_below_drewN | apply below_drew1 | refine below_set ?_ GE234.out) | exact HB.out)) hb); clear BK234; clear HB; have BK234 := n0_; have HB := n1_; clear n0_ n1_; (try clear hb); (try clear hb2); (try clear hk); (try clear hi); have hcz39_0 : w38.cell? ⟨gb234, 0, none⟩ = some (.int .i64 ((rd_T50 l0 a1).f0)) := (blk_cell BK234.out 0).trans rfl; have hcz39_1 : w38.cell? ⟨gb234, 1, none⟩ = some (.int .i64 ((rd_T50 l0 a1).f1)) := (blk_cell BK234.out 1).trans rfl; have hcz39_2 : w38.cell? ⟨gb234, 2, none⟩ = some (.int .i64 ((rd_T50 l0 a1).f2)) := (blk_cell BK234.out 2).trans rfl; have hcz39_3 : w38.cell? ⟨gb234, 3, none⟩ = some (.int .u64 ((rd_T50 l0 a1).f3.f0)) := (blk_cell BK234.out 3).trans rfl; have hcz39_4 : w38.cell? ⟨gb234, 4, none⟩ = some (.int .u64 ((rd_T50 l0 a1).f3.f1)) := (blk_cell BK234.out 4).trans rfl; have hcz39_5 : w38.cell? ⟨gb234, 5, none⟩ = some (.int .u64 ((rd_T50 l0 a1).f3.f2)) := (blk_cell BK234.out 5).trans rfl; have hcz39_6 : w38.cell? ⟨gb234, 6, none⟩ = some (.int .u64 ((rd_T50 l0 a1).f3.f3)) := (blk_cell BK234.out 6).trans rfl; have hcz39_7 : w38.cell? ⟨gb234, 7, none⟩ = some (.int .i64 ((rd_T50 l0 a1).f4)) := (blk_cell BK234.out 7).trans rfl; have hcz39_8 : w38.cell? ⟨gb234, 8, none⟩ = some (.int .i64 ((rd_T50 l0 a1).f5)) := (blk_cell BK234.out 8).trans rfl; have hcz39_9 : w38.cell? ⟨gb234, 9, none⟩ = some (.int .i64 ((rd_T50 l0 a1).f6)) := (blk_cell BK234.out 9).trans rfl; have hcz39_10 : w38.cell? ⟨gb234, 10, none⟩ = some (.int .i64 ((rd_T50 l0 a1).f7)) := (blk_cell BK234.out 10).trans rfl; have hcz39_11 : w38.cell? ⟨gb234, 11, none⟩ = some (.bool ((rd_T50 l0 a1).f8)) := (blk_cell BK234.out 11).trans rfl; have hfz39_0 := blk_frozen BK234.out 0; have hfz39_1 := blk_frozen BK234.out 1; have hfz39_2 := blk_frozen BK234.out 2; have hfz39_3 := blk_frozen BK234.out 3; have hfz39_4 := blk_frozen BK234.out 4; have hfz39_5 := blk_frozen BK234.out 5; have hfz39_6 := blk_frozen BK234.out 6; have hfz39_7 := blk_frozen BK234.out 7; have hfz39_8 := blk_frozen BK234.out 8; have hfz39_9 := blk_frozen BK234.out 9; have hfz39_10 := blk_frozen BK234.out 10; have hfz39_11 := blk_frozen BK234.out 11) | ((with_reducible refine gate_callee (f := 33) rfl ?_); refine goesL_ (some 37) rfl rfl Try.func33 (by kernel_rfl) rfl #[.slice (some ad233) l0.length c0, .int .i64 ((rd_T50 l0 a1).f2)] rfl (by (try simp only [List.map_toArray, List.map_cons, List.map_nil]); first | done | rfl | (simp only [List.length_drop, List.length_take]; rfl)) ?_; (with_reducible refine (ih kj10 (by have := HJ10.out; omega) _ _ l0 ((rd_T50 l0 a1).f2) t237 t238 _ ?side1 ?side2 A17.out).mono ?_); (case side1 => repeat (first | exact (Kd.C_below HR0.out HB.out) | (with_reducible refine Kd.C_alloc ?_ _) | (with_reducible refine Kd.C_drewN ?_ _) | (with_reducible refine Kd.C_drew ?_))); (case side2 => exact HC0.out); rintro e w40 ⟨rfl, hb⟩; refine ⟨_, rfl, ?_⟩; have n0_ := Aside0.mk (blk_below (g := gb234) (o := .cells #[.int .i64 ((rd_T50 l0 a1).f0), .int .i64 ((rd_T50 l0 a1).f1), .int .i64 ((rd_T50 l0 a1).f2), .int .u64 ((rd_T50 l0 a1).f3.f0), .int .u64 ((rd_T50 l0 a1).f3.f1), .int .u64 ((rd_T50 l0 a1).f3.f2), .int .u64 ((rd_T50 l0 a1).f3.f3), .int .i64 ((rd_T50 l0 a1).f4), .int .i64 ((rd_T50 l0 a1).f5), .int .i64 ((rd_T50 l0 a1).f6), .int .i64 ((rd_T50 l0 a1).f7), .bool ((rd_T50 l0 a1).f8)] 50 (0, 0)) (by (with_reducible repeat (first | refine blk_drewN ?_ _ | refine blk_drew ?_ | refine blk_alloc ?_ _)); exact BK234.out) hb); have n1_ := Aside0.mk (below_step (by repeat (first | (with_reducible first | exact HB.out | apply below_alloc | apply pw_below_drewN | apply below_drew1 | refine below_set ?_ GE234.out) | exact HB.out)) hb); clear BK234; clear HB; have BK234 := n0_; have HB := n1_; clear n0_ n1_; (try clear hb); (try clear hb2); (try clear hk); (try clear hi); have hcz41_0 : w40.cell? ⟨gb234, 0, none⟩ = some (.int .i64 ((rd_T50 l0 a1).f0)) := (blk_cell BK234.out 0).trans rfl; have hcz41_1 : w40.cell? ⟨gb234, 1, none⟩ = some (.int .i64 ((rd_T50 l0 a1).f1)) := (blk_cell BK234.out 1).trans rfl; have hcz41_2 : w40.cell? ⟨gb234, 2, none⟩ = some (.int .i64 ((rd_T50 l0 a1).f2)) := (blk_cell BK234.out 2).trans rfl; have hcz41_3 : w40.cell? ⟨gb234, 3, none⟩ = some (.int .u64 ((rd_T50 l0 a1).f3.f0)) := (blk_cell BK234.out 3).trans rfl; have hcz41_4 : w40.cell? ⟨gb234, 4, none⟩ = some (.int .u64 ((rd_T50 l0 a1).f3.f1)) := (blk_cell BK234.out 4).trans rfl; have hcz41_5 : w40.cell? ⟨gb234, 5, none⟩ = some (.int .u64 ((rd_T50 l0 a1).f3.f2)) := (blk_cell BK234.out 5).trans rfl; have hcz41_6 : w40.cell? ⟨gb234, 6, none⟩ = some (.int .u64 ((rd_T50 l0 a1).f3.f3)) := (blk_cell BK234.out 6).trans rfl; have hcz41_7 : w40.cell? ⟨gb234, 7, none⟩ = some (.int .i64 ((rd_T50 l0 a1).f4)) := (blk_cell BK234.out 7).trans rfl; have hcz41_8 : w40.cell? ⟨gb234, 8, none⟩ = some (.int .i64 ((rd_T50 l0 a1).f5)) := (blk_cell BK234.out 8).trans rfl; have hcz41_9 : w40.cell? ⟨gb234, 9, none⟩ = some (.int .i64 ((rd_T50 l0 a1).f6)) := (blk_cell BK234.out 9).trans rfl; have hcz41_10 : w40.cell? ⟨gb234, 10, none⟩ = some (.int .i64 ((rd_T50 l0 a1).f7)) := (blk_cell BK234.out 10).trans rfl; have hcz41_11 : w40.cell? ⟨gb234, 11, none⟩ = some (.bool ((rd_T50 l0 a1).f8)) := (blk_cell BK234.out 11).trans rfl; have hfz41_0 := blk_frozen BK234.out 0; have hfz41_1 := blk_frozen BK234.out 1; have hfz41_2 := blk_frozen BK234.out 2; have hfz41_3 := blk_frozen BK234.out 3; have hfz41_4 := blk_frozen BK234.out 4; have hfz41_5 := blk_frozen BK234.out 5; have hfz41_6 := blk_frozen BK234.out 6; have hfz41_7 := blk_frozen BK234.out 7; have hfz41_8 := blk_frozen BK234.out 8; have hfz41_9 := blk_frozen BK234.out 9; have hfz41_10 := blk_frozen BK234.out 10; have hfz41_11 := blk_frozen BK234.out 11))
                      go_ret2
                      exact ⟨by first | rfl | (simp [errW_none, errW_some] <;> rfl) | (simp only [← hji36]; first | rfl | (simp [errW_none, errW_some] <;> rfl)) | (simp [*, errW_none, errW_some] <;> rfl), by repeat (first | (with_reducible first | exact HB.out | apply below_alloc | apply pw_below_drewN | apply below_drew1 | refine below_set ?_ GE234.out) | exact HB.out)⟩
                    · rw [if_neg c35] at H
                      have c35b0 : decide (t238 < 0) = false := decide_eq_false c35
                      clear c35
                      obtain ⟨ji42, hji42⟩ : ∃ j_ : Int, (mn t235 t237) = j_ := ⟨_, rfl⟩
                      replace H : (some (ji42, mx t236 t238)) = some (r1, r2) := by first | (rw [hji42] at H; exact H) | (simp only [hji42] at H ⊢; exact H)
                      (try rw [hji42] at A16)
                      (try rw [hji42] at A17)
                      have hji42_ : (if t237 < t235 then t237 else t235) = ji42 := hji42
                      obtain ⟨ji43, hji43⟩ : ∃ j_ : Int, (mx t236 t238) = j_ := ⟨_, rfl⟩
                      replace H : (some (ji42, ji43)) = some (r1, r2) := by first | (rw [hji43] at H; exact H) | (simp only [hji43] at H ⊢; exact H)
                      (try rw [hji43] at A16)
                      (try rw [hji43] at A17)
                      have hji43_ : (if t236 < t238 then t238 else t236) = ji43 := hji43
                      simp only [Option.some.injEq, Prod.mk.injEq] at H
                      obtain ⟨rfl, rfl⟩ := H
                      have hcz44_0 : wc.cell? ⟨gb234, 0, none⟩ = some (.int .i64 ((rd_T50 l0 a1).f0)) := (blk_cell BK234.out 0).trans rfl
                      have hcz44_1 : wc.cell? ⟨gb234, 1, none⟩ = some (.int .i64 ((rd_T50 l0 a1).f1)) := (blk_cell BK234.out 1).trans rfl
                      have hcz44_2 : wc.cell? ⟨gb234, 2, none⟩ = some (.int .i64 ((rd_T50 l0 a1).f2)) := (blk_cell BK234.out 2).trans rfl
                      have hcz44_3 : wc.cell? ⟨gb234, 3, none⟩ = some (.int .u64 ((rd_T50 l0 a1).f3.f0)) := (blk_cell BK234.out 3).trans rfl
                      have hcz44_4 : wc.cell? ⟨gb234, 4, none⟩ = some (.int .u64 ((rd_T50 l0 a1).f3.f1)) := (blk_cell BK234.out 4).trans rfl
                      have hcz44_5 : wc.cell? ⟨gb234, 5, none⟩ = some (.int .u64 ((rd_T50 l0 a1).f3.f2)) := (blk_cell BK234.out 5).trans rfl
                      have hcz44_6 : wc.cell? ⟨gb234, 6, none⟩ = some (.int .u64 ((rd_T50 l0 a1).f3.f3)) := (blk_cell BK234.out 6).trans rfl
                      have hcz44_7 : wc.cell? ⟨gb234, 7, none⟩ = some (.int .i64 ((rd_T50 l0 a1).f4)) := (blk_cell BK234.out 7).trans rfl
                      have hcz44_8 : wc.cell? ⟨gb234, 8, none⟩ = some (.int .i64 ((rd_T50 l0 a1).f5)) := (blk_cell BK234.out 8).trans rfl
                      have hcz44_9 : wc.cell? ⟨gb234, 9, none⟩ = some (.int .i64 ((rd_T50 l0 a1).f6)) := (blk_cell BK234.out 9).trans rfl
                      have hcz44_10 : wc.cell? ⟨gb234, 10, none⟩ = some (.int .i64 ((rd_T50 l0 a1).f7)) := (blk_cell BK234.out 10).trans rfl
                      have hcz44_11 : wc.cell? ⟨gb234, 11, none⟩ = some (.bool ((rd_T50 l0 a1).f8)) := (blk_cell BK234.out 11).trans rfl
                      have hfz44_0 := blk_frozen BK234.out 0
                      have hfz44_1 := blk_frozen BK234.out 1
                      have hfz44_2 := blk_frozen BK234.out 2
                      have hfz44_3 := blk_frozen BK234.out 3
                      have hfz44_4 := blk_frozen BK234.out 4
                      have hfz44_5 := blk_frozen BK234.out 5
                      have hfz44_6 := blk_frozen BK234.out 6
                      have hfz44_7 := blk_frozen BK234.out 7
                      have hfz44_8 := blk_frozen BK234.out 8
                      have hfz44_9 := blk_frozen BK234.out 9
                      have hfz44_10 := blk_frozen BK234.out 10
                      have hfz44_11 := blk_frozen BK234.out 11
                      go_wp2_with (first | ((with_reducible refine gate_callee (f := 33) rfl ?_); refine goesL_ (some 30) rfl rfl Try.func33 (by kernel_rfl) rfl #[.slice (some ad233) l0.length c0, .int .i64 ((rd_T50 l0 a1).f1)] rfl (by (try simp only [List.map_toArray, List.map_cons, List.map_nil]); first | done | rfl | (simp only [List.length_drop, List.length_take]; rfl)) ?_; (with_reducible refine (ih kj10 (by have := HJ10.out; omega) _ _ l0 ((rd_T50 l0 a1).f1) t235 t236 _ ?side1 ?side2 A16.out).mono ?_); (case side1 => repeat (first | exact (Kd.C_below HR0.out HB.out) | (with_reducible refine Kd.C_alloc ?_ _) | (with_reducible refine Kd.C_drewN ?_ _) | (with_reducible refine Kd.C_drew ?_))); (case side2 => exact HC0.out); rintro e w45 ⟨rfl, hb⟩; refine ⟨_, rfl, ?_⟩; have n0_ := Aside0.mk (blk_below (g := gb234) (o := .cells #[.int .i64 ((rd_T50 l0 a1).f0), .int .i64 ((rd_T50 l0 a1).f1), .int .i64 ((rd_T50 l0 a1).f2), .int .u64 ((rd_T50 l0 a1).f3.f0), .int .u64 ((rd_T50 l0 a1).f3.f1), .int .u64 ((rd_T50 l0 a1).f3.f2), .int .u64 ((rd_T50 l0 a1).f3.f3), .int .i64 ((rd_T50 l0 a1).f4), .int .i64 ((rd_T50 l0 a1).f5), .int .i64 ((rd_T50 l0 a1).f6), .int .i64 ((rd_T50 l0 a1).f7), .bool ((rd_T50 l0 a1).f8)] 50 (0, 0)) (by (with_reducible repeat (first | refine blk_drewN ?_ _ | refine blk_drew ?_ | refine blk_alloc ?_ _)); exact BK234.out) hb); have n1_ := Aside0.mk (below_step (by repeat (first | (with_reducible first | exact HB.out | apply below_alloc | apply pw_below_drewN | apply below_drew1 | refine below_set ?_ GE234.out) | exact HB.out)) hb); clear BK234; clear HB; have BK234 := n0_; have HB := n1_; clear n0_ n1_; (try clear hb); (try clear hb2); (try clear hk); (try clear hi); have hcz46_0 : w45.cell? ⟨gb234, 0, none⟩ = some (.int .i64 ((rd_T50 l0 a1).f0)) := (blk_cell BK234.out 0).trans rfl; have hcz46_1 : w45.cell? ⟨gb234, 1, none⟩ = some (.int .i64 ((rd_T50 l0 a1).f1)) := (blk_cell BK234.out 1).trans rfl; have hcz46_2 : w45.cell? ⟨gb234, 2, none⟩ = some (.int .i64 ((rd_T50 l0 a1).f2)) := (blk_cell BK234.out 2).trans rfl; have hcz46_3 : w45.cell? ⟨gb234, 3, none⟩ = some (.int .u64 ((rd_T50 l0 a1).f3.f0)) := (blk_cell BK234.out 3).trans rfl; have hcz46_4 : w45.cell? ⟨gb234, 4, none⟩ = some (.int .u64 ((rd_T50 l0 a1).f3.f1)) := (blk_cell BK234.out 4).trans rfl; have hcz46_5 : w45.cell? ⟨gb234, 5, none⟩ = some (.int .u64 ((rd_T50 l0 a1).f3.f2)) := (blk_cell BK234.out 5).trans rfl; have hcz46_6 : w45.cell? ⟨gb234, 6, none⟩ = some (.int .u64 ((rd_T50 l0 a1).f3.f3)) := (blk_cell BK234.out 6).trans rfl; have hcz46_7 : w45.cell? ⟨gb234, 7, none⟩ = some (.int .i64 ((rd_T50 l0 a1).f4)) := (blk_cell BK234.out 7).trans rfl; have hcz46_8 : w45.cell? ⟨gb234, 8, none⟩ = some (.int .i64 ((rd_T50 l0 a1).f5)) := (blk_cell BK234.out 8).trans rfl; have hcz46_9 : w45.cell? ⟨gb234, 9, none⟩ = some (.int .i64 ((rd_T50 l0 a1).f6)) := (blk_cell BK234.out 9).trans rfl; have hcz46_10 : w45.cell? ⟨gb234, 10, none⟩ = some (.int .i64 ((rd_T50 l0 a1).f7)) := (blk_cell BK234.out 10).trans rfl; have hcz46_11 : w45.cell? ⟨gb234, 11, none⟩ = some (.bool ((rd_T50 l0 a1).f8)) := (blk_cell BK234.out 11).trans rfl; have hfz46_0 := blk_frozen BK234.out 0; have hfz46_1 := blk_frozen BK234.out 1; have hfz46_2 := blk_frozen BK234.out 2; have hfz46_3 := blk_frozen BK234.out 3; have hfz46_4 := blk_frozen BK234.out 4; have hfz46_5 := blk_frozen BK234.out 5; have hfz46_6 := blk_frozen BK234.out 6; have hfz46_7 := blk_frozen BK234.out 7; have hfz46_8 := blk_frozen BK234.out 8; have hfz46_9 := blk_frozen BK234.out 9; have hfz46_10 := blk_frozen BK234.out 10; have hfz46_11 := blk_frozen BK234.out 11) | ((with_reducible refine gate_callee (f := 33) rfl ?_); refine goesL_ (some 37) rfl rfl Try.func33 (by kernel_rfl) rfl #[.slice (some ad233) l0.length c0, .int .i64 ((rd_T50 l0 a1).f2)] rfl (by (try simp only [List.map_toArray, List.map_cons, List.map_nil]); first | done | rfl | (simp only [List.length_drop, List.length_take]; rfl)) ?_; (with_reducible refine (ih kj10 (by have := HJ10.out; omega) _ _ l0 ((rd_T50 l0 a1).f2) t237 t238 _ ?side1 ?side2 A17.out).mono ?_); (case side1 => repeat (first | exact (Kd.C_below HR0.out HB.out) | (with_reducible refine Kd.C_alloc ?_ _) | (with_reducible refine Kd.C_drewN ?_ _) | (with_reducible refine Kd.C_drew ?_))); (case side2 => exact HC0.out); rintro e w47 ⟨rfl, hb⟩; refine ⟨_, rfl, ?_⟩; have n0_ := Aside0.mk (blk_below (g := gb234) (o := .cells #[.int .i64 ((rd_T50 l0 a1).f0), .int .i64 ((rd_T50 l0 a1).f1), .int .i64 ((rd_T50 l0 a1).f2), .int .u64 ((rd_T50 l0 a1).f3.f0), .int .u64 ((rd_T50 l0 a1).f3.f1), .int .u64 ((rd_T50 l0 a1).f3.f2), .int .u64 ((rd_T50 l0 a1).f3.f3), .int .i64 ((rd_T50 l0 a1).f4), .int .i64 ((rd_T50 l0 a1).f5), .int .i64 ((rd_T50 l0 a1).f6), .int .i64 ((rd_T50 l0 a1).f7), .bool ((rd_T50 l0 a1).f8)] 50 (0, 0)) (by (with_reducible repeat (first | refine blk_drewN ?_ _ | refine blk_drew ?_ | refine blk_alloc ?_ _)); exact BK234.out) hb); have n1_ := Aside0.mk (below_step (by repeat (first | (with_reducible first | exact HB.out | apply below_alloc | apply pw_below_drewN | apply below_drew1 | refine below_set ?_ GE234.out) | exact HB.out)) hb); clear BK234; clear HB; have BK234 := n0_; have HB := n1_; clear n0_ n1_; (try clear hb); (try clear hb2); (try clear hk); (try clear hi); have hcz48_0 : w47.cell? ⟨gb234, 0, none⟩ = some (.int .i64 ((rd_T50 l0 a1).f0)) := (blk_cell BK234.out 0).trans rfl; have hcz48_1 : w47.cell? ⟨gb234, 1, none⟩ = some (.int .i64 ((rd_T50 l0 a1).f1)) := (blk_cell BK234.out 1).trans rfl; have hcz48_2 : w47.cell? ⟨gb234, 2, none⟩ = some (.int .i64 ((rd_T50 l0 a1).f2)) := (blk_cell BK234.out 2).trans rfl; have hcz48_3 : w47.cell? ⟨gb234, 3, none⟩ = some (.int .u64 ((rd_T50 l0 a1).f3.f0)) := (blk_cell BK234.out 3).trans rfl; have hcz48_4 : w47.cell? ⟨gb234, 4, none⟩ = some (.int .u64 ((rd_T50 l0 a1).f3.f1)) := (blk_cell BK234.out 4).trans rfl; have hcz48_5 : w47.cell? ⟨gb234, 5, none⟩ = some (.int .u64 ((rd_T50 l0 a1).f3.f2)) := (blk_cell BK234.out 5).trans rfl; have hcz48_6 : w47.cell? ⟨gb234, 6, none⟩ = some (.int .u64 ((rd_T50 l0 a1).f3.f3)) := (blk_cell BK234.out 6).trans rfl; have hcz48_7 : w47.cell? ⟨gb234, 7, none⟩ = some (.int .i64 ((rd_T50 l0 a1).f4)) := (blk_cell BK234.out 7).trans rfl; have hcz48_8 : w47.cell? ⟨gb234, 8, none⟩ = some (.int .i64 ((rd_T50 l0 a1).f5)) := (blk_cell BK234.out 8).trans rfl; have hcz48_9 : w47.cell? ⟨gb234, 9, none⟩ = some (.int .i64 ((rd_T50 l0 a1).f6)) := (blk_cell BK234.out 9).trans rfl; have hcz48_10 : w47.cell? ⟨gb234, 10, none⟩ = some (.int .i64 ((rd_T50 l0 a1).f7)) := (blk_cell BK234.out 10).trans rfl; have hcz48_11 : w47.cell? ⟨gb234, 11, none⟩ = some (.bool ((rd_T50 l0 a1).f8)) := (blk_cell BK234.out 11).trans rfl; have hfz48_0 := blk_frozen BK234.out 0; have hfz48_1 := blk_frozen BK234.out 1; have hfz48_2 := blk_frozen BK234.out 2; have hfz48_3 := blk_frozen BK234.out 3; have hfz48_4 := blk_frozen BK234.out 4; have hfz48_5 := blk_frozen BK234.out 5; have hfz48_6 := blk_frozen BK234.out 6; have hfz48_7 := blk_frozen BK234.out 7; have hfz48_8 := blk_frozen BK234.out 8; have hfz48_9 := blk_frozen BK234.out 9; have hfz48_10 := blk_frozen BK234.out 10; have hfz48_11 := blk_frozen BK234.out 11))
                      go_ret2
                      exact ⟨by first | rfl | (simp [errW_none, errW_some] <;> rfl) | (simp only [← hji42, ← hji43]; first | rfl | (simp [errW_none, errW_some] <;> rfl)) | (simp [*, errW_none, errW_some] <;> rfl), by repeat (first | (with_reducible first | exact HB.out | apply below_alloc | apply pw_below_drewN | apply below_drew1 | refine below_set ?_ GE234.out) | exact HB.out)⟩
              · replace c15 := Bool.eq_false_iff.mpr c15
                subst c15
                have H1 : (if ((rd_T50 l0 a1).f0) = 10 then ((clewref05_Lens.f kj10 l0 ((rd_T50 l0 a1).f1)).bind fun bt241 => ((clewref05_Times.f kj10 bt241.1 ((rd_T50 l0 a1).f4)).bind fun t243 => ((clewref05_Times.f kj10 bt241.2 ((rd_T50 l0 a1).f5)).bind fun t244 => (some (t243, t244))))) else (if ((rd_T50 l0 a1).f0) = 11 then ((clewref05_Lens.f kj10 l0 ((rd_T50 l0 a1).f1)).bind fun bt245 => (some (bt245.1, bt245.2))) else (if ((rd_T50 l0 a1).f0) = 17 then ((clewref05_Lens.f kj10 l0 ((rd_T50 l0 a1).f1)).bind fun bt247 => (some (bt247.1, bt247.2))) else (some (0, 0))))) = some (r1, r2) := by rw [if_neg (show ¬ (false = true) by decide)] at H; exact H
                clear H
                have H := H1
                clear H1
                by_cases c49 : ((rd_T50 l0 a1).f0) = 10
                · rw [if_pos c49] at H
                  have c49b0 : (((rd_T50 l0 a1).f0) == 10) = true := beq_iff_eq.mpr c49
                  have c49b1 : (((rd_T50 l0 a1).f0) != 10) = false := bne_eq_false_iff_eq.mpr c49
                  clear c49
                  replace H := Option.bind_eq_some_iff.mp H
                  obtain ⟨⟨t241, t242⟩, A500, H⟩ := H
                  replace H : ((clewref05_Times.f kj10 t241 ((rd_T50 l0 a1).f4)).bind fun t243 => ((clewref05_Times.f kj10 t242 ((rd_T50 l0 a1).f5)).bind fun t244 => (some (t243, t244)))) = some (r1, r2) := H
                  have A50 := Aside0.mk A500
                  clear A500
                  replace H := Option.bind_eq_some_iff.mp H
                  obtain ⟨t243, A510, H⟩ := H
                  replace H : ((clewref05_Times.f kj10 t242 ((rd_T50 l0 a1).f5)).bind fun t244 => (some (t243, t244))) = some (r1, r2) := H
                  have A51 := Aside0.mk A510
                  clear A510
                  replace H := Option.bind_eq_some_iff.mp H
                  obtain ⟨t244, A520, H⟩ := H
                  replace H : (some (t243, t244)) = some (r1, r2) := H
                  have A52 := Aside0.mk A520
                  clear A520
                  simp only [Option.some.injEq, Prod.mk.injEq] at H
                  obtain ⟨rfl, rfl⟩ := H
                  have hcz53_0 : wc.cell? ⟨gb234, 0, none⟩ = some (.int .i64 ((rd_T50 l0 a1).f0)) := (blk_cell BK234.out 0).trans rfl
                  have hcz53_1 : wc.cell? ⟨gb234, 1, none⟩ = some (.int .i64 ((rd_T50 l0 a1).f1)) := (blk_cell BK234.out 1).trans rfl
                  have hcz53_2 : wc.cell? ⟨gb234, 2, none⟩ = some (.int .i64 ((rd_T50 l0 a1).f2)) := (blk_cell BK234.out 2).trans rfl
                  have hcz53_3 : wc.cell? ⟨gb234, 3, none⟩ = some (.int .u64 ((rd_T50 l0 a1).f3.f0)) := (blk_cell BK234.out 3).trans rfl
                  have hcz53_4 : wc.cell? ⟨gb234, 4, none⟩ = some (.int .u64 ((rd_T50 l0 a1).f3.f1)) := (blk_cell BK234.out 4).trans rfl
                  have hcz53_5 : wc.cell? ⟨gb234, 5, none⟩ = some (.int .u64 ((rd_T50 l0 a1).f3.f2)) := (blk_cell BK234.out 5).trans rfl
                  have hcz53_6 : wc.cell? ⟨gb234, 6, none⟩ = some (.int .u64 ((rd_T50 l0 a1).f3.f3)) := (blk_cell BK234.out 6).trans rfl
                  have hcz53_7 : wc.cell? ⟨gb234, 7, none⟩ = some (.int .i64 ((rd_T50 l0 a1).f4)) := (blk_cell BK234.out 7).trans rfl
                  have hcz53_8 : wc.cell? ⟨gb234, 8, none⟩ = some (.int .i64 ((rd_T50 l0 a1).f5)) := (blk_cell BK234.out 8).trans rfl
                  have hcz53_9 : wc.cell? ⟨gb234, 9, none⟩ = some (.int .i64 ((rd_T50 l0 a1).f6)) := (blk_cell BK234.out 9).trans rfl
                  have hcz53_10 : wc.cell? ⟨gb234, 10, none⟩ = some (.int .i64 ((rd_T50 l0 a1).f7)) := (blk_cell BK234.out 10).trans rfl
                  have hcz53_11 : wc.cell? ⟨gb234, 11, none⟩ = some (.bool ((rd_T50 l0 a1).f8)) := (blk_cell BK234.out 11).trans rfl
                  have hfz53_0 := blk_frozen BK234.out 0
                  have hfz53_1 := blk_frozen BK234.out 1
                  have hfz53_2 := blk_frozen BK234.out 2
                  have hfz53_3 := blk_frozen BK234.out 3
                  have hfz53_4 := blk_frozen BK234.out 4
                  have hfz53_5 := blk_frozen BK234.out 5
                  have hfz53_6 := blk_frozen BK234.out 6
                  have hfz53_7 := blk_frozen BK234.out 7
                  have hfz53_8 := blk_frozen BK234.out 8
                  have hfz53_9 := blk_frozen BK234.out 9
                  have hfz53_10 := blk_frozen BK234.out 10
                  have hfz53_11 := blk_frozen BK234.out 11
                  try go_wp2_with (first | ((with_reducible refine gate_callee (f := 33) rfl ?_); refine goesL_ (some 70) rfl rfl Try.func33 (by kernel_rfl) rfl #[.slice (some ad233) l0.length c0, .int .i64 ((rd_T50 l0 a1).f1)] rfl (by (try simp only [List.map_toArray, List.map_cons, List.map_nil]); first | done | rfl | (simp only [List.length_drop, List.length_take]; rfl)) ?_; (with_reducible refine (ih kj10 (by have := HJ10.out; omega) _ _ l0 ((rd_T50 l0 a1).f1) t241 t242 _ ?side1 ?side2 A50.out).mono ?_); (case side1 => repeat (first | exact (Kd.C_below HR0.out HB.out) | (with_reducible refine Kd.C_alloc ?_ _) | (with_reducible refine Kd.C_drewN ?_ _) | (with_reducible refine Kd.C_drew ?_))); (case side2 => exact HC0.out); rintro e w54 ⟨rfl, hb⟩; refine ⟨_, rfl, ?_⟩; have n0_ := Aside0.mk (blk_below (g := gb234) (o := .cells #[.int .i64 ((rd_T50 l0 a1).f0), .int .i64 ((rd_T50 l0 a1).f1), .int .i64 ((rd_T50 l0 a1).f2), .int .u64 ((rd_T50 l0 a1).f3.f0), .int .u64 ((rd_T50 l0 a1).f3.f1), .int .u64 ((rd_T50 l0 a1).f3.f2), .int .u64 ((rd_T50 l0 a1).f3.f3), .int .i64 ((rd_T50 l0 a1).f4), .int .i64 ((rd_T50 l0 a1).f5), .int .i64 ((rd_T50 l0 a1).f6), .int .i64 ((rd_T50 l0 a1).f7), .bool ((rd_T50 l0 a1).f8)] 50 (0, 0)) (by (with_reducible repeat (first | refine blk_drewN ?_ _ | refine blk_drew ?_ | refine blk_alloc ?_ _)); exact BK234.out) hb); have n1_ := Aside0.mk (below_step (by repeat (first | (with_reducible first | exact HB.out | apply below_alloc | apply pw_below_drewN | apply below_drew1 | refine below_set ?_ GE234.out) | exact HB.out)) hb); clear BK234; clear HB; have BK234 := n0_; have HB := n1_; clear n0_ n1_; (try clear hb); (try clear hb2); (try clear hk); (try clear hi)))
                  have n0_ := Aside0.mk (blk_drew BK234.out)
                  have n1_ := Aside0.mk (below_drew1 HB.out)
                  clear BK234
                  clear HB
                  have BK234 := n0_
                  have HB := n1_
                  clear n0_ n1_
                  refine start_ (n := 10) (S := fun w' => w'.cell? ⟨gb234, 0, none⟩ = some (.int .i64 ((rd_T50 l0 a1).f0)) ∧ w'.cell? ⟨gb234, 1, none⟩ = some (.int .i64 ((rd_T50 l0 a1).f1)) ∧ w'.cell? ⟨gb234, 2, none⟩ = some (.int .i64 ((rd_T50 l0 a1).f2)) ∧ w'.cell? ⟨gb234, 3, none⟩ = some (.int .u64 ((rd_T50 l0 a1).f3.f0)) ∧ w'.cell? ⟨gb234, 4, none⟩ = some (.int .u64 ((rd_T50 l0 a1).f3.f1)) ∧ w'.cell? ⟨gb234, 5, none⟩ = some (.int .u64 ((rd_T50 l0 a1).f3.f2)) ∧ w'.cell? ⟨gb234, 6, none⟩ = some (.int .u64 ((rd_T50 l0 a1).f3.f3)) ∧ w'.cell? ⟨gb234, 7, none⟩ = some (.int .i64 ((rd_T50 l0 a1).f4)) ∧ w'.cell? ⟨gb234, 8, none⟩ = some (.int .i64 ((rd_T50 l0 a1).f5)) ∧ w'.cell? ⟨gb234, 9, none⟩ = some (.int .i64 ((rd_T50 l0 a1).f6)) ∧ w'.cell? ⟨gb234, 10, none⟩ = some (.int .i64 ((rd_T50 l0 a1).f7)) ∧ w'.cell? ⟨gb234, 11, none⟩ = some (.bool ((rd_T50 l0 a1).f8))) (ds := []) #[false, false, false, false, false, false, false, false, false, false] (by kernel_rfl) rfl rfl ⟨(blk_cell BK234.out 0).trans rfl, (blk_cell BK234.out 1).trans rfl, (blk_cell BK234.out 2).trans rfl, (blk_cell BK234.out 3).trans rfl, (blk_cell BK234.out 4).trans rfl, (blk_cell BK234.out 5).trans rfl, (blk_cell BK234.out 6).trans rfl, (blk_cell BK234.out 7).trans rfl, (blk_cell BK234.out 8).trans rfl, (blk_cell BK234.out 9).trans rfl, (blk_cell BK234.out 10).trans rfl, (blk_cell BK234.out 11).trans rfl⟩ (fun hHeld => ?_); refine with_tabW clewref05_Lens.tab18 clewref05_Lens.bits18 (fun HT_ HW_ => ?_)
                  generalize w54.drew = w55 at BK234 HB hHeld ⊢
                  refine pure_ (i := 0) (N := some 73) (v := ?_) (a' := ?_) #[true, false, false, false, false, false, false, false, false, false] rfl rfl (any_of HT_.out (by kernel_rfl)) (fun _ _ _ h => h) (Or.inl ⟨by rfl, ?_⟩) ?_ ?_
                  rotate_left
                  · intro w'
                    go_simp
                    with_reducible rfl
                  rotate_left
                  · simp only [Act.put, List.setIfInBounds_toArray, List.set_cons_zero, List.set_cons_succ, i64_w, i32_w]
                    rfl
                  refine pure_ (i := 1) (N := some 74) (v := ?_) (a' := ?_) #[true, true, false, false, false, false, false, false, false, false] rfl rfl (any_of HT_.out (by kernel_rfl)) (fun _ _ _ h => h) (Or.inl ⟨by rfl, ?_⟩) ?_ ?_
                  rotate_left
                  · intro w'
                    go_simp
                    with_reducible rfl
                  rotate_left
                  · simp only [Act.put, List.setIfInBounds_toArray, List.set_cons_zero, List.set_cons_succ, i64_w, i32_w]
                    rfl
                  refine pure_ (i := 4) (N := some 77) (v := ?_) (a' := ?_) #[true, true, false, false, true, false, false, false, false, false] rfl rfl (any_of HT_.out (by kernel_rfl)) (fun _ _ _ h => h) (Or.inl ⟨by rfl, ?_⟩) ?_ ?_
                  rotate_left
                  · intro w'
                    go_simp
                    with_reducible rfl
                  rotate_left
                  · simp only [Act.put, List.setIfInBounds_toArray, List.set_cons_zero, List.set_cons_succ, i64_w, i32_w]
                    rfl
                  refine pure_ (i := 5) (N := some 78) (v := ?_) (a' := ?_) #[true, true, false, false, true, true, false, false, false, false] rfl rfl (any_of HT_.out (by kernel_rfl)) (fun _ _ _ h => h) (Or.inl ⟨by rfl, ?_⟩) ?_ ?_
                  rotate_left
                  · intro w'
                    go_simp
                    with_reducible rfl
                  rotate_left
                  · simp only [Act.put, List.setIfInBounds_toArray, List.set_cons_zero, List.set_cons_succ, i64_w, i32_w]
                    rfl
                  refine take_ (i := 2) (N := some 75) (v := ?_) (a' := ?_) #[true, true, true, false, true, true, false, false, false, false] rfl rfl (take_ofW HT_.out HW_.out (by kernel_rfl)) (fun _ _ _ h => h) (Or.inl ⟨by rfl, ?_⟩) hHeld ?_ ?_
                  rotate_left
                  · rintro w' ⟨s0, s1, s2, s3, s4, s5, s6, s7, s8, s9, s10, s11⟩
                    go_simp
                    with_reducible rfl
                  rotate_left
                  · simp only [Act.put, List.setIfInBounds_toArray, List.set_cons_zero, List.set_cons_succ, i64_w, i32_w]
                    rfl
                  refine take_ (i := 6) (N := some 79) (v := ?_) (a' := ?_) #[true, true, true, false, true, true, true, false, false, false] rfl rfl (take_ofW HT_.out HW_.out (by kernel_rfl)) (fun _ _ _ h => h) (Or.inl ⟨by rfl, ?_⟩) hHeld ?_ ?_
                  rotate_left
                  · rintro w' ⟨s0, s1, s2, s3, s4, s5, s6, s7, s8, s9, s10, s11⟩
                    go_simp
                    with_reducible rfl
                  rotate_left
                  · simp only [Act.put, List.setIfInBounds_toArray, List.set_cons_zero, List.set_cons_succ, i64_w, i32_w]
                    rfl
                  refine one_ (i := 3) (N := some 76) #[true, true, true, true, true, true, true, false, false, false] rfl rfl (one_of HT_.out (by kernel_rfl)) (by decide) (fun K hK => ?_)
                  refine goes_ Try.func47 (by kernel_rfl) rfl #[.int .i64 t241, .int .i64 ((rd_T50 l0 a1).f4)] (by rfl) rfl rfl (by (try simp only [List.map_toArray, List.map_cons, List.map_nil]); first | done | rfl | (simp only [List.length_drop, List.length_take]; rfl)) ?_
                  with_reducible refine (clewref05_Times.calls kj10 t241 ((rd_T50 l0 a1).f4) t243 _ A51.out).mono ?_
                  rintro e w56 ⟨rfl, hb⟩
                  refine ⟨_, rfl, ?_⟩
                  have n0_ := Aside0.mk (blk_below (g := gb234) (o := .cells #[.int .i64 ((rd_T50 l0 a1).f0), .int .i64 ((rd_T50 l0 a1).f1), .int .i64 ((rd_T50 l0 a1).f2), .int .u64 ((rd_T50 l0 a1).f3.f0), .int .u64 ((rd_T50 l0 a1).f3.f1), .int .u64 ((rd_T50 l0 a1).f3.f2), .int .u64 ((rd_T50 l0 a1).f3.f3), .int .i64 ((rd_T50 l0 a1).f4), .int .i64 ((rd_T50 l0 a1).f5), .int .i64 ((rd_T50 l0 a1).f6), .int .i64 ((rd_T50 l0 a1).f7), .bool ((rd_T50 l0 a1).f8)] 50 (0, 0)) (by (with_reducible repeat (first | refine blk_drewN ?_ _ | refine blk_drew ?_ | refine blk_alloc ?_ _)); exact BK234.out) hb)
                  have n1_ := Aside0.mk (below_step (by repeat (first | (with_reducible first | exact HB.out | apply below_alloc | apply pw_below_drewN | apply below_drew1 | refine below_set ?_ GE234.out) | exact HB.out)) hb)
                  clear BK234
                  clear HB
                  have BK234 := n0_
                  have HB := n1_
                  clear n0_ n1_
                  (try clear hb)
                  (try clear hb2)
                  (try clear hk)
                  (try clear hi)
                  refine hK.out _ _ ⟨(blk_cell BK234.out 0).trans rfl, (blk_cell BK234.out 1).trans rfl, (blk_cell BK234.out 2).trans rfl, (blk_cell BK234.out 3).trans rfl, (blk_cell BK234.out 4).trans rfl, (blk_cell BK234.out 5).trans rfl, (blk_cell BK234.out 6).trans rfl, (blk_cell BK234.out 7).trans rfl, (blk_cell BK234.out 8).trans rfl, (blk_cell BK234.out 9).trans rfl, (blk_cell BK234.out 10).trans rfl, (blk_cell BK234.out 11).trans rfl⟩ (fun hHeld => ?_)
                  clear hK K
                  refine norm_ (a' := ?_) ?_ ?_
                  rotate_left
                  · show Act.put _ (some 76) _ = _
                    simp only [Act.put, List.setIfInBounds_toArray, List.set_cons_zero, List.set_cons_succ, i64_w, i32_w]
                    rfl
                  refine one_ (i := 7) (N := some 80) #[true, true, true, true, true, true, true, true, false, false] rfl rfl (one_of HT_.out (by kernel_rfl)) (by decide) (fun K hK => ?_)
                  refine goes_ Try.func47 (by kernel_rfl) rfl #[.int .i64 t242, .int .i64 ((rd_T50 l0 a1).f5)] (by rfl) rfl rfl (by (try simp only [List.map_toArray, List.map_cons, List.map_nil]); first | done | rfl | (simp only [List.length_drop, List.length_take]; rfl)) ?_
                  with_reducible refine (clewref05_Times.calls kj10 t242 ((rd_T50 l0 a1).f5) t244 _ A52.out).mono ?_
                  rintro e w57 ⟨rfl, hb⟩
                  refine ⟨_, rfl, ?_⟩
                  have n0_ := Aside0.mk (blk_below (g := gb234) (o := .cells #[.int .i64 ((rd_T50 l0 a1).f0), .int .i64 ((rd_T50 l0 a1).f1), .int .i64 ((rd_T50 l0 a1).f2), .int .u64 ((rd_T50 l0 a1).f3.f0), .int .u64 ((rd_T50 l0 a1).f3.f1), .int .u64 ((rd_T50 l0 a1).f3.f2), .int .u64 ((rd_T50 l0 a1).f3.f3), .int .i64 ((rd_T50 l0 a1).f4), .int .i64 ((rd_T50 l0 a1).f5), .int .i64 ((rd_T50 l0 a1).f6), .int .i64 ((rd_T50 l0 a1).f7), .bool ((rd_T50 l0 a1).f8)] 50 (0, 0)) (by (with_reducible repeat (first | refine blk_drewN ?_ _ | refine blk_drew ?_ | refine blk_alloc ?_ _)); exact BK234.out) hb)
                  have n1_ := Aside0.mk (below_step (by repeat (first | (with_reducible first | exact HB.out | apply below_alloc | apply pw_below_drewN | apply below_drew1 | refine below_set ?_ GE234.out) | exact HB.out)) hb)
                  clear BK234
                  clear HB
                  have BK234 := n0_
                  have HB := n1_
                  clear n0_ n1_
                  (try clear hb)
                  (try clear hb2)
                  (try clear hk)
                  (try clear hi)
                  refine hK.out _ _ ⟨(blk_cell BK234.out 0).trans rfl, (blk_cell BK234.out 1).trans rfl, (blk_cell BK234.out 2).trans rfl, (blk_cell BK234.out 3).trans rfl, (blk_cell BK234.out 4).trans rfl, (blk_cell BK234.out 5).trans rfl, (blk_cell BK234.out 6).trans rfl, (blk_cell BK234.out 7).trans rfl, (blk_cell BK234.out 8).trans rfl, (blk_cell BK234.out 9).trans rfl, (blk_cell BK234.out 10).trans rfl, (blk_cell BK234.out 11).trans rfl⟩ (fun hHeld => ?_)
                  clear hK K
                  refine norm_ (a' := ?_) ?_ ?_
                  rotate_left
                  · show Act.put _ (some 80) _ = _
                    simp only [Act.put, List.setIfInBounds_toArray, List.set_cons_zero, List.set_cons_succ, i64_w, i32_w]
                    rfl
                  refine pure_ (i := 8) (N := some 4) (v := ?_) (a' := ?_) #[true, true, true, true, true, true, true, true, true, false] rfl rfl (any_of HT_.out (by kernel_rfl)) (fun _ _ _ h => h) (Or.inl ⟨by rfl, ?_⟩) ?_ ?_
                  rotate_left
                  · intro w'
                    go_simp
                    with_reducible rfl
                  rotate_left
                  · simp only [Act.put, List.setIfInBounds_toArray, List.set_cons_zero, List.set_cons_succ, i64_w, i32_w]
                    rfl
                  refine pure_ (i := 9) (N := some 5) (v := ?_) (a' := ?_) #[true, true, true, true, true, true, true, true, true, true] rfl rfl (any_of HT_.out (by kernel_rfl)) (fun _ _ _ h => h) (Or.inl ⟨by rfl, ?_⟩) ?_ ?_
                  rotate_left
                  · intro w'
                    go_simp
                    with_reducible rfl
                  rotate_left
                  · simp only [Act.put, List.setIfInBounds_toArray, List.set_cons_zero, List.set_cons_succ, i64_w, i32_w]
                    rfl
                  refine done_ (done_of HT_.out (by kernel_rfl)) ?_
                  try go_wp2
                  go_ret2
                  exact ⟨by first | rfl | (simp [errW_none, errW_some] <;> rfl) | (simp [*, errW_none, errW_some] <;> rfl), by repeat (first | (with_reducible first | exact HB.out | apply below_alloc | apply pw_below_drewN | apply below_drew1 | refine below_set ?_ GE234.out) | exact HB.out)⟩
                · rw [if_neg c49] at H
                  have c49b0 : (((rd_T50 l0 a1).f0) == 10) = false := beq_eq_false_iff_ne.mpr c49
                  have c49b1 : (((rd_T50 l0 a1).f0) != 10) = true := bne_iff_ne.mpr c49
                  by_cases c58 : ((rd_T50 l0 a1).f0) = 11
                  · rw [if_pos c58] at H
                    have c58b0 : (((rd_T50 l0 a1).f0) == 11) = true := beq_iff_eq.mpr c58
                    have c58b1 : (((rd_T50 l0 a1).f0) != 11) = false := bne_eq_false_iff_eq.mpr c58
                    clear c58
                    replace H := Option.bind_eq_some_iff.mp H
                    obtain ⟨⟨t245, t246⟩, A590, H⟩ := H
                    replace H : (some (t245, t246)) = some (r1, r2) := H
                    have A59 := Aside0.mk A590
                    clear A590
                    simp only [Option.some.injEq, Prod.mk.injEq] at H
                    obtain ⟨rfl, rfl⟩ := H
                    have hcz60_0 : wc.cell? ⟨gb234, 0, none⟩ = some (.int .i64 ((rd_T50 l0 a1).f0)) := (blk_cell BK234.out 0).trans rfl
                    have hcz60_1 : wc.cell? ⟨gb234, 1, none⟩ = some (.int .i64 ((rd_T50 l0 a1).f1)) := (blk_cell BK234.out 1).trans rfl
                    have hcz60_2 : wc.cell? ⟨gb234, 2, none⟩ = some (.int .i64 ((rd_T50 l0 a1).f2)) := (blk_cell BK234.out 2).trans rfl
                    have hcz60_3 : wc.cell? ⟨gb234, 3, none⟩ = some (.int .u64 ((rd_T50 l0 a1).f3.f0)) := (blk_cell BK234.out 3).trans rfl
                    have hcz60_4 : wc.cell? ⟨gb234, 4, none⟩ = some (.int .u64 ((rd_T50 l0 a1).f3.f1)) := (blk_cell BK234.out 4).trans rfl
                    have hcz60_5 : wc.cell? ⟨gb234, 5, none⟩ = some (.int .u64 ((rd_T50 l0 a1).f3.f2)) := (blk_cell BK234.out 5).trans rfl
                    have hcz60_6 : wc.cell? ⟨gb234, 6, none⟩ = some (.int .u64 ((rd_T50 l0 a1).f3.f3)) := (blk_cell BK234.out 6).trans rfl
                    have hcz60_7 : wc.cell? ⟨gb234, 7, none⟩ = some (.int .i64 ((rd_T50 l0 a1).f4)) := (blk_cell BK234.out 7).trans rfl
                    have hcz60_8 : wc.cell? ⟨gb234, 8, none⟩ = some (.int .i64 ((rd_T50 l0 a1).f5)) := (blk_cell BK234.out 8).trans rfl
                    have hcz60_9 : wc.cell? ⟨gb234, 9, none⟩ = some (.int .i64 ((rd_T50 l0 a1).f6)) := (blk_cell BK234.out 9).trans rfl
                    have hcz60_10 : wc.cell? ⟨gb234, 10, none⟩ = some (.int .i64 ((rd_T50 l0 a1).f7)) := (blk_cell BK234.out 10).trans rfl
                    have hcz60_11 : wc.cell? ⟨gb234, 11, none⟩ = some (.bool ((rd_T50 l0 a1).f8)) := (blk_cell BK234.out 11).trans rfl
                    have hfz60_0 := blk_frozen BK234.out 0
                    have hfz60_1 := blk_frozen BK234.out 1
                    have hfz60_2 := blk_frozen BK234.out 2
                    have hfz60_3 := blk_frozen BK234.out 3
                    have hfz60_4 := blk_frozen BK234.out 4
                    have hfz60_5 := blk_frozen BK234.out 5
                    have hfz60_6 := blk_frozen BK234.out 6
                    have hfz60_7 := blk_frozen BK234.out 7
                    have hfz60_8 := blk_frozen BK234.out 8
                    have hfz60_9 := blk_frozen BK234.out 9
                    have hfz60_10 := blk_frozen BK234.out 10
                    have hfz60_11 := blk_frozen BK234.out 11
                    go_wp2_with (first | ((with_reducible refine gate_callee (f := 33) rfl ?_); refine goesL_ (some 87) rfl rfl Try.func33 (by kernel_rfl) rfl #[.slice (some ad233) l0.length c0, .int .i64 ((rd_T50 l0 a1).f1)] rfl (by (try simp only [List.map_toArray, List.map_cons, List.map_nil]); first | done | rfl | (simp only [List.length_drop, List.length_take]; rfl)) ?_; (with_reducible refine (ih kj10 (by have := HJ10.out; omega) _ _ l0 ((rd_T50 l0 a1).f1) t245 t246 _ ?side1 ?side2 A59.out).mono ?_); (case side1 => repeat (first | exact (Kd.C_below HR0.out HB.out) | (with_reducible refine Kd.C_alloc ?_ _) | (with_reducible refine Kd.C_drewN ?_ _) | (with_reducible refine Kd.C_drew ?_))); (case side2 => exact HC0.out); rintro e w61 ⟨rfl, hb⟩; refine ⟨_, rfl, ?_⟩; have n0_ := Aside0.mk (blk_below (g := gb234) (o := .cells #[.int .i64 ((rd_T50 l0 a1).f0), .int .i64 ((rd_T50 l0 a1).f1), .int .i64 ((rd_T50 l0 a1).f2), .int .u64 ((rd_T50 l0 a1).f3.f0), .int .u64 ((rd_T50 l0 a1).f3.f1), .int .u64 ((rd_T50 l0 a1).f3.f2), .int .u64 ((rd_T50 l0 a1).f3.f3), .int .i64 ((rd_T50 l0 a1).f4), .int .i64 ((rd_T50 l0 a1).f5), .int .i64 ((rd_T50 l0 a1).f6), .int .i64 ((rd_T50 l0 a1).f7), .bool ((rd_T50 l0 a1).f8)] 50 (0, 0)) (by (with_reducible repeat (first | refine blk_drewN ?_ _ | refine blk_drew ?_ | refine blk_alloc ?_ _)); exact BK234.out) hb); have n1_ := Aside0.mk (below_step (by repeat (first | (with_reducible first | exact HB.out | apply below_alloc | apply pw_below_drewN | apply below_drew1 | refine below_set ?_ GE234.out) | exact HB.out)) hb); clear BK234; clear HB; have BK234 := n0_; have HB := n1_; clear n0_ n1_; (try clear hb); (try clear hb2); (try clear hk); (try clear hi)))
                    go_ret2
                    exact ⟨by first | rfl | (simp [errW_none, errW_some] <;> rfl) | (simp [*, errW_none, errW_some] <;> rfl), by repeat (first | (with_reducible first | exact HB.out | apply below_alloc | apply pw_below_drewN | apply below_drew1 | refine below_set ?_ GE234.out) | exact HB.out)⟩
                  · rw [if_neg c58] at H
                    have c58b0 : (((rd_T50 l0 a1).f0) == 11) = false := beq_eq_false_iff_ne.mpr c58
                    have c58b1 : (((rd_T50 l0 a1).f0) != 11) = true := bne_iff_ne.mpr c58
                    by_cases c62 : ((rd_T50 l0 a1).f0) = 17
                    · rw [if_pos c62] at H
                      have c62b0 : (((rd_T50 l0 a1).f0) == 17) = true := beq_iff_eq.mpr c62
                      have c62b1 : (((rd_T50 l0 a1).f0) != 17) = false := bne_eq_false_iff_eq.mpr c62
                      clear c62
                      replace H := Option.bind_eq_some_iff.mp H
                      obtain ⟨⟨t247, t248⟩, A630, H⟩ := H
                      replace H : (some (t247, t248)) = some (r1, r2) := H
                      have A63 := Aside0.mk A630
                      clear A630
                      simp only [Option.some.injEq, Prod.mk.injEq] at H
                      obtain ⟨rfl, rfl⟩ := H
                      have hcz64_0 : wc.cell? ⟨gb234, 0, none⟩ = some (.int .i64 ((rd_T50 l0 a1).f0)) := (blk_cell BK234.out 0).trans rfl
                      have hcz64_1 : wc.cell? ⟨gb234, 1, none⟩ = some (.int .i64 ((rd_T50 l0 a1).f1)) := (blk_cell BK234.out 1).trans rfl
                      have hcz64_2 : wc.cell? ⟨gb234, 2, none⟩ = some (.int .i64 ((rd_T50 l0 a1).f2)) := (blk_cell BK234.out 2).trans rfl
                      have hcz64_3 : wc.cell? ⟨gb234, 3, none⟩ = some (.int .u64 ((rd_T50 l0 a1).f3.f0)) := (blk_cell BK234.out 3).trans rfl
                      have hcz64_4 : wc.cell? ⟨gb234, 4, none⟩ = some (.int .u64 ((rd_T50 l0 a1).f3.f1)) := (blk_cell BK234.out 4).trans rfl
                      have hcz64_5 : wc.cell? ⟨gb234, 5, none⟩ = some (.int .u64 ((rd_T50 l0 a1).f3.f2)) := (blk_cell BK234.out 5).trans rfl
                      have hcz64_6 : wc.cell? ⟨gb234, 6, none⟩ = some (.int .u64 ((rd_T50 l0 a1).f3.f3)) := (blk_cell BK234.out 6).trans rfl
                      have hcz64_7 : wc.cell? ⟨gb234, 7, none⟩ = some (.int .i64 ((rd_T50 l0 a1).f4)) := (blk_cell BK234.out 7).trans rfl
                      have hcz64_8 : wc.cell? ⟨gb234, 8, none⟩ = some (.int .i64 ((rd_T50 l0 a1).f5)) := (blk_cell BK234.out 8).trans rfl
                      have hcz64_9 : wc.cell? ⟨gb234, 9, none⟩ = some (.int .i64 ((rd_T50 l0 a1).f6)) := (blk_cell BK234.out 9).trans rfl
                      have hcz64_10 : wc.cell? ⟨gb234, 10, none⟩ = some (.int .i64 ((rd_T50 l0 a1).f7)) := (blk_cell BK234.out 10).trans rfl
                      have hcz64_11 : wc.cell? ⟨gb234, 11, none⟩ = some (.bool ((rd_T50 l0 a1).f8)) := (blk_cell BK234.out 11).trans rfl
                      have hfz64_0 := blk_frozen BK234.out 0
                      have hfz64_1 := blk_frozen BK234.out 1
                      have hfz64_2 := blk_frozen BK234.out 2
                      have hfz64_3 := blk_frozen BK234.out 3
                      have hfz64_4 := blk_frozen BK234.out 4
                      have hfz64_5 := blk_frozen BK234.out 5
                      have hfz64_6 := blk_frozen BK234.out 6
                      have hfz64_7 := blk_frozen BK234.out 7
                      have hfz64_8 := blk_frozen BK234.out 8
                      have hfz64_9 := blk_frozen BK234.out 9
                      have hfz64_10 := blk_frozen BK234.out 10
                      have hfz64_11 := blk_frozen BK234.out 11
                      go_wp2_with (first | ((with_reducible refine gate_callee (f := 33) rfl ?_); refine goesL_ (some 87) rfl rfl Try.func33 (by kernel_rfl) rfl #[.slice (some ad233) l0.length c0, .int .i64 ((rd_T50 l0 a1).f1)] rfl (by (try simp only [List.map_toArray, List.map_cons, List.map_nil]); first | done | rfl | (simp only [List.length_drop, List.length_take]; rfl)) ?_; (with_reducible refine (ih kj10 (by have := HJ10.out; omega) _ _ l0 ((rd_T50 l0 a1).f1) t247 t248 _ ?side1 ?side2 A63.out).mono ?_); (case side1 => repeat (first | exact (Kd.C_below HR0.out HB.out) | (with_reducible refine Kd.C_alloc ?_ _) | (with_reducible refine Kd.C_drewN ?_ _) | (with_reducible refine Kd.C_drew ?_))); (case side2 => exact HC0.out); rintro e w65 ⟨rfl, hb⟩; refine ⟨_, rfl, ?_⟩; have n0_ := Aside0.mk (blk_below (g := gb234) (o := .cells #[.int .i64 ((rd_T50 l0 a1).f0), .int .i64 ((rd_T50 l0 a1).f1), .int .i64 ((rd_T50 l0 a1).f2), .int .u64 ((rd_T50 l0 a1).f3.f0), .int .u64 ((rd_T50 l0 a1).f3.f1), .int .u64 ((rd_T50 l0 a1).f3.f2), .int .u64 ((rd_T50 l0 a1).f3.f3), .int .i64 ((rd_T50 l0 a1).f4), .int .i64 ((rd_T50 l0 a1).f5), .int .i64 ((rd_T50 l0 a1).f6), .int .i64 ((rd_T50 l0 a1).f7), .bool ((rd_T50 l0 a1).f8)] 50 (0, 0)) (by (with_reducible repeat (first | refine blk_drewN ?_ _ | refine blk_drew ?_ | refine blk_alloc ?_ _)); exact BK234.out) hb); have n1_ := Aside0.mk (below_step (by repeat (first | (with_reducible first | exact HB.out | apply below_alloc | apply pw_below_drewN | apply below_drew1 | refine below_set ?_ GE234.out) | exact HB.out)) hb); clear BK234; clear HB; have BK234 := n0_; have HB := n1_; clear n0_ n1_; (try clear hb); (try clear hb2); (try clear hk); (try clear hi)))
                      go_ret2
                      exact ⟨by first | rfl | (simp [errW_none, errW_some] <;> rfl) | (simp [*, errW_none, errW_some] <;> rfl), by repeat (first | (with_reducible first | exact HB.out | apply below_alloc | apply pw_below_drewN | apply below_drew1 | refine below_set ?_ GE234.out) | exact HB.out)⟩
                    · rw [if_neg c62] at H
                      have c62b0 : (((rd_T50 l0 a1).f0) == 17) = false := beq_eq_false_iff_ne.mpr c62
                      have c62b1 : (((rd_T50 l0 a1).f0) != 17) = true := bne_iff_ne.mpr c62
                      simp only [Option.some.injEq, Prod.mk.injEq] at H
                      obtain ⟨rfl, rfl⟩ := H
                      go_wp2
                      go_ret2
                      exact ⟨by first | rfl | (simp [errW_none, errW_some] <;> rfl) | (simp [*, errW_none, errW_some] <;> rfl), by repeat (first | (with_reducible first | exact HB.out | apply below_alloc | apply pw_below_drewN | apply below_drew1 | refine below_set ?_ GE234.out) | exact HB.out)⟩
    · rw [if_neg c4] at H
      exact absurd H (by simp)
  · rw [if_neg c3] at H
    exact absurd H (by simp)

end Go.Proofs.Ytjeoiebdchlilaa.Q
