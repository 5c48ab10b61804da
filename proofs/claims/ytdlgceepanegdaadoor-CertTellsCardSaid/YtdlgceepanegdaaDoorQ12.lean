/- Go functions as Lean functions, each with the proof that its call answers just so; written by wip/tools/myprint.py. -/
import Derived.Test.YtdlgceepanegdaaDoorQ0
import Derived.Test.YtdlgceepanegdaaDoorQ11
namespace Go.Proofs.YtdlgceepanegdaaDoor.Q
open Go.RowKit Go.Proofs.YtdlgceepanegdaaDoorW.PrintWords Go.Proofs.YtdlgceepanegdaaDoorW.PrintLast Go.Proofs.YtdlgceepanegdaaDoorW.PrintMore
attribute [local go_sem] max2_int min2_int max_two min_two max_three min_three max_four min_four   -- for this text's walks alone
set_option linter.unusedVariables false
set_option linter.unusedSimpArgs false

/-! ### clewref15_Show: function 17 -/
mutual
def clewref15_Show.l0 : Nat → List (S36) → ByteArray → Int → Option (ByteArray)
  | 0, _, _, _ => none
  | k + 1, x0, x3, x4 => if x4 < (x0.length : Int) then (if x4 > 0 then (if x3.size + 1 ≤ 9223372036854775807 then (clewref15_Show.j1 k x0 (x3 ++ (⟨#[32]⟩ : ByteArray)) x4) else (none)) else (clewref15_Show.j1 k x0 x3 x4)) else (some x3)
def clewref15_Show.j1 : Nat → List (S36) → ByteArray → Int → Option (ByteArray)
  | 0, _, _, _ => none
  | k + 1, x0, x3, x4 => if 0 ≤ x4 then (if x4 < (x0.length : Int) then (if ((rd_T36 x0 x4).f0) < 0 then (clewref15_Show.j2 k x0 x3 x4 ((rd_T36 x0 x4).f0) true) else (clewref15_Show.j2 k x0 x3 x4 ((rd_T36 x0 x4).f0) (decide (((rd_T36 x0 x4).f0) > 5)))) else (none)) else (none)
def clewref15_Show.j2 : Nat → List (S36) → ByteArray → Int → Int → Bool → Option (ByteArray)
  | 0, _, _, _, _, _ => none
  | k + 1, x0, x3, x4, x5, x26 => if x26 = true then (if x3.size + 1 ≤ 9223372036854775807 then (if x5 = 0 then (if 0 ≤ x4 then (if x4 < (x0.length : Int) then ((clewref15_number.f k ((rd_T36 x0 x4).f1)).bind fun t146 => (if (x3 ++ (⟨#[63]⟩ : ByteArray)).size + t146.size ≤ 9223372036854775807 then (clewref15_Show.l0 k x0 ((x3 ++ (⟨#[63]⟩ : ByteArray)) ++ t146) (wrap64 (x4 + 1))) else (none))) else (none)) else (none)) else (if x5 = 5 then (if 0 ≤ x4 then (if x4 < (x0.length : Int) then ((clewref15_number.f k ((rd_T36 x0 x4).f1)).bind fun t148 => (if (x3 ++ (⟨#[63]⟩ : ByteArray)).size + t148.size ≤ 9223372036854775807 then (clewref15_Show.l0 k x0 ((x3 ++ (⟨#[63]⟩ : ByteArray)) ++ t148) (wrap64 (x4 + 1))) else (none))) else (none)) else (none)) else (clewref15_Show.l0 k x0 (x3 ++ (⟨#[63]⟩ : ByteArray)) (wrap64 (x4 + 1))))) else (none)) else ((some (([(⟨#[115]⟩ : ByteArray), (⟨#[116]⟩ : ByteArray), (⟨#[49]⟩ : ByteArray), (⟨#[50]⟩ : ByteArray), (⟨#[109]⟩ : ByteArray), (⟨#[114]⟩ : ByteArray)] : List ByteArray) : List ByteArray)).bind fun y149 => (if 0 ≤ x5 then (if x5 < (y149.length : Int) then (if x3.size + (rdOf ByteArray.empty y149 x5).size ≤ 9223372036854775807 then (if x5 = 0 then (if 0 ≤ x4 then (if x4 < (x0.length : Int) then ((clewref15_number.f k ((rd_T36 x0 x4).f1)).bind fun t154 => (if (x3 ++ (rdOf ByteArray.empty y149 x5)).size + t154.size ≤ 9223372036854775807 then (clewref15_Show.l0 k x0 ((x3 ++ (rdOf ByteArray.empty y149 x5)) ++ t154) (wrap64 (x4 + 1))) else (none))) else (none)) else (none)) else (if x5 = 5 then (if 0 ≤ x4 then (if x4 < (x0.length : Int) then ((clewref15_number.f k ((rd_T36 x0 x4).f1)).bind fun t156 => (if (x3 ++ (rdOf ByteArray.empty y149 x5)).size + t156.size ≤ 9223372036854775807 then (clewref15_Show.l0 k x0 ((x3 ++ (rdOf ByteArray.empty y149 x5)) ++ t156) (wrap64 (x4 + 1))) else (none))) else (none)) else (none)) else (clewref15_Show.l0 k x0 (x3 ++ (rdOf ByteArray.empty y149 x5)) (wrap64 (x4 + 1))))) else (none)) else (none)) else (none)))
end
def clewref15_Show.f (k : Nat) (l0 : List (S36)) : Option (ByteArray) := clewref15_Show.l0 k l0 (⟨#[]⟩ : ByteArray) 0
theorem clewref15_Show.mono_l : ∀ k, (∀ y0 y1 y2, LeO (clewref15_Show.l0 k y0 y1 y2) (clewref15_Show.l0 (k + 1) y0 y1 y2)) ∧ (∀ y0 y1 y2, LeO (clewref15_Show.j1 k y0 y1 y2) (clewref15_Show.j1 (k + 1) y0 y1 y2)) ∧ (∀ y0 y1 y2 y3 y4, LeO (clewref15_Show.j2 k y0 y1 y2 y3 y4) (clewref15_Show.j2 (k + 1) y0 y1 y2 y3 y4))
  | 0 => ⟨fun _ _ _ r h => by simp [clewref15_Show.l0] at h, fun _ _ _ r h => by simp [clewref15_Show.j1] at h, fun _ _ _ _ _ r h => by simp [clewref15_Show.j2] at h⟩
  | k + 1 => by
    obtain ⟨ih0, ih1, ih2⟩ := clewref15_Show.mono_l k
    refine ⟨?_, ?_, ?_⟩
    · intro y0 y1 y2
      unfold clewref15_Show.l0
      repeat' first
      | (with_reducible exact ih0 _ _ _)
      | (with_reducible exact ih1 _ _ _)
      | (with_reducible exact ih2 _ _ _ _ _)
      | (with_reducible exact clewref15_number.mono _ _)
      | (with_reducible exact LeO.refl _)
      | (with_reducible exact LeO.none _)
      | (with_reducible refine LeO.ite ?_ ?_)
      | (with_reducible refine LeO.bind ?_ (fun _ => ?_))
      | exact ih0 _ _ _
      | exact ih1 _ _ _
      | exact ih2 _ _ _ _ _
      | exact clewref15_number.mono _ _
      | exact LeO.none _
      | refine LeO.ite ?_ ?_
      | refine LeO.bind ?_ (fun _ => ?_)
    · intro y0 y1 y2
      unfold clewref15_Show.j1
      repeat' first
      | (with_reducible exact ih0 _ _ _)
      | (with_reducible exact ih1 _ _ _)
      | (with_reducible exact ih2 _ _ _ _ _)
      | (with_reducible exact clewref15_number.mono _ _)
      | (with_reducible exact LeO.refl _)
      | (with_reducible exact LeO.none _)
      | (with_reducible refine LeO.ite ?_ ?_)
      | (with_reducible refine LeO.bind ?_ (fun _ => ?_))
      | exact ih0 _ _ _
      | exact ih1 _ _ _
      | exact ih2 _ _ _ _ _
      | exact clewref15_number.mono _ _
      | exact LeO.none _
      | refine LeO.ite ?_ ?_
      | refine LeO.bind ?_ (fun _ => ?_)
    · intro y0 y1 y2 y3 y4
      unfold clewref15_Show.j2
      repeat' first
      | (with_reducible exact ih0 _ _ _)
      | (with_reducible exact ih1 _ _ _)
      | (with_reducible exact ih2 _ _ _ _ _)
      | (with_reducible exact clewref15_number.mono _ _)
      | (with_reducible exact LeO.refl _)
      | (with_reducible exact LeO.none _)
      | (with_reducible refine LeO.ite ?_ ?_)
      | (with_reducible refine LeO.bind ?_ (fun _ => ?_))
      | exact ih0 _ _ _
      | exact ih1 _ _ _
      | exact ih2 _ _ _ _ _
      | exact clewref15_number.mono _ _
      | exact LeO.none _
      | refine LeO.ite ?_ ?_
      | refine LeO.bind ?_ (fun _ => ?_)
theorem clewref15_Show.mono : ∀ a0 k, LeO (clewref15_Show.f k a0) (clewref15_Show.f (k + 1) a0) := by
  intro a0 k
  obtain ⟨ih0, ih1, ih2⟩ := clewref15_Show.mono_l k
  unfold clewref15_Show.f
  repeat' first
      | (with_reducible exact ih0 _ _ _)
      | (with_reducible exact ih1 _ _ _)
      | (with_reducible exact ih2 _ _ _ _ _)
      | (with_reducible exact clewref15_number.mono _ _)
      | (with_reducible exact LeO.refl _)
      | (with_reducible exact LeO.none _)
      | (with_reducible refine LeO.ite ?_ ?_)
      | (with_reducible refine LeO.bind ?_ (fun _ => ?_))
      | exact ih0 _ _ _
      | exact ih1 _ _ _
      | exact ih2 _ _ _ _ _
      | exact clewref15_number.mono _ _
      | exact LeO.none _
      | refine LeO.ite ?_ ?_
      | refine LeO.bind ?_ (fun _ => ?_)
set_option maxHeartbeats 8000000 in
set_option maxRecDepth 100000 in
theorem clewref15_Show.calls (k : Nat) (A0 : Option Addr) (c0 : Nat) (l0 : List (S36)) (r : ByteArray) (w : World) (hr0 : Kd.C k36 w A0 l0.length l0) (hc0 : l0.length ≤ c0) (h : clewref15_Show.f k l0 = some r) :
    Calls Tryd.prog 17 #[.slice A0 l0.length c0] w fun e w' => e = .returned (.string r) ∧ Below w.heap.size w w' := by
  have HR0 := Aside0.mk hr0
  have HC0 := Aside0.mk hc0
  clear hr0 hc0
  have HB := Aside0.mk (Below.refl w.heap.size w)
  have H : (clewref15_Show.l0 k l0 (⟨#[]⟩ : ByteArray) 0) = some r := h
  clear h
  have H' := Aside0.mk H
  clear H
  go_enter Tryd.func17, Tryd.ntmps17
  go_wp2
  go_loopg [3, 4] k (fun kq v3 v4 w' => ∃ (x3_1 : ByteArray) (x4_1 : Int), v3 = .string x3_1 ∧ v4 = .int .i64 x4_1 ∧ Aside0 (clewref15_Show.l0 kq l0 x3_1 x4_1 = some r) ∧ Aside0 (kq ≤ k) ∧ Aside0 (Below w.heap.size w w'))
  case atStart => exact ⟨((⟨#[]⟩ : ByteArray)), (0), (by first | rfl | (simp; done) | (simp [*]; done)), (by first | rfl | (simp; done) | (simp [*]; done)), H', ⟨Nat.le_refl _⟩, ⟨by repeat (first | (with_reducible first | exact HB.out | apply below_alloc | apply pw_below_drewN | apply below_drew1) | exact HB.out)⟩⟩
  case round =>
    clear H'
    try clear c1
    obtain ⟨x3_1, x4_1, rfl, rfl, HA, HK1, HB⟩ := hrel
    cases gk with
    | zero => exact absurd HA.out (by simp [clewref15_Show.l0])
    | succ k1 =>
      have H := HA.out
      clear HA
      simp only [clewref15_Show.l0] at H
      by_cases c2 : x4_1 < (l0.length : Int)
      · rw [if_pos c2] at H
        have c2b0 : decide (x4_1 < (l0.length : Int)) = true := decide_eq_true c2
        clear c2
        have HC3 := Aside0.mk H
        clear H
        go_upto_if 13 with (fail)
        go_cut [3] (fun v3 wc => ∃ (kq : Nat) (x3_2 : ByteArray), v3 = .string x3_2 ∧ Aside0 (clewref15_Show.j1 kq l0 x3_2 x4_1 = some r) ∧ Aside0 (kq ≤ k1) ∧ Aside0 (Below w.heap.size w wc))
        case first =>
          have H := HC3.out
          clear HC3
          by_cases c4 : x4_1 > 0
          · rw [if_pos c4] at H
            have c4b0 : decide (0 < x4_1) = true := decide_eq_true c4
            clear c4
            (first | rw [c4b0] | (simp only [i64_w, i32_w]; rw [c4b0]) | skip)
            by_cases c5 : x3_1.size + 1 ≤ 9223372036854775807
            · rw [if_pos c5] at H
              have c5b0 := eq_true c5
              have c5b1 : decide (x3_1.size + 1 ≤ 9223372036854775807) = true := decide_eq_true c5
              try have c5b2 : (9223372036854775807 < x3_1.size + 1) = False := eq_false (Nat.not_lt.2 c5)
              have H' := Aside0.mk H
              clear H
              go_wp2
              go_meet
              case rel => exact ⟨_, (x3_1 ++ (⟨#[32]⟩ : ByteArray)), (by first | rfl | (simp; done) | (simp [*]; done)), H', ⟨by have := HK1.out; first | omega | exact Nat.le_refl _⟩, ⟨by repeat (first | (with_reducible first | exact HB.out | apply below_alloc | apply pw_below_drewN | apply below_drew1) | exact HB.out)⟩⟩
            · rw [if_neg c5] at H
              exact absurd H (by simp)
          · rw [if_neg c4] at H
            have c4b0 : decide (0 < x4_1) = false := decide_eq_false c4
            clear c4
            (first | rw [c4b0] | (simp only [i64_w, i32_w]; rw [c4b0]) | skip)
            have H' := Aside0.mk H
            clear H
            go_wp2
            go_meet
            case rel => exact ⟨_, (x3_1), (by first | rfl | (simp; done) | (simp [*]; done)), H', ⟨by have := HK1.out; first | omega | exact Nat.le_refl _⟩, ⟨by repeat (first | (with_reducible first | exact HB.out | apply below_alloc | apply pw_below_drewN | apply below_drew1) | exact HB.out)⟩⟩
        case rest =>
          clear HC3
          try clear c1
          try clear c2
          try clear c2b0
          try clear p2
          try clear c4
          try clear c4b0
          try clear c5
          try clear c5b0
          try clear c5b1
          try clear c5b2
          obtain ⟨kq, x3_2, rfl, HA, HJ2, HB⟩ := hcut
          cases kq with
          | zero => exact absurd HA.out (by simp [clewref15_Show.j1])
          | succ kj2 =>
            have H := HA.out
            clear HA
            simp only [clewref15_Show.j1] at H
            by_cases c6 : 0 ≤ x4_1
            · rw [if_pos c6] at H
              have c6b0 : decide (0 ≤ x4_1) = true := decide_eq_true c6
              clear c6
              by_cases c7 : x4_1 < (l0.length : Int)
              · rw [if_pos c7] at H
                have c7b0 : decide (x4_1 < (l0.length : Int)) = true := decide_eq_true c7
                clear c7
                have HC8 := Aside0.mk H
                clear H
                have p144 : 0 ≤ (x4_1 : Int) := of_decide_eq_true (by first | (with_reducible assumption) | assumption)
                have q144 : x4_1 < (l0.length : Int) := of_decide_eq_true (by first | (with_reducible assumption) | assumption)
                obtain ⟨ad144, e144, hx144_0, hx144_1⟩ := at_T36 HR0.out x4_1 p144 q144
                cases e144
                replace hx144_0 := (HB.out.cell (World.block_lt_of_cell? w _ hx144_0)).trans hx144_0
                replace hx144_1 := (HB.out.cell (World.block_lt_of_cell? w _ hx144_1)).trans hx144_1
                replace p144 := eq_true p144
                replace q144 := eq_true q144
                go_upto_region 8 with (fail)
                go_cut [26] (fun v26 wc => ∃ (kq : Nat) (x26_7 : Bool), v26 = .bool x26_7 ∧ Aside0 (clewref15_Show.j2 kq l0 x3_2 x4_1 ((rd_T36 l0 x4_1).f0) x26_7 = some r) ∧ Aside0 (kq ≤ kj2) ∧ Aside0 (Below w.heap.size w wc))
                case first =>
                  have H := HC8.out
                  clear HC8
                  by_cases c9 : ((rd_T36 l0 x4_1).f0) < 0
                  · rw [if_pos c9] at H
                    have c9b0 : decide (((rd_T36 l0 x4_1).f0) < 0) = true := decide_eq_true c9
                    clear c9
                    (first | rw [c9b0] | (simp only [i64_w, i32_w]; rw [c9b0]) | skip)
                    have H' := Aside0.mk H
                    clear H
                    go_wp2
                    go_meet
                    case rel => exact ⟨_, (true), (by first | rfl | (simp; done) | (simp [*]; done)), H', ⟨by have := HK1.out; have := HJ2.out; first | omega | exact Nat.le_refl _⟩, ⟨by repeat (first | (with_reducible first | exact HB.out | apply below_alloc | apply pw_below_drewN | apply below_drew1) | exact HB.out)⟩⟩
                  · rw [if_neg c9] at H
                    have c9b0 : decide (((rd_T36 l0 x4_1).f0) < 0) = false := decide_eq_false c9
                    clear c9
                    (first | rw [c9b0] | (simp only [i64_w, i32_w]; rw [c9b0]) | skip)
                    have H' := Aside0.mk H
                    clear H
                    go_wp2
                    go_meet
                    case rel => exact ⟨_, (decide (((rd_T36 l0 x4_1).f0) > 5)), (by first | rfl | (simp; done) | (simp [*]; done)), H', ⟨by have := HK1.out; have := HJ2.out; first | omega | exact Nat.le_refl _⟩, ⟨by repeat (first | (with_reducible first | exact HB.out | apply below_alloc | apply pw_below_drewN | apply below_drew1) | exact HB.out)⟩⟩
                case rest =>
                  clear HC8
                  try clear c1
                  try clear p1
                  try clear q1
                  try clear hx1
                  try clear c2
                  try clear c2b0
                  try clear p2
                  try clear c4
                  try clear c4b0
                  try clear c5
                  try clear c5b0
                  try clear c5b1
                  try clear c5b2
                  try clear c6
                  try clear c6b0
                  try clear c7
                  try clear c7b0
                  try clear c9
                  try clear c9b0
                  try clear hx144_0
                  try clear hx144_1
                  try clear p144
                  try clear p2
                  try clear q144
                  obtain ⟨kq, x26_7, rfl, HA, HJ7, HB⟩ := hcut
                  cases kq with
                  | zero => exact absurd HA.out (by simp [clewref15_Show.j2])
                  | succ kj7 =>
                    have H := HA.out
                    clear HA
                    simp only [clewref15_Show.j2] at H
                    by_cases c10 : x26_7 = true
                    · subst c10
                      have H1 : (if x3_2.size + 1 ≤ 9223372036854775807 then (if ((rd_T36 l0 x4_1).f0) = 0 then (if 0 ≤ x4_1 then (if x4_1 < (l0.length : Int) then ((clewref15_number.f kj7 ((rd_T36 l0 x4_1).f1)).bind fun t146 => (if (x3_2 ++ (⟨#[63]⟩ : ByteArray)).size + t146.size ≤ 9223372036854775807 then (clewref15_Show.l0 kj7 l0 ((x3_2 ++ (⟨#[63]⟩ : ByteArray)) ++ t146) (wrap64 (x4_1 + 1))) else (none))) else (none)) else (none)) else (if ((rd_T36 l0 x4_1).f0) = 5 then (if 0 ≤ x4_1 then (if x4_1 < (l0.length : Int) then ((clewref15_number.f kj7 ((rd_T36 l0 x4_1).f1)).bind fun t148 => (if (x3_2 ++ (⟨#[63]⟩ : ByteArray)).size + t148.size ≤ 9223372036854775807 then (clewref15_Show.l0 kj7 l0 ((x3_2 ++ (⟨#[63]⟩ : ByteArray)) ++ t148) (wrap64 (x4_1 + 1))) else (none))) else (none)) else (none)) else (clewref15_Show.l0 kj7 l0 (x3_2 ++ (⟨#[63]⟩ : ByteArray)) (wrap64 (x4_1 + 1))))) else (none)) = some r := by rw [if_pos rfl] at H; exact H
                      clear H
                      have H := H1
                      clear H1
                      by_cases c11 : x3_2.size + 1 ≤ 9223372036854775807
                      · rw [if_pos c11] at H
                        have c11b0 := eq_true c11
                        have c11b1 : decide (x3_2.size + 1 ≤ 9223372036854775807) = true := decide_eq_true c11
                        try have c11b2 : (9223372036854775807 < x3_2.size + 1) = False := eq_false (Nat.not_lt.2 c11)
                        by_cases c12 : ((rd_T36 l0 x4_1).f0) = 0
                        · rw [if_pos c12] at H
                          have c12b0 : (((rd_T36 l0 x4_1).f0) == 0) = true := beq_iff_eq.mpr c12
                          have c12b1 : (((rd_T36 l0 x4_1).f0) != 0) = false := bne_eq_false_iff_eq.mpr c12
                          clear c12
                          by_cases c13 : 0 ≤ x4_1
                          · rw [if_pos c13] at H
                            have c13b0 : decide (0 ≤ x4_1) = true := decide_eq_true c13
                            clear c13
                            by_cases c14 : x4_1 < (l0.length : Int)
                            · rw [if_pos c14] at H
                              have c14b0 : decide (x4_1 < (l0.length : Int)) = true := decide_eq_true c14
                              clear c14
                              replace H := Option.bind_eq_some_iff.mp H
                              obtain ⟨t146, A150, H⟩ := H
                              replace H : (if (x3_2 ++ (⟨#[63]⟩ : ByteArray)).size + t146.size ≤ 9223372036854775807 then (clewref15_Show.l0 kj7 l0 ((x3_2 ++ (⟨#[63]⟩ : ByteArray)) ++ t146) (wrap64 (x4_1 + 1))) else (none)) = some r := H
                              have A15 := Aside0.mk A150
                              clear A150
                              by_cases c16 : (x3_2 ++ (⟨#[63]⟩ : ByteArray)).size + t146.size ≤ 9223372036854775807
                              · rw [if_pos c16] at H
                                have c16b0 := eq_true c16
                                have c16b1 : decide ((x3_2 ++ (⟨#[63]⟩ : ByteArray)).size + t146.size ≤ 9223372036854775807) = true := decide_eq_true c16
                                try have c16b2 : (9223372036854775807 < (x3_2 ++ (⟨#[63]⟩ : ByteArray)).size + t146.size) = False := eq_false (Nat.not_lt.2 c16)
                                try have c16s : (9223372036854775807 < x3_2.size + 1 + t146.size) = False := by (have h_ := c16b2; rw [ByteArray.size_append] at h_; exact h_)
                                have H' := Aside0.mk H
                                clear H
                                have p145 : 0 ≤ (x4_1 : Int) := of_decide_eq_true (by first | (with_reducible assumption) | assumption)
                                have q145 : x4_1 < (l0.length : Int) := of_decide_eq_true (by first | (with_reducible assumption) | assumption)
                                obtain ⟨ad145, e145, hx145_0, hx145_1⟩ := at_T36 HR0.out x4_1 p145 q145
                                obtain rfl : ad144 = ad145 := (by injection e145)
                                replace hx145_0 := (HB.out.cell (World.block_lt_of_cell? w _ hx145_0)).trans hx145_0
                                replace hx145_1 := (HB.out.cell (World.block_lt_of_cell? w _ hx145_1)).trans hx145_1
                                replace p145 := eq_true p145
                                replace q145 := eq_true q145
                                go_wp2_with (first | ((with_reducible refine gate_callee (f := 27) rfl ?_); refine goesL_ (some 47) rfl rfl Tryd.func27 (by kernel_rfl) rfl #[.int .i64 ((rd_T36 l0 x4_1).f1)] rfl (by (try simp only [List.map_toArray, List.map_cons, List.map_nil]); first | done | rfl | (simp only [List.length_drop, List.length_take]; rfl)) ?_; (with_reducible refine (clewref15_number.calls kj7 ((rd_T36 l0 x4_1).f1) t146 _ A15.out).mono ?_); rintro e w17 ⟨rfl, hb⟩; refine ⟨_, rfl, ?_⟩; have n0_ := Aside0.mk (below_step (by repeat (first | (with_reducible first | exact HB.out | apply below_alloc | apply pw_below_drewN | apply below_drew1) | exact HB.out)) hb); clear HB; have HB := n0_; clear n0_; (try clear hb); (try clear hb2); (try clear hk); (try clear hi)))
                                go_roundg kj7
                                case measure => have := HK1.out; have := HJ2.out; have := HJ7.out; omega
                                case rel => exact ⟨((x3_2 ++ (⟨#[63]⟩ : ByteArray)) ++ t146), (wrap64 (x4_1 + 1)), (by first | rfl | (simp; done) | (simp [*]; done)), (by first | rfl | (simp; done) | (simp [*]; done)), H', ⟨by have := HK1.out; have := HJ2.out; have := HJ7.out; omega⟩, ⟨by repeat (first | (with_reducible first | exact HB.out | apply below_alloc | apply pw_below_drewN | apply below_drew1) | exact HB.out)⟩⟩
                              · rw [if_neg c16] at H
                                exact absurd H (by simp)
                            · rw [if_neg c14] at H
                              exact absurd H (by simp)
                          · rw [if_neg c13] at H
                            exact absurd H (by simp)
                        · rw [if_neg c12] at H
                          have c12b0 : (((rd_T36 l0 x4_1).f0) == 0) = false := beq_eq_false_iff_ne.mpr c12
                          have c12b1 : (((rd_T36 l0 x4_1).f0) != 0) = true := bne_iff_ne.mpr c12
                          by_cases c18 : ((rd_T36 l0 x4_1).f0) = 5
                          · rw [if_pos c18] at H
                            have c18b0 : (((rd_T36 l0 x4_1).f0) == 5) = true := beq_iff_eq.mpr c18
                            have c18b1 : (((rd_T36 l0 x4_1).f0) != 5) = false := bne_eq_false_iff_eq.mpr c18
                            clear c18
                            by_cases c19 : 0 ≤ x4_1
                            · rw [if_pos c19] at H
                              have c19b0 : decide (0 ≤ x4_1) = true := decide_eq_true c19
                              clear c19
                              by_cases c20 : x4_1 < (l0.length : Int)
                              · rw [if_pos c20] at H
                                have c20b0 : decide (x4_1 < (l0.length : Int)) = true := decide_eq_true c20
                                clear c20
                                replace H := Option.bind_eq_some_iff.mp H
                                obtain ⟨t148, A210, H⟩ := H
                                replace H : (if (x3_2 ++ (⟨#[63]⟩ : ByteArray)).size + t148.size ≤ 9223372036854775807 then (clewref15_Show.l0 kj7 l0 ((x3_2 ++ (⟨#[63]⟩ : ByteArray)) ++ t148) (wrap64 (x4_1 + 1))) else (none)) = some r := H
                                have A21 := Aside0.mk A210
                                clear A210
                                by_cases c22 : (x3_2 ++ (⟨#[63]⟩ : ByteArray)).size + t148.size ≤ 9223372036854775807
                                · rw [if_pos c22] at H
                                  have c22b0 := eq_true c22
                                  have c22b1 : decide ((x3_2 ++ (⟨#[63]⟩ : ByteArray)).size + t148.size ≤ 9223372036854775807) = true := decide_eq_true c22
                                  try have c22b2 : (9223372036854775807 < (x3_2 ++ (⟨#[63]⟩ : ByteArray)).size + t148.size) = False := eq_false (Nat.not_lt.2 c22)
                                  try have c22s : (9223372036854775807 < x3_2.size + 1 + t148.size) = False := by (have h_ := c22b2; rw [ByteArray.size_append] at h_; exact h_)
                                  have H' := Aside0.mk H
                                  clear H
                                  have p147 : 0 ≤ (x4_1 : Int) := of_decide_eq_true (by first | (with_reducible assumption) | assumption)
                                  have q147 : x4_1 < (l0.length : Int) := of_decide_eq_true (by first | (with_reducible assumption) | assumption)
                                  obtain ⟨ad147, e147, hx147_0, hx147_1⟩ := at_T36 HR0.out x4_1 p147 q147
                                  obtain rfl : ad144 = ad147 := (by injection e147)
                                  replace hx147_0 := (HB.out.cell (World.block_lt_of_cell? w _ hx147_0)).trans hx147_0
                                  replace hx147_1 := (HB.out.cell (World.block_lt_of_cell? w _ hx147_1)).trans hx147_1
                                  replace p147 := eq_true p147
                                  replace q147 := eq_true q147
                                  go_wp2_with (first | ((with_reducible refine gate_callee (f := 27) rfl ?_); refine goesL_ (some 47) rfl rfl Tryd.func27 (by kernel_rfl) rfl #[.int .i64 ((rd_T36 l0 x4_1).f1)] rfl (by (try simp only [List.map_toArray, List.map_cons, List.map_nil]); first | done | rfl | (simp only [List.length_drop, List.length_take]; rfl)) ?_; (with_reducible refine (clewref15_number.calls kj7 ((rd_T36 l0 x4_1).f1) t148 _ A21.out).mono ?_); rintro e w23 ⟨rfl, hb⟩; refine ⟨_, rfl, ?_⟩; have n0_ := Aside0.mk (below_step (by repeat (first | (with_reducible first | exact HB.out | apply below_alloc | apply pw_below_drewN | apply below_drew1) | exact HB.out)) hb); clear HB; have HB := n0_; clear n0_; (try clear hb); (try clear hb2); (try clear hk); (try clear hi)))
                                  go_roundg kj7
                                  case measure => have := HK1.out; have := HJ2.out; have := HJ7.out; omega
                                  case rel => exact ⟨((x3_2 ++ (⟨#[63]⟩ : ByteArray)) ++ t148), (wrap64 (x4_1 + 1)), (by first | rfl | (simp; done) | (simp [*]; done)), (by first | rfl | (simp; done) | (simp [*]; done)), H', ⟨by have := HK1.out; have := HJ2.out; have := HJ7.out; omega⟩, ⟨by repeat (first | (with_reducible first | exact HB.out | apply below_alloc | apply pw_below_drewN | apply below_drew1) | exact HB.out)⟩⟩
                                · rw [if_neg c22] at H
                                  exact absurd H (by simp)
                              · rw [if_neg c20] at H
                                exact absurd H (by simp)
                            · rw [if_neg c19] at H
                              exact absurd H (by simp)
                          · rw [if_neg c18] at H
                            have c18b0 : (((rd_T36 l0 x4_1).f0) == 5) = false := beq_eq_false_iff_ne.mpr c18
                            have c18b1 : (((rd_T36 l0 x4_1).f0) != 5) = true := bne_iff_ne.mpr c18
                            have H' := Aside0.mk H
                            clear H
                            go_wp2
                            go_roundg kj7
                            case measure => have := HK1.out; have := HJ2.out; have := HJ7.out; omega
                            case rel => exact ⟨(x3_2 ++ (⟨#[63]⟩ : ByteArray)), (wrap64 (x4_1 + 1)), (by first | rfl | (simp; done) | (simp [*]; done)), (by first | rfl | (simp; done) | (simp [*]; done)), H', ⟨by have := HK1.out; have := HJ2.out; have := HJ7.out; omega⟩, ⟨by repeat (first | (with_reducible first | exact HB.out | apply below_alloc | apply pw_below_drewN | apply below_drew1) | exact HB.out)⟩⟩
                      · rw [if_neg c11] at H
                        exact absurd H (by simp)
                    · replace c10 := Bool.eq_false_iff.mpr c10
                      subst c10
                      have H1 : ((some (([(⟨#[115]⟩ : ByteArray), (⟨#[116]⟩ : ByteArray), (⟨#[49]⟩ : ByteArray), (⟨#[50]⟩ : ByteArray), (⟨#[109]⟩ : ByteArray), (⟨#[114]⟩ : ByteArray)] : List ByteArray) : List ByteArray)).bind fun y149 => (if 0 ≤ ((rd_T36 l0 x4_1).f0) then (if ((rd_T36 l0 x4_1).f0) < (y149.length : Int) then (if x3_2.size + (rdOf ByteArray.empty y149 ((rd_T36 l0 x4_1).f0)).size ≤ 9223372036854775807 then (if ((rd_T36 l0 x4_1).f0) = 0 then (if 0 ≤ x4_1 then (if x4_1 < (l0.length : Int) then ((clewref15_number.f kj7 ((rd_T36 l0 x4_1).f1)).bind fun t154 => (if (x3_2 ++ (rdOf ByteArray.empty y149 ((rd_T36 l0 x4_1).f0))).size + t154.size ≤ 9223372036854775807 then (clewref15_Show.l0 kj7 l0 ((x3_2 ++ (rdOf ByteArray.empty y149 ((rd_T36 l0 x4_1).f0))) ++ t154) (wrap64 (x4_1 + 1))) else (none))) else (none)) else (none)) else (if ((rd_T36 l0 x4_1).f0) = 5 then (if 0 ≤ x4_1 then (if x4_1 < (l0.length : Int) then ((clewref15_number.f kj7 ((rd_T36 l0 x4_1).f1)).bind fun t156 => (if (x3_2 ++ (rdOf ByteArray.empty y149 ((rd_T36 l0 x4_1).f0))).size + t156.size ≤ 9223372036854775807 then (clewref15_Show.l0 kj7 l0 ((x3_2 ++ (rdOf ByteArray.empty y149 ((rd_T36 l0 x4_1).f0))) ++ t156) (wrap64 (x4_1 + 1))) else (none))) else (none)) else (none)) else (clewref15_Show.l0 kj7 l0 (x3_2 ++ (rdOf ByteArray.empty y149 ((rd_T36 l0 x4_1).f0))) (wrap64 (x4_1 + 1))))) else (none)) else (none)) else (none))) = some r := by rw [if_neg (show ¬ (false = true) by decide)] at H; exact H
                      clear H
                      have H := H1
                      clear H1
                      obtain ⟨y149, hy149⟩ : ∃ y_ : List ByteArray, y_ = (([(⟨#[115]⟩ : ByteArray), (⟨#[116]⟩ : ByteArray), (⟨#[49]⟩ : ByteArray), (⟨#[50]⟩ : ByteArray), (⟨#[109]⟩ : ByteArray), (⟨#[114]⟩ : ByteArray)] : List ByteArray)) := ⟨_, rfl⟩
                      replace H : (if 0 ≤ ((rd_T36 l0 x4_1).f0) then (if ((rd_T36 l0 x4_1).f0) < (y149.length : Int) then (if x3_2.size + (rdOf ByteArray.empty y149 ((rd_T36 l0 x4_1).f0)).size ≤ 9223372036854775807 then (if ((rd_T36 l0 x4_1).f0) = 0 then (if 0 ≤ x4_1 then (if x4_1 < (l0.length : Int) then ((clewref15_number.f kj7 ((rd_T36 l0 x4_1).f1)).bind fun t154 => (if (x3_2 ++ (rdOf ByteArray.empty y149 ((rd_T36 l0 x4_1).f0))).size + t154.size ≤ 9223372036854775807 then (clewref15_Show.l0 kj7 l0 ((x3_2 ++ (rdOf ByteArray.empty y149 ((rd_T36 l0 x4_1).f0))) ++ t154) (wrap64 (x4_1 + 1))) else (none))) else (none)) else (none)) else (if ((rd_T36 l0 x4_1).f0) = 5 then (if 0 ≤ x4_1 then (if x4_1 < (l0.length : Int) then ((clewref15_number.f kj7 ((rd_T36 l0 x4_1).f1)).bind fun t156 => (if (x3_2 ++ (rdOf ByteArray.empty y149 ((rd_T36 l0 x4_1).f0))).size + t156.size ≤ 9223372036854775807 then (clewref15_Show.l0 kj7 l0 ((x3_2 ++ (rdOf ByteArray.empty y149 ((rd_T36 l0 x4_1).f0))) ++ t156) (wrap64 (x4_1 + 1))) else (none))) else (none)) else (none)) else (clewref15_Show.l0 kj7 l0 (x3_2 ++ (rdOf ByteArray.empty y149 ((rd_T36 l0 x4_1).f0))) (wrap64 (x4_1 + 1))))) else (none)) else (none)) else (none)) = some r := by first | (rw [hy149]; with_reducible exact H) | (have H2_ := (Option.bind_some _ _).symm.trans H; rw [hy149]; with_reducible exact H2_) | (have H2_ := (Option.bind_some _ _).symm.trans H; with_reducible exact H2_) | with_reducible exact H | (rw [hy149]; exact H) | exact H
                      have Ny149 := Aside0.mk hy149
                      clear hy149
                      by_cases c24 : 0 ≤ ((rd_T36 l0 x4_1).f0)
                      · rw [if_pos c24] at H
                        have c24b0 : decide (0 ≤ ((rd_T36 l0 x4_1).f0)) = true := decide_eq_true c24
                        clear c24
                        by_cases c25 : ((rd_T36 l0 x4_1).f0) < (y149.length : Int)
                        · rw [if_pos c25] at H
                          have c25b0 : decide (((rd_T36 l0 x4_1).f0) < (y149.length : Int)) = true := decide_eq_true c25
                          clear c25
                          by_cases c26 : x3_2.size + (rdOf ByteArray.empty y149 ((rd_T36 l0 x4_1).f0)).size ≤ 9223372036854775807
                          · rw [if_pos c26] at H
                            have c26b0 := eq_true c26
                            have c26b1 : decide (x3_2.size + (rdOf ByteArray.empty y149 ((rd_T36 l0 x4_1).f0)).size ≤ 9223372036854775807) = true := decide_eq_true c26
                            try have c26b2 : (9223372036854775807 < x3_2.size + (rdOf ByteArray.empty y149 ((rd_T36 l0 x4_1).f0)).size) = False := eq_false (Nat.not_lt.2 c26)
                            by_cases c27 : ((rd_T36 l0 x4_1).f0) = 0
                            · rw [if_pos c27] at H
                              have c27b0 : (((rd_T36 l0 x4_1).f0) == 0) = true := beq_iff_eq.mpr c27
                              have c27b1 : (((rd_T36 l0 x4_1).f0) != 0) = false := bne_eq_false_iff_eq.mpr c27
                              clear c27
                              by_cases c28 : 0 ≤ x4_1
                              · rw [if_pos c28] at H
                                have c28b0 : decide (0 ≤ x4_1) = true := decide_eq_true c28
                                clear c28
                                by_cases c29 : x4_1 < (l0.length : Int)
                                · rw [if_pos c29] at H
                                  have c29b0 : decide (x4_1 < (l0.length : Int)) = true := decide_eq_true c29
                                  clear c29
                                  replace H := Option.bind_eq_some_iff.mp H
                                  obtain ⟨t154, A300, H⟩ := H
                                  replace H : (if (x3_2 ++ (rdOf ByteArray.empty y149 ((rd_T36 l0 x4_1).f0))).size + t154.size ≤ 9223372036854775807 then (clewref15_Show.l0 kj7 l0 ((x3_2 ++ (rdOf ByteArray.empty y149 ((rd_T36 l0 x4_1).f0))) ++ t154) (wrap64 (x4_1 + 1))) else (none)) = some r := H
                                  have A30 := Aside0.mk A300
                                  clear A300
                                  by_cases c31 : (x3_2 ++ (rdOf ByteArray.empty y149 ((rd_T36 l0 x4_1).f0))).size + t154.size ≤ 9223372036854775807
                                  · rw [if_pos c31] at H
                                    have c31b0 := eq_true c31
                                    have c31b1 : decide ((x3_2 ++ (rdOf ByteArray.empty y149 ((rd_T36 l0 x4_1).f0))).size + t154.size ≤ 9223372036854775807) = true := decide_eq_true c31
                                    try have c31b2 : (9223372036854775807 < (x3_2 ++ (rdOf ByteArray.empty y149 ((rd_T36 l0 x4_1).f0))).size + t154.size) = False := eq_false (Nat.not_lt.2 c31)
                                    try have c31s : (9223372036854775807 < x3_2.size + (rdOf ByteArray.empty y149 ((rd_T36 l0 x4_1).f0)).size + t154.size) = False := by (have h_ := c31b2; rw [ByteArray.size_append] at h_; exact h_)
                                    have H' := Aside0.mk H
                                    clear H
                                    go_wp2_with (first | ((with_reducible refine gate_dst (N := 30) rfl ?_); refine Kd.R_lit Kd.string _ 9 ?hg (N := 30) ?hd (xs := ([(⟨#[115]⟩ : ByteArray), (⟨#[116]⟩ : ByteArray), (⟨#[49]⟩ : ByteArray), (⟨#[50]⟩ : ByteArray), (⟨#[109]⟩ : ByteArray), (⟨#[114]⟩ : ByteArray)] : List ByteArray)) (inner := [.string (⟨#[115]⟩ : ByteArray), .string (⟨#[116]⟩ : ByteArray), .string (⟨#[49]⟩ : ByteArray), .string (⟨#[50]⟩ : ByteArray), .string (⟨#[109]⟩ : ByteArray), .string (⟨#[114]⟩ : ByteArray)]) (ok := fun _ => True) (okp := fun _ => True) ?hr ?hp (fun _ hk => hk) trivial (Below.refl _ _) (Nat.le_refl _) (by simp) ?_; (case hd => rfl); (case hg => rfl); (case hr => first | (go_simp; done) | (go_simp; rfl)); (case hp => exact (Reps.one (show Kd.M Kd.string _ _ _ (⟨#[115]⟩ : ByteArray) [.string (⟨#[115]⟩ : ByteArray)] from rfl) (Reps.one (show Kd.M Kd.string _ _ _ (⟨#[116]⟩ : ByteArray) [.string (⟨#[116]⟩ : ByteArray)] from rfl) (Reps.one (show Kd.M Kd.string _ _ _ (⟨#[49]⟩ : ByteArray) [.string (⟨#[49]⟩ : ByteArray)] from rfl) (Reps.one (show Kd.M Kd.string _ _ _ (⟨#[50]⟩ : ByteArray) [.string (⟨#[50]⟩ : ByteArray)] from rfl) (Reps.one (show Kd.M Kd.string _ _ _ (⟨#[109]⟩ : ByteArray) [.string (⟨#[109]⟩ : ByteArray)] from rfl) (Reps.one (show Kd.M Kd.string _ _ _ (⟨#[114]⟩ : ByteArray) [.string (⟨#[114]⟩ : ByteArray)] from rfl) (Reps.none _ _)))))))); intro v150 w32 ho33 hb hg_ hnew_; clear hg_ hnew_; (first | rw [← Ny149.out] at ho33 | (simp only [Int.reduceToNat] at ho33; rw [← Ny149.out] at ho33)); have n0_ := Aside0.mk (Kd.R_lower ho33 (below_size (by repeat (first | (with_reducible first | exact HB.out | apply below_alloc | apply pw_below_drewN | apply below_drew1) | exact HB.out)))); have n1_ := Aside0.mk (below_step (by repeat (first | (with_reducible first | exact HB.out | apply below_alloc | apply pw_below_drewN | apply below_drew1) | exact HB.out)) hb); clear HB; have HO151 := n0_; have HB := n1_; clear n0_ n1_; clear hb ho33; obtain ⟨Ao34, co34, eo34⟩ := Kd.R_slice HO151.out; subst eo34; have p152 : 0 ≤ (((rd_T36 l0 x4_1).f0) : Int) := of_decide_eq_true (by first | (with_reducible assumption) | assumption); have q152 : ((rd_T36 l0 x4_1).f0) < (y149.length : Int) := of_decide_eq_true (by first | (with_reducible assumption) | assumption); obtain ⟨ad152, e152, hx152_0⟩ := Kd.at_string (Kd.R_reads' HO151.out).2.2 ((rd_T36 l0 x4_1).f0) p152 q152; cases e152; replace p152 := eq_true p152; replace q152 := eq_true q152; have p153 : 0 ≤ (x4_1 : Int) := of_decide_eq_true (by first | (with_reducible assumption) | assumption); have q153 : x4_1 < (l0.length : Int) := of_decide_eq_true (by first | (with_reducible assumption) | assumption); obtain ⟨ad153, e153, hx153_0, hx153_1⟩ := at_T36 HR0.out x4_1 p153 q153; obtain rfl : ad144 = ad153 := (by injection e153); replace hx153_0 := (HB.out.cell (World.block_lt_of_cell? w _ hx153_0)).trans hx153_0; replace hx153_1 := (HB.out.cell (World.block_lt_of_cell? w _ hx153_1)).trans hx153_1; replace p153 := eq_true p153; replace q153 := eq_true q153) | ((with_reducible refine gate_callee (f := 27) rfl ?_); refine goesL_ (some 47) rfl rfl Tryd.func27 (by kernel_rfl) rfl #[.int .i64 ((rd_T36 l0 x4_1).f1)] rfl (by (try simp only [List.map_toArray, List.map_cons, List.map_nil]); first | done | rfl | (simp only [List.length_drop, List.length_take]; rfl)) ?_; (with_reducible refine (clewref15_number.calls kj7 ((rd_T36 l0 x4_1).f1) t154 _ A30.out).mono ?_); rintro e w35 ⟨rfl, hb⟩; refine ⟨_, rfl, ?_⟩; have n0_ := Aside0.mk (Kd.R_below (by (with_reducible repeat (first | apply Kd.R_alloc | apply Kd.R_drewN | apply Kd.R_drew)); exact HO151.out) hb); have n1_ := Aside0.mk (below_step (by repeat (first | (with_reducible first | exact HB.out | apply below_alloc | apply pw_below_drewN | apply below_drew1) | exact HB.out)) hb); clear HO151; clear HB; have HO151 := n0_; have HB := n1_; clear n0_ n1_; (try clear hb); (try clear hb2); (try clear hk); (try clear hi)))
                                    go_roundg kj7
                                    case measure => have := HK1.out; have := HJ2.out; have := HJ7.out; omega
                                    case rel => exact ⟨((x3_2 ++ (rdOf ByteArray.empty y149 ((rd_T36 l0 x4_1).f0))) ++ t154), (wrap64 (x4_1 + 1)), (by first | rfl | (simp; done) | (simp [*]; done)), (by first | rfl | (simp; done) | (simp [*]; done)), H', ⟨by have := HK1.out; have := HJ2.out; have := HJ7.out; omega⟩, ⟨by repeat (first | (with_reducible first | exact HB.out | apply below_alloc | apply pw_below_drewN | apply below_drew1) | exact HB.out)⟩⟩
                                  · rw [if_neg c31] at H
                                    exact absurd H (by simp)
                                · rw [if_neg c29] at H
                                  exact absurd H (by simp)
                              · rw [if_neg c28] at H
                                exact absurd H (by simp)
                            · rw [if_neg c27] at H
                              have c27b0 : (((rd_T36 l0 x4_1).f0) == 0) = false := beq_eq_false_iff_ne.mpr c27
                              have c27b1 : (((rd_T36 l0 x4_1).f0) != 0) = true := bne_iff_ne.mpr c27
                              by_cases c36 : ((rd_T36 l0 x4_1).f0) = 5
                              · rw [if_pos c36] at H
                                have c36b0 : (((rd_T36 l0 x4_1).f0) == 5) = true := beq_iff_eq.mpr c36
                                have c36b1 : (((rd_T36 l0 x4_1).f0) != 5) = false := bne_eq_false_iff_eq.mpr c36
                                clear c36
                                by_cases c37 : 0 ≤ x4_1
                                · rw [if_pos c37] at H
                                  have c37b0 : decide (0 ≤ x4_1) = true := decide_eq_true c37
                                  clear c37
                                  by_cases c38 : x4_1 < (l0.length : Int)
                                  · rw [if_pos c38] at H
                                    have c38b0 : decide (x4_1 < (l0.length : Int)) = true := decide_eq_true c38
                                    clear c38
                                    replace H := Option.bind_eq_some_iff.mp H
                                    obtain ⟨t156, A390, H⟩ := H
                                    replace H : (if (x3_2 ++ (rdOf ByteArray.empty y149 ((rd_T36 l0 x4_1).f0))).size + t156.size ≤ 9223372036854775807 then (clewref15_Show.l0 kj7 l0 ((x3_2 ++ (rdOf ByteArray.empty y149 ((rd_T36 l0 x4_1).f0))) ++ t156) (wrap64 (x4_1 + 1))) else (none)) = some r := H
                                    have A39 := Aside0.mk A390
                                    clear A390
                                    by_cases c40 : (x3_2 ++ (rdOf ByteArray.empty y149 ((rd_T36 l0 x4_1).f0))).size + t156.size ≤ 9223372036854775807
                                    · rw [if_pos c40] at H
                                      have c40b0 := eq_true c40
                                      have c40b1 : decide ((x3_2 ++ (rdOf ByteArray.empty y149 ((rd_T36 l0 x4_1).f0))).size + t156.size ≤ 9223372036854775807) = true := decide_eq_true c40
                                      try have c40b2 : (9223372036854775807 < (x3_2 ++ (rdOf ByteArray.empty y149 ((rd_T36 l0 x4_1).f0))).size + t156.size) = False := eq_false (Nat.not_lt.2 c40)
                                      try have c40s : (9223372036854775807 < x3_2.size + (rdOf ByteArray.empty y149 ((rd_T36 l0 x4_1).f0)).size + t156.size) = False := by (have h_ := c40b2; rw [ByteArray.size_append] at h_; exact h_)
                                      have H' := Aside0.mk H
                                      clear H
                                      go_wp2_with (first | ((with_reducible refine gate_dst (N := 30) rfl ?_); refine Kd.R_lit Kd.string _ 9 ?hg (N := 30) ?hd (xs := ([(⟨#[115]⟩ : ByteArray), (⟨#[116]⟩ : ByteArray), (⟨#[49]⟩ : ByteArray), (⟨#[50]⟩ : ByteArray), (⟨#[109]⟩ : ByteArray), (⟨#[114]⟩ : ByteArray)] : List ByteArray)) (inner := [.string (⟨#[115]⟩ : ByteArray), .string (⟨#[116]⟩ : ByteArray), .string (⟨#[49]⟩ : ByteArray), .string (⟨#[50]⟩ : ByteArray), .string (⟨#[109]⟩ : ByteArray), .string (⟨#[114]⟩ : ByteArray)]) (ok := fun _ => True) (okp := fun _ => True) ?hr ?hp (fun _ hk => hk) trivial (Below.refl _ _) (Nat.le_refl _) (by simp) ?_; (case hd => rfl); (case hg => rfl); (case hr => first | (go_simp; done) | (go_simp; rfl)); (case hp => exact (Reps.one (show Kd.M Kd.string _ _ _ (⟨#[115]⟩ : ByteArray) [.string (⟨#[115]⟩ : ByteArray)] from rfl) (Reps.one (show Kd.M Kd.string _ _ _ (⟨#[116]⟩ : ByteArray) [.string (⟨#[116]⟩ : ByteArray)] from rfl) (Reps.one (show Kd.M Kd.string _ _ _ (⟨#[49]⟩ : ByteArray) [.string (⟨#[49]⟩ : ByteArray)] from rfl) (Reps.one (show Kd.M Kd.string _ _ _ (⟨#[50]⟩ : ByteArray) [.string (⟨#[50]⟩ : ByteArray)] from rfl) (Reps.one (show Kd.M Kd.string _ _ _ (⟨#[109]⟩ : ByteArray) [.string (⟨#[109]⟩ : ByteArray)] from rfl) (Reps.one (show Kd.M Kd.string _ _ _ (⟨#[114]⟩ : ByteArray) [.string (⟨#[114]⟩ : ByteArray)] from rfl) (Reps.none _ _)))))))); intro v150 w41 ho42 hb hg_ hnew_; clear hg_ hnew_; (first | rw [← Ny149.out] at ho42 | (simp only [Int.reduceToNat] at ho42; rw [← Ny149.out] at ho42)); have n0_ := Aside0.mk (Kd.R_lower ho42 (below_size (by repeat (first | (with_reducible first | exact HB.out | apply below_alloc | apply pw_below_drewN | apply below_drew1) | exact HB.out)))); have n1_ := Aside0.mk (below_step (by repeat (first | (with_reducible first | exact HB.out | apply below_alloc | apply pw_below_drewN | apply below_drew1) | exact HB.out)) hb); clear HB; have HO151 := n0_; have HB := n1_; clear n0_ n1_; clear hb ho42; obtain ⟨Ao43, co43, eo43⟩ := Kd.R_slice HO151.out; subst eo43; have p152 : 0 ≤ (((rd_T36 l0 x4_1).f0) : Int) := of_decide_eq_true (by first | (with_reducible assumption) | assumption); have q152 : ((rd_T36 l0 x4_1).f0) < (y149.length : Int) := of_decide_eq_true (by first | (with_reducible assumption) | assumption); obtain ⟨ad152, e152, hx152_0⟩ := Kd.at_string (Kd.R_reads' HO151.out).2.2 ((rd_T36 l0 x4_1).f0) p152 q152; cases e152; replace p152 := eq_true p152; replace q152 := eq_true q152; have p155 : 0 ≤ (x4_1 : Int) := of_decide_eq_true (by first | (with_reducible assumption) | assumption); have q155 : x4_1 < (l0.length : Int) := of_decide_eq_true (by first | (with_reducible assumption) | assumption); obtain ⟨ad155, e155, hx155_0, hx155_1⟩ := at_T36 HR0.out x4_1 p155 q155; obtain rfl : ad144 = ad155 := (by injection e155); replace hx155_0 := (HB.out.cell (World.block_lt_of_cell? w _ hx155_0)).trans hx155_0; replace hx155_1 := (HB.out.cell (World.block_lt_of_cell? w _ hx155_1)).trans hx155_1; replace p155 := eq_true p155; replace q155 := eq_true q155) | ((with_reducible refine gate_callee (f := 27) rfl ?_); refine goesL_ (some 47) rfl rfl Tryd.func27 (by kernel_rfl) rfl #[.int .i64 ((rd_T36 l0 x4_1).f1)] rfl (by (try simp only [List.map_toArray, List.map_cons, List.map_nil]); first | done | rfl | (simp only [List.length_drop, List.length_take]; rfl)) ?_; (with_reducible refine (clewref15_number.calls kj7 ((rd_T36 l0 x4_1).f1) t156 _ A39.out).mono ?_); rintro e w44 ⟨rfl, hb⟩; refine ⟨_, rfl, ?_⟩; have n0_ := Aside0.mk (Kd.R_below (by (with_reducible repeat (first | apply Kd.R_alloc | apply Kd.R_drewN | apply Kd.R_drew)); exact HO151.out) hb); have n1_ := Aside0.mk (below_step (by repeat (first | (with_reducible first | exact HB.out | apply below_alloc | apply pw_below_drewN | apply below_drew1) | exact HB.out)) hb); clear HO151; clear HB; have HO151 := n0_; have HB := n1_; clear n0_ n1_; (try clear hb); (try clear hb2); (try clear hk); (try clear hi)))
                                      go_roundg kj7
                                      case measure => have := HK1.out; have := HJ2.out; have := HJ7.out; omega
                                      case rel => exact ⟨((x3_2 ++ (rdOf ByteArray.empty y149 ((rd_T36 l0 x4_1).f0))) ++ t156), (wrap64 (x4_1 + 1)), (by first | rfl | (simp; done) | (simp [*]; done)), (by first | rfl | (simp; done) | (simp [*]; done)), H', ⟨by have := HK1.out; have := HJ2.out; have := HJ7.out; omega⟩, ⟨by repeat (first | (with_reducible first | exact HB.out | apply below_alloc | apply pw_below_drewN | apply below_drew1) | exact HB.out)⟩⟩
                                    · rw [if_neg c40] at H
                                      exact absurd H (by simp)
                                  · rw [if_neg c38] at H
                                    exact absurd H (by simp)
                                · rw [if_neg c37] at H
                                  exact absurd H (by simp)
                              · rw [if_neg c36] at H
                                have c36b0 : (((rd_T36 l0 x4_1).f0) == 5) = false := beq_eq_false_iff_ne.mpr c36
                                have c36b1 : (((rd_T36 l0 x4_1).f0) != 5) = true := bne_iff_ne.mpr c36
                                have H' := Aside0.mk H
                                clear H
                                go_wp2_with (first | ((with_reducible refine gate_dst (N := 30) rfl ?_); refine Kd.R_lit Kd.string _ 9 ?hg (N := 30) ?hd (xs := ([(⟨#[115]⟩ : ByteArray), (⟨#[116]⟩ : ByteArray), (⟨#[49]⟩ : ByteArray), (⟨#[50]⟩ : ByteArray), (⟨#[109]⟩ : ByteArray), (⟨#[114]⟩ : ByteArray)] : List ByteArray)) (inner := [.string (⟨#[115]⟩ : ByteArray), .string (⟨#[116]⟩ : ByteArray), .string (⟨#[49]⟩ : ByteArray), .string (⟨#[50]⟩ : ByteArray), .string (⟨#[109]⟩ : ByteArray), .string (⟨#[114]⟩ : ByteArray)]) (ok := fun _ => True) (okp := fun _ => True) ?hr ?hp (fun _ hk => hk) trivial (Below.refl _ _) (Nat.le_refl _) (by simp) ?_; (case hd => rfl); (case hg => rfl); (case hr => first | (go_simp; done) | (go_simp; rfl)); (case hp => exact (Reps.one (show Kd.M Kd.string _ _ _ (⟨#[115]⟩ : ByteArray) [.string (⟨#[115]⟩ : ByteArray)] from rfl) (Reps.one (show Kd.M Kd.string _ _ _ (⟨#[116]⟩ : ByteArray) [.string (⟨#[116]⟩ : ByteArray)] from rfl) (Reps.one (show Kd.M Kd.string _ _ _ (⟨#[49]⟩ : ByteArray) [.string (⟨#[49]⟩ : ByteArray)] from rfl) (Reps.one (show Kd.M Kd.string _ _ _ (⟨#[50]⟩ : ByteArray) [.string (⟨#[50]⟩ : ByteArray)] from rfl) (Reps.one (show Kd.M Kd.string _ _ _ (⟨#[109]⟩ : ByteArray) [.string (⟨#[109]⟩ : ByteArray)] from rfl) (Reps.one (show Kd.M Kd.string _ _ _ (⟨#[114]⟩ : ByteArray) [.string (⟨#[114]⟩ : ByteArray)] from rfl) (Reps.none _ _)))))))); intro v150 w45 ho46 hb hg_ hnew_; clear hg_ hnew_; (first | rw [← Ny149.out] at ho46 | (simp only [Int.reduceToNat] at ho46; rw [← Ny149.out] at ho46)); have n0_ := Aside0.mk (Kd.R_lower ho46 (below_size (by repeat (first | (with_reducible first | exact HB.out | apply below_alloc | apply pw_below_drewN | apply below_drew1) | exact HB.out)))); have n1_ := Aside0.mk (below_step (by repeat (first | (with_reducible first | exact HB.out | apply below_alloc | apply pw_below_drewN | apply below_drew1) | exact HB.out)) hb); clear HB; have HO151 := n0_; have HB := n1_; clear n0_ n1_; clear hb ho46; obtain ⟨Ao47, co47, eo47⟩ := Kd.R_slice HO151.out; subst eo47; have p152 : 0 ≤ (((rd_T36 l0 x4_1).f0) : Int) := of_decide_eq_true (by first | (with_reducible assumption) | assumption); have q152 : ((rd_T36 l0 x4_1).f0) < (y149.length : Int) := of_decide_eq_true (by first | (with_reducible assumption) | assumption); obtain ⟨ad152, e152, hx152_0⟩ := Kd.at_string (Kd.R_reads' HO151.out).2.2 ((rd_T36 l0 x4_1).f0) p152 q152; cases e152; replace p152 := eq_true p152; replace q152 := eq_true q152))
                                go_roundg kj7
                                case measure => have := HK1.out; have := HJ2.out; have := HJ7.out; omega
                                case rel => exact ⟨(x3_2 ++ (rdOf ByteArray.empty y149 ((rd_T36 l0 x4_1).f0))), (wrap64 (x4_1 + 1)), (by first | rfl | (simp; done) | (simp [*]; done)), (by first | rfl | (simp; done) | (simp [*]; done)), H', ⟨by have := HK1.out; have := HJ2.out; have := HJ7.out; omega⟩, ⟨by repeat (first | (with_reducible first | exact HB.out | apply below_alloc | apply pw_below_drewN | apply below_drew1) | exact HB.out)⟩⟩
                          · rw [if_neg c26] at H
                            exact absurd H (by simp)
                        · rw [if_neg c25] at H
                          exact absurd H (by simp)
                      · rw [if_neg c24] at H
                        exact absurd H (by simp)
              · rw [if_neg c7] at H
                exact absurd H (by simp)
            · rw [if_neg c6] at H
              exact absurd H (by simp)
      · rw [if_neg c2] at H
        have c2b0 : decide (x4_1 < (l0.length : Int)) = false := decide_eq_false c2
        clear c2
        obtain rfl := Option.some.inj H
        go_wp2
        go_ret
        exact ⟨by first | rfl | (simp [errW_none, errW_some] <;> rfl) | (simp [*, errW_none, errW_some] <;> rfl), by repeat (first | (with_reducible first | exact HB.out | apply below_alloc | apply pw_below_drewN | apply below_drew1) | exact HB.out)⟩

end Go.Proofs.YtdlgceepanegdaaDoor.Q
