/- Go functions as Lean functions, each with the proof that its call answers just so; written by wip/tools/myprint.py. -/
import Derived.Test.YtaaihcojedibeaaGreatDoorQ0
import Derived.Test.YtaaihcojedibeaaGreatDoorQ9
namespace Go.Proofs.YtaaihcojedibeaaGreatDoor.Q
open Go.RowKit Go.Proofs.YtaaihcojedibeaaGreatDoorW.PrintWords Go.Proofs.YtaaihcojedibeaaGreatDoorW.PrintLast Go.Proofs.YtaaihcojedibeaaGreatDoorW.PrintMore
attribute [local go_sem] max2_int min2_int max_two min_two max_three min_three max_four min_four   -- for this text's walks alone
set_option linter.unusedVariables false
set_option linter.unusedSimpArgs false

/-! ### clewref05_deep: function 73 -/
def clewref05_deep.f : Nat → List (S46) → Int → Option (Int)
  | 0, _, _ => none
  | k + 1, l0, a1 => if 0 ≤ a1 then (if a1 < (l0.length : Int) then ((clewref05_Kids.f k ((rd_T46 l0 a1).f0)).bind fun t184 => (if t184 = 0 then (some 1) else (if t184 = 1 then ((clewref05_deep.f k l0 ((rd_T46 l0 a1).f1)).bind fun t186 => (some (wrap64 (1 + t186)))) else ((clewref05_deep.f k l0 ((rd_T46 l0 a1).f1)).bind fun t188 => ((clewref05_deep.f k l0 ((rd_T46 l0 a1).f2)).bind fun t190 => (some (wrap64 (1 + (mx t188 t190))))))))) else (none)) else (none)
theorem clewref05_deep.mono_l : ∀ k, (∀ y0 y1, LeO (clewref05_deep.f k y0 y1) (clewref05_deep.f (k + 1) y0 y1))
  | 0 => fun _ _ r h => by simp [clewref05_deep.f] at h
  | k + 1 => by
    have ih0 := clewref05_deep.mono_l k
    · intro y0 y1
      unfold clewref05_deep.f
      repeat' first
      | (with_reducible exact ih0 _ _)
      | (with_reducible exact clewref05_Kids.mono _ _)
      | (with_reducible exact LeO.refl _)
      | (with_reducible exact LeO.none _)
      | (with_reducible refine LeO.ite ?_ ?_)
      | (with_reducible refine LeO.bind ?_ (fun _ => ?_))
      | exact ih0 _ _
      | exact clewref05_Kids.mono _ _
      | exact LeO.none _
      | refine LeO.ite ?_ ?_
      | refine LeO.bind ?_ (fun _ => ?_)
theorem clewref05_deep.mono : ∀ a0 a1 k, LeO (clewref05_deep.f k a0 a1) (clewref05_deep.f (k + 1) a0 a1) := by
  intro a0 a1 k
  have ih0 := clewref05_deep.mono_l k
  exact ih0 a0 a1
def clewref05_deep.T6 : Bool × List (List Nat × List Nat) := (true, [([], []), ([], []), ([], []), ([1, 2], [1, 2]), ([3], [3]), ([4], [4]), ([0, 5], [0, 5]), ([], []), ([], []), ([], []), ([8, 9], [8, 9]), ([10], [10]), ([11], [11]), ([7, 12, 6], [7, 12]), ([6, 13], [6, 13]), ([14], [14]), ([15, 13, 0, 1, 2, 3, 4, 5, 6, 7, 8, 9, 10, 11, 12, 13, 14, 15], [15])])
def clewref05_deep.B6 : List Nat := [0, 0, 0, 6, 14, 30, 63, 0, 0, 0, 768, 1792, 3840, 8191, 16383, 32767, 65535]
theorem clewref05_deep.tab6 : rtab .any (opsOf Tryz.f73 6) = clewref05_deep.T6 := by kernel_rfl
theorem clewref05_deep.bits6 : waitsOk clewref05_deep.T6.2 clewref05_deep.B6 = true := by kernel_rfl
set_option maxHeartbeats 8000000 in
set_option maxRecDepth 100000 in
theorem clewref05_deep.calls (k : Nat) : ∀ (A0 : Option Addr) (c0 : Nat) (l0 : List (S46)) (a1 : Int) (r : Int) (w : World) (hr0 : Kd.C k46 w A0 l0.length l0) (hc0 : l0.length ≤ c0) (h : clewref05_deep.f k l0 a1 = some r),
    Calls Tryz.prog 73 #[.slice A0 l0.length c0, .int .i64 a1] w fun e w' => e = .returned (.int .i64 r) ∧ Below w.heap.size w w' := by
  induction k using Nat.strongRecOn with
  | _ k ih =>
  intro A0 c0 l0 a1 r w hr0 hc0 h
  cases k with
  | zero => exact absurd h (by simp [clewref05_deep.f])
  | succ k =>
  simp only [clewref05_deep.f] at h
  have HR0 := Aside0.mk hr0
  have HC0 := Aside0.mk hc0
  clear hr0 hc0
  have HB := Aside0.mk (Below.refl w.heap.size w)
  have H : (if 0 ≤ a1 then (if a1 < (l0.length : Int) then ((clewref05_Kids.f k ((rd_T46 l0 a1).f0)).bind fun t184 => (if t184 = 0 then (some 1) else (if t184 = 1 then ((clewref05_deep.f k l0 ((rd_T46 l0 a1).f1)).bind fun t186 => (some (wrap64 (1 + t186)))) else ((clewref05_deep.f k l0 ((rd_T46 l0 a1).f1)).bind fun t188 => ((clewref05_deep.f k l0 ((rd_T46 l0 a1).f2)).bind fun t190 => (some (wrap64 (1 + (mx t188 t190))))))))) else (none)) else (none)) = some r := h
  clear h
  by_cases c3 : 0 ≤ a1
  · rw [if_pos c3] at H
    have c3b0 : decide (0 ≤ a1) = true := decide_eq_true c3
    clear c3
    by_cases c4 : a1 < (l0.length : Int)
    · rw [if_pos c4] at H
      have c4b0 : decide (a1 < (l0.length : Int)) = true := decide_eq_true c4
      clear c4
      replace H := Option.bind_eq_some_iff.mp H
      obtain ⟨t184, A50, H⟩ := H
      replace H : (if t184 = 0 then (some 1) else (if t184 = 1 then ((clewref05_deep.f k l0 ((rd_T46 l0 a1).f1)).bind fun t186 => (some (wrap64 (1 + t186)))) else ((clewref05_deep.f k l0 ((rd_T46 l0 a1).f1)).bind fun t188 => ((clewref05_deep.f k l0 ((rd_T46 l0 a1).f2)).bind fun t190 => (some (wrap64 (1 + (mx t188 t190)))))))) = some r := H
      have A5 := Aside0.mk A50
      clear A50
      by_cases c6 : t184 = 0
      · rw [if_pos c6] at H
        have c6b0 : (t184 == 0) = true := beq_iff_eq.mpr c6
        have c6b1 : (t184 != 0) = false := bne_eq_false_iff_eq.mpr c6
        clear c6
        obtain rfl := Option.some.inj H
        have p183 : 0 ≤ (a1 : Int) := of_decide_eq_true (by first | (with_reducible assumption) | assumption)
        have q183 : a1 < (l0.length : Int) := of_decide_eq_true (by first | (with_reducible assumption) | assumption)
        obtain ⟨ad183, e183, hx183_0, hx183_1, hx183_2, hx183_3, hx183_4, hx183_5, hx183_6, hx183_7, hx183_8, hx183_9, hx183_10, hx183_11⟩ := at_T46 HR0.out a1 p183 q183
        cases e183
        replace p183 := eq_true p183
        replace q183 := eq_true q183
        go_enter Tryz.func73, Tryz.ntmps73
        go_wp2_with (first | ((with_reducible refine gate_callee (f := 37) rfl ?_); refine goesL_ (some 11) rfl rfl Tryz.func37 (by kernel_rfl) rfl #[.int .i64 ((rd_T46 l0 a1).f0)] rfl (by (try simp only [List.map_toArray, List.map_cons, List.map_nil]); first | done | rfl | (simp only [List.length_drop, List.length_take]; rfl)) ?_; (with_reducible refine (clewref05_Kids.calls k ((rd_T46 l0 a1).f0) t184 _ A5.out).mono ?_); rintro e w' ⟨rfl, ⟨nd, rfl⟩⟩; refine ⟨_, rfl, ?_⟩))
        go_ret
        exact ⟨by first | rfl | (simp [errW_none, errW_some] <;> rfl) | (simp [*, errW_none, errW_some] <;> rfl), by repeat (first | (with_reducible first | exact HB.out | apply below_alloc | apply pw_below_drewN | apply below_drew1) | exact HB.out)⟩
      · rw [if_neg c6] at H
        have c6b0 : (t184 == 0) = false := beq_eq_false_iff_ne.mpr c6
        have c6b1 : (t184 != 0) = true := bne_iff_ne.mpr c6
        by_cases c7 : t184 = 1
        · rw [if_pos c7] at H
          have c7b0 : (t184 == 1) = true := beq_iff_eq.mpr c7
          have c7b1 : (t184 != 1) = false := bne_eq_false_iff_eq.mpr c7
          clear c7
          replace H := Option.bind_eq_some_iff.mp H
          obtain ⟨t186, A80, H⟩ := H
          replace H : (some (wrap64 (1 + t186))) = some r := H
          have A8 := Aside0.mk A80
          clear A80
          obtain rfl := Option.some.inj H
          have p183 : 0 ≤ (a1 : Int) := of_decide_eq_true (by first | (with_reducible assumption) | assumption)
          have q183 : a1 < (l0.length : Int) := of_decide_eq_true (by first | (with_reducible assumption) | assumption)
          obtain ⟨ad183, e183, hx183_0, hx183_1, hx183_2, hx183_3, hx183_4, hx183_5, hx183_6, hx183_7, hx183_8, hx183_9, hx183_10, hx183_11⟩ := at_T46 HR0.out a1 p183 q183
          cases e183
          replace p183 := eq_true p183
          replace q183 := eq_true q183
          go_enter Tryz.func73, Tryz.ntmps73
          go_wp2_with (first | ((with_reducible refine gate_callee (f := 37) rfl ?_); refine goesL_ (some 11) rfl rfl Tryz.func37 (by kernel_rfl) rfl #[.int .i64 ((rd_T46 l0 a1).f0)] rfl (by (try simp only [List.map_toArray, List.map_cons, List.map_nil]); first | done | rfl | (simp only [List.length_drop, List.length_take]; rfl)) ?_; (with_reducible refine (clewref05_Kids.calls k ((rd_T46 l0 a1).f0) t184 _ A5.out).mono ?_); rintro e w' ⟨rfl, ⟨nd, rfl⟩⟩; refine ⟨_, rfl, ?_⟩; have p185 : 0 ≤ (a1 : Int) := of_decide_eq_true (by first | (with_reducible assumption) | assumption); have q185 : a1 < (l0.length : Int) := of_decide_eq_true (by first | (with_reducible assumption) | assumption); obtain ⟨ad185, e185, hx185_0, hx185_1, hx185_2, hx185_3, hx185_4, hx185_5, hx185_6, hx185_7, hx185_8, hx185_9, hx185_10, hx185_11⟩ := at_T46 HR0.out a1 p185 q185; obtain rfl : ad183 = ad185 := (by injection e185); replace p185 := eq_true p185; replace q185 := eq_true q185) | ((with_reducible refine gate_callee (f := 73) rfl ?_); refine goesL_ (some 22) rfl rfl Tryz.func73 (by kernel_rfl) rfl #[.slice (some ad183) l0.length c0, .int .i64 ((rd_T46 l0 a1).f1)] rfl (by (try simp only [List.map_toArray, List.map_cons, List.map_nil]); first | done | rfl | (simp only [List.length_drop, List.length_take]; rfl)) ?_; (with_reducible refine (ih k (by omega) _ _ l0 ((rd_T46 l0 a1).f1) t186 _ ?side1 ?side2 A8.out).mono ?_); (case side1 => repeat (first | exact HR0.out | (with_reducible refine Kd.C_alloc ?_ _) | (with_reducible refine Kd.C_drewN ?_ _) | (with_reducible refine Kd.C_drew ?_))); (case side2 => exact HC0.out); rintro e w9 ⟨rfl, hb⟩; refine ⟨_, rfl, ?_⟩; have n0_ := Aside0.mk (below_step (by repeat (first | (with_reducible first | exact HB.out | apply below_alloc | apply pw_below_drewN | apply below_drew1) | exact HB.out)) hb); clear HB; have HB := n0_; clear n0_; (try clear hb); (try clear hb2); (try clear hk); (try clear hi)))
          go_ret
          exact ⟨by first | rfl | (simp [errW_none, errW_some] <;> rfl) | (simp [*, errW_none, errW_some] <;> rfl), by repeat (first | (with_reducible first | exact HB.out | apply below_alloc | apply pw_below_drewN | apply below_drew1) | exact HB.out)⟩
        · rw [if_neg c7] at H
          have c7b0 : (t184 == 1) = false := beq_eq_false_iff_ne.mpr c7
          have c7b1 : (t184 != 1) = true := bne_iff_ne.mpr c7
          replace H := Option.bind_eq_some_iff.mp H
          obtain ⟨t188, A100, H⟩ := H
          replace H : ((clewref05_deep.f k l0 ((rd_T46 l0 a1).f2)).bind fun t190 => (some (wrap64 (1 + (mx t188 t190))))) = some r := H
          have A10 := Aside0.mk A100
          clear A100
          replace H := Option.bind_eq_some_iff.mp H
          obtain ⟨t190, A110, H⟩ := H
          replace H : (some (wrap64 (1 + (mx t188 t190)))) = some r := H
          have A11 := Aside0.mk A110
          clear A110
          obtain ⟨ji12, hji12⟩ : ∃ j_ : Int, (mx t188 t190) = j_ := ⟨_, rfl⟩
          replace H : (some (wrap64 (1 + (ji12)))) = some r := by first | (rw [hji12] at H; exact H) | (simp only [hji12] at H ⊢; exact H)
          (try rw [hji12] at A5)
          (try rw [hji12] at A10)
          (try rw [hji12] at A11)
          have hji12_ : (if t188 < t190 then t190 else t188) = ji12 := hji12
          obtain rfl := Option.some.inj H
          have p183 : 0 ≤ (a1 : Int) := of_decide_eq_true (by first | (with_reducible assumption) | assumption)
          have q183 : a1 < (l0.length : Int) := of_decide_eq_true (by first | (with_reducible assumption) | assumption)
          obtain ⟨ad183, e183, hx183_0, hx183_1, hx183_2, hx183_3, hx183_4, hx183_5, hx183_6, hx183_7, hx183_8, hx183_9, hx183_10, hx183_11⟩ := at_T46 HR0.out a1 p183 q183
          cases e183
          replace p183 := eq_true p183
          replace q183 := eq_true q183
          go_enter Tryz.func73, Tryz.ntmps73
          try go_wp2_with (first | ((with_reducible refine gate_callee (f := 37) rfl ?_); refine goesL_ (some 11) rfl rfl Tryz.func37 (by kernel_rfl) rfl #[.int .i64 ((rd_T46 l0 a1).f0)] rfl (by (try simp only [List.map_toArray, List.map_cons, List.map_nil]); first | done | rfl | (simp only [List.length_drop, List.length_take]; rfl)) ?_; (with_reducible refine (clewref05_Kids.calls k ((rd_T46 l0 a1).f0) t184 _ A5.out).mono ?_); rintro e w' ⟨rfl, ⟨nd, rfl⟩⟩; refine ⟨_, rfl, ?_⟩))
          have n0_ := Aside0.mk (below_drew1 (pw_below_drewN HB.out nd))
          clear HB
          have HB := n0_
          clear n0_
          have p187 : 0 ≤ (a1 : Int) := of_decide_eq_true (by first | (with_reducible assumption) | assumption)
          have q187 : a1 < (l0.length : Int) := of_decide_eq_true (by first | (with_reducible assumption) | assumption)
          obtain ⟨ad187, e187, hx187_0, hx187_1, hx187_2, hx187_3, hx187_4, hx187_5, hx187_6, hx187_7, hx187_8, hx187_9, hx187_10, hx187_11⟩ := at_T46 HR0.out a1 p187 q187
          have hw187_11 := hx187_11
          have hw187_10 := hx187_10
          have hw187_9 := hx187_9
          have hw187_8 := hx187_8
          have hw187_7 := hx187_7
          have hw187_6 := hx187_6
          have hw187_5 := hx187_5
          have hw187_4 := hx187_4
          have hw187_3 := hx187_3
          have hw187_2 := hx187_2
          have hw187_1 := hx187_1
          have hw187_0 := hx187_0
          obtain rfl : ad183 = ad187 := (by injection e187)
          replace hx187_0 := (HB.out.cell (World.block_lt_of_cell? w _ hx187_0)).trans hx187_0
          replace hx187_1 := (HB.out.cell (World.block_lt_of_cell? w _ hx187_1)).trans hx187_1
          replace hx187_2 := (HB.out.cell (World.block_lt_of_cell? w _ hx187_2)).trans hx187_2
          replace hx187_3 := (HB.out.cell (World.block_lt_of_cell? w _ hx187_3)).trans hx187_3
          replace hx187_4 := (HB.out.cell (World.block_lt_of_cell? w _ hx187_4)).trans hx187_4
          replace hx187_5 := (HB.out.cell (World.block_lt_of_cell? w _ hx187_5)).trans hx187_5
          replace hx187_6 := (HB.out.cell (World.block_lt_of_cell? w _ hx187_6)).trans hx187_6
          replace hx187_7 := (HB.out.cell (World.block_lt_of_cell? w _ hx187_7)).trans hx187_7
          replace hx187_8 := (HB.out.cell (World.block_lt_of_cell? w _ hx187_8)).trans hx187_8
          replace hx187_9 := (HB.out.cell (World.block_lt_of_cell? w _ hx187_9)).trans hx187_9
          replace hx187_10 := (HB.out.cell (World.block_lt_of_cell? w _ hx187_10)).trans hx187_10
          replace hx187_11 := (HB.out.cell (World.block_lt_of_cell? w _ hx187_11)).trans hx187_11
          replace p187 := eq_true p187
          replace q187 := eq_true q187
          have p189 : 0 ≤ (a1 : Int) := of_decide_eq_true (by first | (with_reducible assumption) | assumption)
          have q189 : a1 < (l0.length : Int) := of_decide_eq_true (by first | (with_reducible assumption) | assumption)
          obtain ⟨ad189, e189, hx189_0, hx189_1, hx189_2, hx189_3, hx189_4, hx189_5, hx189_6, hx189_7, hx189_8, hx189_9, hx189_10, hx189_11⟩ := at_T46 HR0.out a1 p189 q189
          have hw189_11 := hx189_11
          have hw189_10 := hx189_10
          have hw189_9 := hx189_9
          have hw189_8 := hx189_8
          have hw189_7 := hx189_7
          have hw189_6 := hx189_6
          have hw189_5 := hx189_5
          have hw189_4 := hx189_4
          have hw189_3 := hx189_3
          have hw189_2 := hx189_2
          have hw189_1 := hx189_1
          have hw189_0 := hx189_0
          obtain rfl : ad183 = ad189 := (by injection e189)
          replace hx189_0 := (HB.out.cell (World.block_lt_of_cell? w _ hx189_0)).trans hx189_0
          replace hx189_1 := (HB.out.cell (World.block_lt_of_cell? w _ hx189_1)).trans hx189_1
          replace hx189_2 := (HB.out.cell (World.block_lt_of_cell? w _ hx189_2)).trans hx189_2
          replace hx189_3 := (HB.out.cell (World.block_lt_of_cell? w _ hx189_3)).trans hx189_3
          replace hx189_4 := (HB.out.cell (World.block_lt_of_cell? w _ hx189_4)).trans hx189_4
          replace hx189_5 := (HB.out.cell (World.block_lt_of_cell? w _ hx189_5)).trans hx189_5
          replace hx189_6 := (HB.out.cell (World.block_lt_of_cell? w _ hx189_6)).trans hx189_6
          replace hx189_7 := (HB.out.cell (World.block_lt_of_cell? w _ hx189_7)).trans hx189_7
          replace hx189_8 := (HB.out.cell (World.block_lt_of_cell? w _ hx189_8)).trans hx189_8
          replace hx189_9 := (HB.out.cell (World.block_lt_of_cell? w _ hx189_9)).trans hx189_9
          replace hx189_10 := (HB.out.cell (World.block_lt_of_cell? w _ hx189_10)).trans hx189_10
          replace hx189_11 := (HB.out.cell (World.block_lt_of_cell? w _ hx189_11)).trans hx189_11
          replace p189 := eq_true p189
          replace q189 := eq_true q189
          refine start_ (n := 17) (S := fun w' => w'.cell? (ad183.add ((a1).toNat * 12)) = some (.int .i64 ((rd_T46 l0 a1).f0)) ∧ w'.cell? ⟨(ad183.add ((a1).toNat * 12)).block, (ad183.add ((a1).toNat * 12)).off + 1, none⟩ = some (.int .i64 ((rd_T46 l0 a1).f1)) ∧ w'.cell? ⟨(ad183.add ((a1).toNat * 12)).block, (ad183.add ((a1).toNat * 12)).off + 2, none⟩ = some (.int .i64 ((rd_T46 l0 a1).f2)) ∧ w'.cell? ⟨(ad183.add ((a1).toNat * 12)).block, (ad183.add ((a1).toNat * 12)).off + 3, none⟩ = some (.int .u64 ((rd_T46 l0 a1).f3.f0)) ∧ w'.cell? ⟨(ad183.add ((a1).toNat * 12)).block, (ad183.add ((a1).toNat * 12)).off + 4, none⟩ = some (.int .u64 ((rd_T46 l0 a1).f3.f1)) ∧ w'.cell? ⟨(ad183.add ((a1).toNat * 12)).block, (ad183.add ((a1).toNat * 12)).off + 5, none⟩ = some (.int .u64 ((rd_T46 l0 a1).f3.f2)) ∧ w'.cell? ⟨(ad183.add ((a1).toNat * 12)).block, (ad183.add ((a1).toNat * 12)).off + 6, none⟩ = some (.int .u64 ((rd_T46 l0 a1).f3.f3)) ∧ w'.cell? ⟨(ad183.add ((a1).toNat * 12)).block, (ad183.add ((a1).toNat * 12)).off + 7, none⟩ = some (.int .i64 ((rd_T46 l0 a1).f4)) ∧ w'.cell? ⟨(ad183.add ((a1).toNat * 12)).block, (ad183.add ((a1).toNat * 12)).off + 8, none⟩ = some (.int .i64 ((rd_T46 l0 a1).f5)) ∧ w'.cell? ⟨(ad183.add ((a1).toNat * 12)).block, (ad183.add ((a1).toNat * 12)).off + 9, none⟩ = some (.int .i64 ((rd_T46 l0 a1).f6)) ∧ w'.cell? ⟨(ad183.add ((a1).toNat * 12)).block, (ad183.add ((a1).toNat * 12)).off + 10, none⟩ = some (.int .i64 ((rd_T46 l0 a1).f7)) ∧ w'.cell? ⟨(ad183.add ((a1).toNat * 12)).block, (ad183.add ((a1).toNat * 12)).off + 11, none⟩ = some (.bool ((rd_T46 l0 a1).f8)) ∧ w'.cell? (ad183.add ((a1).toNat * 12)) = some (.int .i64 ((rd_T46 l0 a1).f0)) ∧ w'.cell? ⟨(ad183.add ((a1).toNat * 12)).block, (ad183.add ((a1).toNat * 12)).off + 1, none⟩ = some (.int .i64 ((rd_T46 l0 a1).f1)) ∧ w'.cell? ⟨(ad183.add ((a1).toNat * 12)).block, (ad183.add ((a1).toNat * 12)).off + 2, none⟩ = some (.int .i64 ((rd_T46 l0 a1).f2)) ∧ w'.cell? ⟨(ad183.add ((a1).toNat * 12)).block, (ad183.add ((a1).toNat * 12)).off + 3, none⟩ = some (.int .u64 ((rd_T46 l0 a1).f3.f0)) ∧ w'.cell? ⟨(ad183.add ((a1).toNat * 12)).block, (ad183.add ((a1).toNat * 12)).off + 4, none⟩ = some (.int .u64 ((rd_T46 l0 a1).f3.f1)) ∧ w'.cell? ⟨(ad183.add ((a1).toNat * 12)).block, (ad183.add ((a1).toNat * 12)).off + 5, none⟩ = some (.int .u64 ((rd_T46 l0 a1).f3.f2)) ∧ w'.cell? ⟨(ad183.add ((a1).toNat * 12)).block, (ad183.add ((a1).toNat * 12)).off + 6, none⟩ = some (.int .u64 ((rd_T46 l0 a1).f3.f3)) ∧ w'.cell? ⟨(ad183.add ((a1).toNat * 12)).block, (ad183.add ((a1).toNat * 12)).off + 7, none⟩ = some (.int .i64 ((rd_T46 l0 a1).f4)) ∧ w'.cell? ⟨(ad183.add ((a1).toNat * 12)).block, (ad183.add ((a1).toNat * 12)).off + 8, none⟩ = some (.int .i64 ((rd_T46 l0 a1).f5)) ∧ w'.cell? ⟨(ad183.add ((a1).toNat * 12)).block, (ad183.add ((a1).toNat * 12)).off + 9, none⟩ = some (.int .i64 ((rd_T46 l0 a1).f6)) ∧ w'.cell? ⟨(ad183.add ((a1).toNat * 12)).block, (ad183.add ((a1).toNat * 12)).off + 10, none⟩ = some (.int .i64 ((rd_T46 l0 a1).f7)) ∧ w'.cell? ⟨(ad183.add ((a1).toNat * 12)).block, (ad183.add ((a1).toNat * 12)).off + 11, none⟩ = some (.bool ((rd_T46 l0 a1).f8))) (ds := []) #[false, false, false, false, false, false, false, false, false, false, false, false, false, false, false, false, false] (by kernel_rfl) rfl rfl ⟨((HB.out.cell (World.block_lt_of_cell? w _ hw187_0)).trans hw187_0), ((HB.out.cell (World.block_lt_of_cell? w _ hw187_1)).trans hw187_1), ((HB.out.cell (World.block_lt_of_cell? w _ hw187_2)).trans hw187_2), ((HB.out.cell (World.block_lt_of_cell? w _ hw187_3)).trans hw187_3), ((HB.out.cell (World.block_lt_of_cell? w _ hw187_4)).trans hw187_4), ((HB.out.cell (World.block_lt_of_cell? w _ hw187_5)).trans hw187_5), ((HB.out.cell (World.block_lt_of_cell? w _ hw187_6)).trans hw187_6), ((HB.out.cell (World.block_lt_of_cell? w _ hw187_7)).trans hw187_7), ((HB.out.cell (World.block_lt_of_cell? w _ hw187_8)).trans hw187_8), ((HB.out.cell (World.block_lt_of_cell? w _ hw187_9)).trans hw187_9), ((HB.out.cell (World.block_lt_of_cell? w _ hw187_10)).trans hw187_10), ((HB.out.cell (World.block_lt_of_cell? w _ hw187_11)).trans hw187_11), ((HB.out.cell (World.block_lt_of_cell? w _ hw189_0)).trans hw189_0), ((HB.out.cell (World.block_lt_of_cell? w _ hw189_1)).trans hw189_1), ((HB.out.cell (World.block_lt_of_cell? w _ hw189_2)).trans hw189_2), ((HB.out.cell (World.block_lt_of_cell? w _ hw189_3)).trans hw189_3), ((HB.out.cell (World.block_lt_of_cell? w _ hw189_4)).trans hw189_4), ((HB.out.cell (World.block_lt_of_cell? w _ hw189_5)).trans hw189_5), ((HB.out.cell (World.block_lt_of_cell? w _ hw189_6)).trans hw189_6), ((HB.out.cell (World.block_lt_of_cell? w _ hw189_7)).trans hw189_7), ((HB.out.cell (World.block_lt_of_cell? w _ hw189_8)).trans hw189_8), ((HB.out.cell (World.block_lt_of_cell? w _ hw189_9)).trans hw189_9), ((HB.out.cell (World.block_lt_of_cell? w _ hw189_10)).trans hw189_10), ((HB.out.cell (World.block_lt_of_cell? w _ hw189_11)).trans hw189_11)⟩ (fun hHeld => ?_); refine with_tabW clewref05_deep.tab6 clewref05_deep.bits6 (fun HT_ HW_ => ?_)
          generalize (w.drewN nd).drew = w13 at HB hx187_0 hx187_1 hx187_10 hx187_11 hx187_2 hx187_3 hx187_4 hx187_5 hx187_6 hx187_7 hx187_8 hx187_9 hx189_0 hx189_1 hx189_10 hx189_11 hx189_2 hx189_3 hx189_4 hx189_5 hx189_6 hx189_7 hx189_8 hx189_9 hHeld ⊢
          refine pure_ (i := 0) (N := some 24) (v := ?_) (a' := ?_) #[true, false, false, false, false, false, false, false, false, false, false, false, false, false, false, false, false] rfl rfl (any_of HT_.out (by kernel_rfl)) (fun _ _ _ h => h) (Or.inl ⟨by rfl, ?_⟩) ?_ ?_
          rotate_left
          · intro w'
            go_simp
            with_reducible rfl
          rotate_left
          · simp only [Act.put, List.setIfInBounds_toArray, List.set_cons_zero, List.set_cons_succ, i64_w, i32_w]
            rfl
          refine pure_ (i := 1) (N := some 25) (v := ?_) (a' := ?_) #[true, true, false, false, false, false, false, false, false, false, false, false, false, false, false, false, false] rfl rfl (any_of HT_.out (by kernel_rfl)) (fun _ _ _ h => h) (Or.inl ⟨by rfl, ?_⟩) ?_ ?_
          rotate_left
          · intro w'
            go_simp
            with_reducible rfl
          rotate_left
          · simp only [Act.put, List.setIfInBounds_toArray, List.set_cons_zero, List.set_cons_succ, i64_w, i32_w]
            rfl
          refine pure_ (i := 2) (N := some 26) (v := ?_) (a' := ?_) #[true, true, true, false, false, false, false, false, false, false, false, false, false, false, false, false, false] rfl rfl (any_of HT_.out (by kernel_rfl)) (fun _ _ _ h => h) (Or.inl ⟨by rfl, ?_⟩) ?_ ?_
          rotate_left
          · intro w'
            go_simp
            with_reducible rfl
          rotate_left
          · simp only [Act.put, List.setIfInBounds_toArray, List.set_cons_zero, List.set_cons_succ, i64_w, i32_w]
            rfl
          refine pure_ (i := 3) (N := some 27) (v := ?_) (a' := ?_) #[true, true, true, true, false, false, false, false, false, false, false, false, false, false, false, false, false] rfl rfl (any_of HT_.out (by kernel_rfl)) (fun _ _ _ h => h) (Or.inl ⟨by rfl, ?_⟩) ?_ ?_
          rotate_left
          · intro w'
            go_simp
            with_reducible rfl
          rotate_left
          · simp only [Act.put, List.setIfInBounds_toArray, List.set_cons_zero, List.set_cons_succ, i64_w, i32_w]
            rfl
          refine pure_ (i := 4) (N := some 28) (v := ?_) (a' := ?_) #[true, true, true, true, true, false, false, false, false, false, false, false, false, false, false, false, false] rfl rfl (any_of HT_.out (by kernel_rfl)) (fun _ _ _ h => h) (Or.inl ⟨by rfl, ?_⟩) ?_ ?_
          rotate_left
          · intro w'
            go_simp
            with_reducible rfl
          rotate_left
          · simp only [Act.put, List.setIfInBounds_toArray, List.set_cons_zero, List.set_cons_succ, i64_w, i32_w]
            rfl
          refine pure_ (i := 7) (N := some 31) (v := ?_) (a' := ?_) #[true, true, true, true, true, false, false, true, false, false, false, false, false, false, false, false, false] rfl rfl (any_of HT_.out (by kernel_rfl)) (fun _ _ _ h => h) (Or.inl ⟨by rfl, ?_⟩) ?_ ?_
          rotate_left
          · intro w'
            go_simp
            with_reducible rfl
          rotate_left
          · simp only [Act.put, List.setIfInBounds_toArray, List.set_cons_zero, List.set_cons_succ, i64_w, i32_w]
            rfl
          refine pure_ (i := 8) (N := some 32) (v := ?_) (a' := ?_) #[true, true, true, true, true, false, false, true, true, false, false, false, false, false, false, false, false] rfl rfl (any_of HT_.out (by kernel_rfl)) (fun _ _ _ h => h) (Or.inl ⟨by rfl, ?_⟩) ?_ ?_
          rotate_left
          · intro w'
            go_simp
            with_reducible rfl
          rotate_left
          · simp only [Act.put, List.setIfInBounds_toArray, List.set_cons_zero, List.set_cons_succ, i64_w, i32_w]
            rfl
          refine pure_ (i := 9) (N := some 33) (v := ?_) (a' := ?_) #[true, true, true, true, true, false, false, true, true, true, false, false, false, false, false, false, false] rfl rfl (any_of HT_.out (by kernel_rfl)) (fun _ _ _ h => h) (Or.inl ⟨by rfl, ?_⟩) ?_ ?_
          rotate_left
          · intro w'
            go_simp
            with_reducible rfl
          rotate_left
          · simp only [Act.put, List.setIfInBounds_toArray, List.set_cons_zero, List.set_cons_succ, i64_w, i32_w]
            rfl
          refine pure_ (i := 10) (N := some 34) (v := ?_) (a' := ?_) #[true, true, true, true, true, false, false, true, true, true, true, false, false, false, false, false, false] rfl rfl (any_of HT_.out (by kernel_rfl)) (fun _ _ _ h => h) (Or.inl ⟨by rfl, ?_⟩) ?_ ?_
          rotate_left
          · intro w'
            go_simp
            with_reducible rfl
          rotate_left
          · simp only [Act.put, List.setIfInBounds_toArray, List.set_cons_zero, List.set_cons_succ, i64_w, i32_w]
            rfl
          refine pure_ (i := 11) (N := some 35) (v := ?_) (a' := ?_) #[true, true, true, true, true, false, false, true, true, true, true, true, false, false, false, false, false] rfl rfl (any_of HT_.out (by kernel_rfl)) (fun _ _ _ h => h) (Or.inl ⟨by rfl, ?_⟩) ?_ ?_
          rotate_left
          · intro w'
            go_simp
            with_reducible rfl
          rotate_left
          · simp only [Act.put, List.setIfInBounds_toArray, List.set_cons_zero, List.set_cons_succ, i64_w, i32_w]
            rfl
          refine take_ (i := 5) (N := some 29) (v := ?_) (a' := ?_) #[true, true, true, true, true, true, false, true, true, true, true, true, false, false, false, false, false] rfl rfl (take_ofW HT_.out HW_.out (by kernel_rfl)) (fun _ _ _ h => h) (Or.inl ⟨by rfl, ?_⟩) hHeld ?_ ?_
          rotate_left
          · rintro w' ⟨s0, s1, s2, s3, s4, s5, s6, s7, s8, s9, s10, s11, s12, s13, s14, s15, s16, s17, s18, s19, s20, s21, s22, s23⟩
            go_simp
            with_reducible rfl
          rotate_left
          · simp only [Act.put, List.setIfInBounds_toArray, List.set_cons_zero, List.set_cons_succ, i64_w, i32_w]
            rfl
          refine take_ (i := 12) (N := some 36) (v := ?_) (a' := ?_) #[true, true, true, true, true, true, false, true, true, true, true, true, true, false, false, false, false] rfl rfl (take_ofW HT_.out HW_.out (by kernel_rfl)) (fun _ _ _ h => h) (Or.inl ⟨by rfl, ?_⟩) hHeld ?_ ?_
          rotate_left
          · rintro w' ⟨s0, s1, s2, s3, s4, s5, s6, s7, s8, s9, s10, s11, s12, s13, s14, s15, s16, s17, s18, s19, s20, s21, s22, s23⟩
            go_simp
            with_reducible rfl
          rotate_left
          · simp only [Act.put, List.setIfInBounds_toArray, List.set_cons_zero, List.set_cons_succ, i64_w, i32_w]
            rfl
          refine one_ (i := 6) (N := some 30) #[true, true, true, true, true, true, true, true, true, true, true, true, true, false, false, false, false] rfl rfl (one_of HT_.out (by kernel_rfl)) (by decide) (fun K hK => ?_)
          refine goes_ Tryz.func73 (by kernel_rfl) rfl #[.slice (some ad183) l0.length c0, .int .i64 ((rd_T46 l0 a1).f1)] (by rfl) rfl rfl (by (try simp only [List.map_toArray, List.map_cons, List.map_nil]); first | done | rfl | (simp only [List.length_drop, List.length_take]; rfl)) ?_
          with_reducible refine (ih k (by omega) _ _ l0 ((rd_T46 l0 a1).f1) t188 _ ?side1 ?side2 A10.out).mono ?_
          (case side1 => repeat (first | exact (Kd.C_below HR0.out HB.out) | (with_reducible refine Kd.C_alloc ?_ _) | (with_reducible refine Kd.C_drewN ?_ _) | (with_reducible refine Kd.C_drew ?_)))
          (case side2 => exact HC0.out)
          rintro e w14 ⟨rfl, hb⟩
          refine ⟨_, rfl, ?_⟩
          have n0_ := Aside0.mk (below_step (by repeat (first | (with_reducible first | exact HB.out | apply below_alloc | apply pw_below_drewN | apply below_drew1) | exact HB.out)) hb)
          clear HB
          have HB := n0_
          clear n0_
          (try clear hb)
          (try clear hb2)
          (try clear hk)
          (try clear hi)
          refine hK.out _ _ ⟨((HB.out.cell (World.block_lt_of_cell? w _ hw187_0)).trans hw187_0), ((HB.out.cell (World.block_lt_of_cell? w _ hw187_1)).trans hw187_1), ((HB.out.cell (World.block_lt_of_cell? w _ hw187_2)).trans hw187_2), ((HB.out.cell (World.block_lt_of_cell? w _ hw187_3)).trans hw187_3), ((HB.out.cell (World.block_lt_of_cell? w _ hw187_4)).trans hw187_4), ((HB.out.cell (World.block_lt_of_cell? w _ hw187_5)).trans hw187_5), ((HB.out.cell (World.block_lt_of_cell? w _ hw187_6)).trans hw187_6), ((HB.out.cell (World.block_lt_of_cell? w _ hw187_7)).trans hw187_7), ((HB.out.cell (World.block_lt_of_cell? w _ hw187_8)).trans hw187_8), ((HB.out.cell (World.block_lt_of_cell? w _ hw187_9)).trans hw187_9), ((HB.out.cell (World.block_lt_of_cell? w _ hw187_10)).trans hw187_10), ((HB.out.cell (World.block_lt_of_cell? w _ hw187_11)).trans hw187_11), ((HB.out.cell (World.block_lt_of_cell? w _ hw189_0)).trans hw189_0), ((HB.out.cell (World.block_lt_of_cell? w _ hw189_1)).trans hw189_1), ((HB.out.cell (World.block_lt_of_cell? w _ hw189_2)).trans hw189_2), ((HB.out.cell (World.block_lt_of_cell? w _ hw189_3)).trans hw189_3), ((HB.out.cell (World.block_lt_of_cell? w _ hw189_4)).trans hw189_4), ((HB.out.cell (World.block_lt_of_cell? w _ hw189_5)).trans hw189_5), ((HB.out.cell (World.block_lt_of_cell? w _ hw189_6)).trans hw189_6), ((HB.out.cell (World.block_lt_of_cell? w _ hw189_7)).trans hw189_7), ((HB.out.cell (World.block_lt_of_cell? w _ hw189_8)).trans hw189_8), ((HB.out.cell (World.block_lt_of_cell? w _ hw189_9)).trans hw189_9), ((HB.out.cell (World.block_lt_of_cell? w _ hw189_10)).trans hw189_10), ((HB.out.cell (World.block_lt_of_cell? w _ hw189_11)).trans hw189_11)⟩ (fun hHeld => ?_)
          clear hK K
          refine norm_ (a' := ?_) ?_ ?_
          rotate_left
          · show Act.put _ (some 30) _ = _
            simp only [Act.put, List.setIfInBounds_toArray, List.set_cons_zero, List.set_cons_succ, i64_w, i32_w]
            rfl
          refine one_ (i := 13) (N := some 37) #[true, true, true, true, true, true, true, true, true, true, true, true, true, true, false, false, false] rfl rfl (one_of HT_.out (by kernel_rfl)) (by decide) (fun K hK => ?_)
          refine goes_ Tryz.func73 (by kernel_rfl) rfl #[.slice (some ad183) l0.length c0, .int .i64 ((rd_T46 l0 a1).f2)] (by rfl) rfl rfl (by (try simp only [List.map_toArray, List.map_cons, List.map_nil]); first | done | rfl | (simp only [List.length_drop, List.length_take]; rfl)) ?_
          with_reducible refine (ih k (by omega) _ _ l0 ((rd_T46 l0 a1).f2) t190 _ ?side1 ?side2 A11.out).mono ?_
          (case side1 => repeat (first | exact (Kd.C_below HR0.out HB.out) | (with_reducible refine Kd.C_alloc ?_ _) | (with_reducible refine Kd.C_drewN ?_ _) | (with_reducible refine Kd.C_drew ?_)))
          (case side2 => exact HC0.out)
          rintro e w15 ⟨rfl, hb⟩
          refine ⟨_, rfl, ?_⟩
          have n0_ := Aside0.mk (below_step (by repeat (first | (with_reducible first | exact HB.out | apply below_alloc | apply pw_below_drewN | apply below_drew1) | exact HB.out)) hb)
          clear HB
          have HB := n0_
          clear n0_
          (try clear hb)
          (try clear hb2)
          (try clear hk)
          (try clear hi)
          refine hK.out _ _ ⟨((HB.out.cell (World.block_lt_of_cell? w _ hw187_0)).trans hw187_0), ((HB.out.cell (World.block_lt_of_cell? w _ hw187_1)).trans hw187_1), ((HB.out.cell (World.block_lt_of_cell? w _ hw187_2)).trans hw187_2), ((HB.out.cell (World.block_lt_of_cell? w _ hw187_3)).trans hw187_3), ((HB.out.cell (World.block_lt_of_cell? w _ hw187_4)).trans hw187_4), ((HB.out.cell (World.block_lt_of_cell? w _ hw187_5)).trans hw187_5), ((HB.out.cell (World.block_lt_of_cell? w _ hw187_6)).trans hw187_6), ((HB.out.cell (World.block_lt_of_cell? w _ hw187_7)).trans hw187_7), ((HB.out.cell (World.block_lt_of_cell? w _ hw187_8)).trans hw187_8), ((HB.out.cell (World.block_lt_of_cell? w _ hw187_9)).trans hw187_9), ((HB.out.cell (World.block_lt_of_cell? w _ hw187_10)).trans hw187_10), ((HB.out.cell (World.block_lt_of_cell? w _ hw187_11)).trans hw187_11), ((HB.out.cell (World.block_lt_of_cell? w _ hw189_0)).trans hw189_0), ((HB.out.cell (World.block_lt_of_cell? w _ hw189_1)).trans hw189_1), ((HB.out.cell (World.block_lt_of_cell? w _ hw189_2)).trans hw189_2), ((HB.out.cell (World.block_lt_of_cell? w _ hw189_3)).trans hw189_3), ((HB.out.cell (World.block_lt_of_cell? w _ hw189_4)).trans hw189_4), ((HB.out.cell (World.block_lt_of_cell? w _ hw189_5)).trans hw189_5), ((HB.out.cell (World.block_lt_of_cell? w _ hw189_6)).trans hw189_6), ((HB.out.cell (World.block_lt_of_cell? w _ hw189_7)).trans hw189_7), ((HB.out.cell (World.block_lt_of_cell? w _ hw189_8)).trans hw189_8), ((HB.out.cell (World.block_lt_of_cell? w _ hw189_9)).trans hw189_9), ((HB.out.cell (World.block_lt_of_cell? w _ hw189_10)).trans hw189_10), ((HB.out.cell (World.block_lt_of_cell? w _ hw189_11)).trans hw189_11)⟩ (fun hHeld => ?_)
          clear hK K
          refine norm_ (a' := ?_) ?_ ?_
          rotate_left
          · show Act.put _ (some 37) _ = _
            simp only [Act.put, List.setIfInBounds_toArray, List.set_cons_zero, List.set_cons_succ, i64_w, i32_w]
            rfl
          refine pure_ (i := 14) (N := some 38) (v := ?_) (a' := ?_) #[true, true, true, true, true, true, true, true, true, true, true, true, true, true, true, false, false] rfl rfl (any_of HT_.out (by kernel_rfl)) (fun _ _ _ h => h) (Or.inl ⟨by rfl, ?_⟩) ?_ ?_
          rotate_left
          · intro w'
            go_simp
            with_reducible rfl
          rotate_left
          · simp only [Act.put, List.setIfInBounds_toArray, List.set_cons_zero, List.set_cons_succ, i64_w, i32_w]
            rfl
          refine pure_ (i := 15) (N := some 39) (v := ?_) (a' := ?_) #[true, true, true, true, true, true, true, true, true, true, true, true, true, true, true, true, false] rfl rfl (any_of HT_.out (by kernel_rfl)) (fun _ _ _ h => h) (Or.inl ⟨by rfl, ?_⟩) ?_ ?_
          rotate_left
          · intro w'
            go_simp
            with_reducible rfl
          rotate_left
          · simp only [Act.put, List.setIfInBounds_toArray, List.set_cons_zero, List.set_cons_succ, i64_w, i32_w]
            rfl
          refine pure_ (i := 16) (N := some 4) (v := ?_) (a' := ?_) #[true, true, true, true, true, true, true, true, true, true, true, true, true, true, true, true, true] rfl rfl (any_of HT_.out (by kernel_rfl)) (fun _ _ _ h => h) (Or.inl ⟨by rfl, ?_⟩) ?_ ?_
          rotate_left
          · intro w'
            go_simp
            with_reducible rfl
          rotate_left
          · simp only [Act.put, List.setIfInBounds_toArray, List.set_cons_zero, List.set_cons_succ, i64_w, i32_w]
            rfl
          refine done_ (done_of HT_.out (by kernel_rfl)) ?_
          try go_wp2
          go_ret
          exact ⟨by first | rfl | (simp [errW_none, errW_some] <;> rfl) | (simp only [← hji12]; first | rfl | (simp [errW_none, errW_some] <;> rfl)) | (simp [*, errW_none, errW_some] <;> rfl), by repeat (first | (with_reducible first | exact HB.out | apply below_alloc | apply pw_below_drewN | apply below_drew1) | exact HB.out)⟩
    · rw [if_neg c4] at H
      exact absurd H (by simp)
  · rw [if_neg c3] at H
    exact absurd H (by simp)

end Go.Proofs.YtaaihcojedibeaaGreatDoor.Q
