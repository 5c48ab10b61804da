/- CapsOrder. -/
import Derived.Test.YtpeccbdobdnpiaaDoorAFixW
import Derived.Test.YtpeccbdobdnpiaaDoorAEq
import Derived.Test.YtpeccbdobdnpiaaDoorAArg
import Derived.BigQuiet
namespace Go.Proofs.YtpeccbdobdnpiaaDoor.LCapsOrder
open Go.RowKit CMem ACap AGet AWith AText ASame AAgain AShow AFix AFixW ARef AEq Go.Proofs.YtpeccbdobdnpiaaDoorW.PrintWords Go.Proofs.YtpeccbdobdnpiaaDoorW.PrintLast Go.Proofs.YtpeccbdobdnpiaaDoorW.PrintMore
set_option linter.unusedVariables false
set_option linter.unusedSimpArgs false
set_option maxRecDepth 100000
theorem wok_yes {g p q : Int} (h1 : 1 ≤ g) (h2 : g ≤ 9) (h3 : 0 ≤ p) (h4 : p ≤ q) (h5 : q ≤ 10000) : wok g p q = true := by
  unfold wok ris
  rw [decide_eq_true h1, decide_eq_true h2, decide_eq_true h3, decide_eq_true h4, decide_eq_true h5]
  rfl
theorem wb_yes {g p q : Int} (h : wok g p q = true) (b : Nat → Bool) (i : Nat) : wb b g p q i = if i = (g - 1).toNat then true else b i := by unfold wb; rw [h]; rfl
theorem wy_yes {g p q : Int} (h : wok g p q = true) (y : Nat → Int) (i : Nat) : wy y g p q i = if i = (g - 1).toNat * 2 + 1 then q else if i = (g - 1).toNat * 2 then p else y i := by unfold wy; rw [if_pos h]
theorem with_yes {g p q : Int} (h : wok g p q = true) (b : Nat → Bool) (y : Nat → Int) (W : World) :
    Calls Tryd.prog 9 #[.agg (cc b y), .int .i64 g, .int .i64 p, .int .i64 q] W fun e w' => e = .returned (.tuple #[.agg (cc (wb b g p q) (wy y g p q)), .int .i64 0]) ∧ Below W.heap.size W w' := by
  have k := with_calls b y g p q W
  rwa [show we g p q = 0 by unfold we; rw [h]; rfl] at k
abbrev fst (b : Nat → Bool) (y : Nat → Int) : Nat → Bool := b
abbrev snd (b : Nat → Bool) (y : Nat → Int) : Nat → Int := y
abbrev zb : Nat → Bool := fun _ => false
abbrev zy : Nat → Int := fun _ => 0
section
variable {g h a b c d : Int} (hg : wok g a c = true) (hh : wok h b d = true)
include hg hh
theorem twice (e : g = h) : same (wb (wb zb g a c) h b d) (wy (wy zy g a c) h b d) (wb zb h b d) (wy zy h b d) = true := by
  subst e
  rw [same_iff]
  refine ⟨fun i _ => ?_, fun i _ => ?_⟩
  · rw [wb_yes hh, wb_yes hg, wb_yes hh]; split <;> rfl
  · rw [wy_yes hh, wy_yes hg, wy_yes hh]; split
    · rfl
    · split <;> rfl
theorem either (e : g ≠ h) (g1 : 1 ≤ g) (h1 : 1 ≤ h) : same (wb (wb zb g a c) h b d) (wy (wy zy g a c) h b d) (wb (wb zb h b d) g a c) (wy (wy zy h b d) g a c) = true := by
  have hn : (g - 1).toNat ≠ (h - 1).toNat := by omega
  rw [same_iff]
  refine ⟨fun i _ => ?_, fun i _ => ?_⟩
  · rw [wb_yes hh, wb_yes hg, wb_yes hg, wb_yes hh]; split <;> split <;> first | rfl | omega
  · rw [wy_yes hh, wy_yes hg, wy_yes hg, wy_yes hh]
    generalize (g - 1).toNat = u at *
    generalize (h - 1).toNat = v at *
    by_cases c1 : i = v * 2 + 1
    · rw [if_pos c1, if_neg (by omega), if_neg (by omega), if_pos c1]
    · rw [if_neg c1]
      by_cases c2 : i = v * 2
      · rw [if_pos c2, if_neg (by omega), if_neg (by omega), if_neg c1, if_pos c2]
      · rw [if_neg c2, if_neg c1, if_neg c2]
theorem one_more (e : g ≠ h) (g1 : 1 ≤ g) (h1 : 1 ≤ h) (h9 : h ≤ 9) : same (wb (wb zb g a c) h b d) (wy (wy zy g a c) h b d) (wb zb g a c) (wy zy g a c) = false := by
  rw [Bool.eq_false_iff]
  intro H
  have := ((same_iff _ _ _ _).1 H).1 (h - 1).toNat (by omega)
  rw [wb_yes hh, wb_yes hg, if_pos rfl, if_neg (by omega)] at this
  cases this
theorem one_else (e : g ≠ h) (g1 : 1 ≤ g) (h1 : 1 ≤ h) (g9 : g ≤ 9) : same (wb (wb zb g a c) h b d) (wy (wy zy g a c) h b d) (wb zb h b d) (wy zy h b d) = false := by
  rw [Bool.eq_false_iff]
  intro H
  have := ((same_iff _ _ _ _).1 H).1 (g - 1).toNat (by omega)
  rw [wb_yes hh, wb_yes hg, if_neg (by omega), if_pos rfl, wb_yes hh, if_neg (by omega)] at this
  cases this
end
set_option maxHeartbeats 12800000
attribute [-go_sem] Go.loadCells Go.run_eql_struct Go.run_neq_struct in
theorem order_same (f0 f1 f2 f3 f4 f5 : Nat) (h0 : f0 < 256) (h1 : f1 < 256) (h2 : f2 < 256) (h3 : f3 < 256) (h4 : f4 < 256) (h5 : f5 < 256) (HH : 1 + (f0 : Int) % 9 = 1 + (f3 : Int) % 9) (w : World) (hT : Tab w) :
    Calls Tryd.prog 6 #[.agg #[.int .u8 (f0 : Nat), .int .u8 (f1 : Nat), .int .u8 (f2 : Nat), .int .u8 (f3 : Nat), .int .u8 (f4 : Nat), .int .u8 (f5 : Nat)]] w fun e w' => e = .returned (.bool true) ∧ Below w.heap.size w w' := by
  have BX := heap_alloc_new w (.cells #[.int .u8 (f0 : Nat), .int .u8 (f1 : Nat), .int .u8 (f2 : Nat), .int .u8 (f3 : Nat), .int .u8 (f4 : Nat), .int .u8 (f5 : Nat)] 52)
  have HT_0 := Lib.hid (hT.below (below1 w (.cells #[.int .u8 (f0 : Nat), .int .u8 (f1 : Nat), .int .u8 (f2 : Nat), .int .u8 (f3 : Nat), .int .u8 (f4 : Nat), .int .u8 (f5 : Nat)] 52)))
  have HB_0 := Lib.hid (below1 w (.cells #[.int .u8 (f0 : Nat), .int .u8 (f1 : Nat), .int .u8 (f2 : Nat), .int .u8 (f3 : Nat), .int .u8 (f4 : Nat), .int .u8 (f5 : Nat)] 52))
  have a0 := blk_cell BX 0 _ rfl
  have a1 := blk_cell BX 1 _ rfl
  have a2 := blk_cell BX 2 _ rfl
  have a3 := blk_cell BX 3 _ rfl
  have a4 := blk_cell BX 4 _ rfl
  have a5 := blk_cell BX 5 _ rfl
  clear BX hT
  obtain ⟨g, hg⟩ : ∃ g, 1 + (f0 : Int) % 9 = g := ⟨_, rfl⟩
  obtain ⟨h, hh⟩ : ∃ h, 1 + (f3 : Int) % 9 = h := ⟨_, rfl⟩
  obtain ⟨c, hc⟩ : ∃ c, (f1 : Int) + (f2 : Int) = c := ⟨_, rfl⟩
  obtain ⟨d, hd⟩ : ∃ d, (f4 : Int) + (f5 : Int) = d := ⟨_, rfl⟩
  have w1 : wok g f1 c = true := wok_yes (by omega) (by omega) (by omega) (by omega) (by omega)
  have w2 : wok h f4 d = true := wok_yes (by omega) (by omega) (by omega) (by omega) (by omega)
  have k1 := with_yes w1 zb zy
  have k2 := with_yes w2 (wb zb g f1 c) (wy zy g f1 c)
  have k3 := with_yes w2 zb zy
  have k4 := with_yes w1 (wb zb h f4 d) (wy zy h f4 d)
  have kF := fixed_calls
  have s1 := store_new (wb zb g f1 c) (wy zy g f1 c) 26
  have s2 := store_new (wb (wb zb g f1 c) h f4 d) (wy (wy zy g f1 c) h f4 d) 26
  have s3 := store_new (wb zb h f4 d) (wy zy h f4 d) 26
  have s4 := store_new (wb (wb zb h f4 d) g f1 c) (wy (wy zy h f4 d) g f1 c) 26
  rw [hg, hh] at HH
  have e23 : ∀ W, (binOp .eql 26 (.agg (cc (wb (wb zb g f1 c) h f4 d) (wy (wy zy g f1 c) h f4 d))) (.agg (cc (wb zb h f4 d) (wy zy h f4 d)))).run Tryd.prog W = .ok (.bool true) W := fun W => by
    have k := c_eql (fst (wb (wb zb g f1 c) h f4 d) (wy (wy zy g f1 c) h f4 d)) (fst (wb zb h f4 d) (wy zy h f4 d)) (snd (wb (wb zb g f1 c) h f4 d) (wy (wy zy g f1 c) h f4 d)) (snd (wb zb h f4 d) (wy zy h f4 d)) W
    rw [show same (wb (wb zb g f1 c) h f4 d) (wy (wy zy g f1 c) h f4 d) (wb zb h f4 d) (wy zy h f4 d) = true from twice w1 w2 HH] at k
    exact k
  have e41 : ∀ W, (binOp .eql 26 (.agg (cc (wb (wb zb h f4 d) g f1 c) (wy (wy zy h f4 d) g f1 c))) (.agg (cc (wb zb g f1 c) (wy zy g f1 c)))).run Tryd.prog W = .ok (.bool true) W := fun W => by
    have k := c_eql (fst (wb (wb zb h f4 d) g f1 c) (wy (wy zy h f4 d) g f1 c)) (fst (wb zb g f1 c) (wy zy g f1 c)) (snd (wb (wb zb h f4 d) g f1 c) (wy (wy zy h f4 d) g f1 c)) (snd (wb zb g f1 c) (wy zy g f1 c)) W
    rw [show same (wb (wb zb h f4 d) g f1 c) (wy (wy zy h f4 d) g f1 c) (wb zb g f1 c) (wy zy g f1 c) = true from twice w2 w1 HH.symm] at k
    exact k
  have hq : (g == h) = true := by simp [HH]
  clear HH w1 w2
  generalize wb (wb zb g f1 c) h f4 d = B2 at *
  generalize wb (wb zb h f4 d) g f1 c = B4 at *
  generalize wb zb g f1 c = B1 at *
  generalize wb zb h f4 d = B3 at *
  generalize wy (wy zy g f1 c) h f4 d = Y2 at *
  generalize wy (wy zy h f4 d) g f1 c = Y4 at *
  generalize wy zy g f1 c = Y1 at *
  generalize wy zy h f4 d = Y3 at *
  have hs := cc_size
  have hz := zero_c
  have K1 := Lib.hid k1
  clear k1
  have K2 := Lib.hid k2
  clear k2
  have K3 := Lib.hid k3
  clear k3
  have K4 := Lib.hid k4
  clear k4
  have KF := Lib.hid kF
  clear kF
  go_enter Tryd.func6, Tryd.ntmps6
  go_wp2
  generalize hW : w.alloc (.cells #[.int .u8 (f0 : Nat), .int .u8 (f1 : Nat), .int .u8 (f2 : Nat), .int .u8 (f3 : Nat), .int .u8 (f4 : Nat), .int .u8 (f5 : Nat)] 52) = v0 at *
  clear hW
  go_quiet (fail)
  have a0 := below_of (below_drewN (Below.refl _ _) nq) a0
  have a1 := below_of (below_drewN (Below.refl _ _) nq) a1
  have a2 := below_of (below_drewN (Below.refl _ _) nq) a2
  have a3 := below_of (below_drewN (Below.refl _ _) nq) a3
  have a4 := below_of (below_drewN (Below.refl _ _) nq) a4
  have a5 := below_of (below_drewN (Below.refl _ _) nq) a5
  have HB_0 := Lib.hid (below_drewN HB_0.out nq)
  have HT_0 := Lib.hid (HT_0.out.below (below_drewN (Below.refl _ _) nq))
  generalize hW : v0.drewN nq = v100 at *
  clear hW
  go_wp2
  go_quiet (fail)
  have a0 := below_of (below_drewN (Below.refl _ _) nq) a0
  have a1 := below_of (below_drewN (Below.refl _ _) nq) a1
  have a2 := below_of (below_drewN (Below.refl _ _) nq) a2
  have a3 := below_of (below_drewN (Below.refl _ _) nq) a3
  have a4 := below_of (below_drewN (Below.refl _ _) nq) a4
  have a5 := below_of (below_drewN (Below.refl _ _) nq) a5
  have HB_0 := Lib.hid (below_drewN HB_0.out nq)
  have HT_0 := Lib.hid (HT_0.out.below (below_drewN (Below.refl _ _) nq))
  generalize hW : v100.drewN nq = v101 at *
  clear hW
  go_wp2
  go_quiet (fail)
  have a0 := below_of (below_drewN (Below.refl _ _) nq) a0
  have a1 := below_of (below_drewN (Below.refl _ _) nq) a1
  have a2 := below_of (below_drewN (Below.refl _ _) nq) a2
  have a3 := below_of (below_drewN (Below.refl _ _) nq) a3
  have a4 := below_of (below_drewN (Below.refl _ _) nq) a4
  have a5 := below_of (below_drewN (Below.refl _ _) nq) a5
  have HB_0 := Lib.hid (below_drewN HB_0.out nq)
  have HT_0 := Lib.hid (HT_0.out.below (below_drewN (Below.refl _ _) nq))
  generalize hW : v101.drewN nq = v102 at *
  clear hW
  go_wp2_with fail
  refine (K1.out _).mono ?_
  rintro e w1 ⟨rfl, hb⟩
  have P_1 := Lib.hid (heap_alloc_new w1 (.cells (cc B1 Y1) 26))
  have LP_1 := load27 P_1.out
  have HB_1 := Lib.hid ((below_step HB_0.out hb).alloc (Nat.le_trans (HB_0.out.size) hb.size) (.cells (cc B1 Y1) 26))
  have HT_1 := Lib.hid (Tab.below (HT_0.out.below hb) (below1 _ (.cells (cc B1 Y1) 26)))
  clear hb HB_0 HT_0
  go_wp2_with fail
  generalize hW : w1.alloc (.cells (cc B1 Y1) 26) = v1 at *
  clear hW
  generalize w1.heap.size = PP at *
  refine (K2.out _).mono ?_
  rintro e w2 ⟨rfl, hb⟩
  have Q_2 := Lib.hid (heap_alloc_new w2 (.cells (cc B2 Y2) 26))
  have LQ_2 := load27 Q_2.out
  have P_2 := Lib.hid (blk_alloc (below_blk hb P_1.out) (.cells (cc B2 Y2) 26))
  have LP_2 := load27 P_2.out
  have HB_2 := Lib.hid ((below_step HB_1.out hb).alloc (Nat.le_trans (HB_1.out.size) hb.size) (.cells (cc B2 Y2) 26))
  have HT_2 := Lib.hid (Tab.below (HT_1.out.below hb) (below1 _ (.cells (cc B2 Y2) 26)))
  clear hb P_1 HB_1 HT_1 LP_1
  go_wp2_with fail
  generalize hW : w2.alloc (.cells (cc B2 Y2) 26) = v2 at *
  clear hW
  generalize w2.heap.size = PQ at *
  refine (K3.out _).mono ?_
  rintro e w3 ⟨rfl, hb⟩
  have R_3 := Lib.hid (heap_alloc_new w3 (.cells (cc B3 Y3) 26))
  have LR_3 := load27 R_3.out
  have P_3 := Lib.hid (blk_alloc (below_blk hb P_2.out) (.cells (cc B3 Y3) 26))
  have LP_3 := load27 P_3.out
  have Q_3 := Lib.hid (blk_alloc (below_blk hb Q_2.out) (.cells (cc B3 Y3) 26))
  have LQ_3 := load27 Q_3.out
  have HB_3 := Lib.hid ((below_step HB_2.out hb).alloc (Nat.le_trans (HB_2.out.size) hb.size) (.cells (cc B3 Y3) 26))
  have HT_3 := Lib.hid (Tab.below (HT_2.out.below hb) (below1 _ (.cells (cc B3 Y3) 26)))
  clear hb P_2 Q_2 HB_2 HT_2 LP_2 LQ_2
  go_wp2_with fail
  generalize hW : w3.alloc (.cells (cc B3 Y3) 26) = v3 at *
  clear hW
  generalize w3.heap.size = PR at *
  refine (K4.out _).mono ?_
  rintro e w4 ⟨rfl, hb⟩
  have S_4 := Lib.hid (heap_alloc_new w4 (.cells (cc B4 Y4) 26))
  have LS_4 := load27 S_4.out
  have P_4 := Lib.hid (blk_alloc (below_blk hb P_3.out) (.cells (cc B4 Y4) 26))
  have LP_4 := load27 P_4.out
  have Q_4 := Lib.hid (blk_alloc (below_blk hb Q_3.out) (.cells (cc B4 Y4) 26))
  have LQ_4 := load27 Q_4.out
  have R_4 := Lib.hid (blk_alloc (below_blk hb R_3.out) (.cells (cc B4 Y4) 26))
  have LR_4 := load27 R_4.out
  have HB_4 := Lib.hid ((below_step HB_3.out hb).alloc (Nat.le_trans (HB_3.out.size) hb.size) (.cells (cc B4 Y4) 26))
  have HT_4 := Lib.hid (Tab.below (HT_3.out.below hb) (below1 _ (.cells (cc B4 Y4) 26)))
  clear hb P_3 Q_3 R_3 HB_3 HT_3 LP_3 LQ_3 LR_3
  go_wp2_with ((go_at_call 19); (with_reducible refine (KF.out _ HT_4.out).mono ?_); (rintro e w5 ⟨rfl, hb⟩); (have P_5 := Lib.hid (below_blk hb P_4.out)); (have LP_5 := load27 P_5.out); (have Q_5 := Lib.hid (below_blk hb Q_4.out)); (have LQ_5 := load27 Q_5.out); (have R_5 := Lib.hid (below_blk hb R_4.out)); (have LR_5 := load27 R_5.out); (have S_5 := Lib.hid (below_blk hb S_4.out)); (have LS_5 := load27 S_5.out); (have HB_5 := Lib.hid (below_step HB_4.out hb)); (have HT_5 := Lib.hid (HT_4.out.below hb)); (clear hb P_4 Q_4 R_4 S_4 HB_4 HT_4 LP_4 LQ_4 LR_4 LS_4))
  go_ret
  exact ⟨rfl, HB_5.out⟩
set_option maxHeartbeats 12800000
attribute [-go_sem] Go.loadCells Go.run_eql_struct Go.run_neq_struct in
theorem order_else (f0 f1 f2 f3 f4 f5 : Nat) (h0 : f0 < 256) (h1 : f1 < 256) (h2 : f2 < 256) (h3 : f3 < 256) (h4 : f4 < 256) (h5 : f5 < 256) (HH : 1 + (f0 : Int) % 9 ≠ 1 + (f3 : Int) % 9) (w : World) (hT : Tab w) :
    Calls Tryd.prog 6 #[.agg #[.int .u8 (f0 : Nat), .int .u8 (f1 : Nat), .int .u8 (f2 : Nat), .int .u8 (f3 : Nat), .int .u8 (f4 : Nat), .int .u8 (f5 : Nat)]] w fun e w' => e = .returned (.bool true) ∧ Below w.heap.size w w' := by
  have BX := heap_alloc_new w (.cells #[.int .u8 (f0 : Nat), .int .u8 (f1 : Nat), .int .u8 (f2 : Nat), .int .u8 (f3 : Nat), .int .u8 (f4 : Nat), .int .u8 (f5 : Nat)] 52)
  have HT_0 := Lib.hid (hT.below (below1 w (.cells #[.int .u8 (f0 : Nat), .int .u8 (f1 : Nat), .int .u8 (f2 : Nat), .int .u8 (f3 : Nat), .int .u8 (f4 : Nat), .int .u8 (f5 : Nat)] 52)))
  have HB_0 := Lib.hid (below1 w (.cells #[.int .u8 (f0 : Nat), .int .u8 (f1 : Nat), .int .u8 (f2 : Nat), .int .u8 (f3 : Nat), .int .u8 (f4 : Nat), .int .u8 (f5 : Nat)] 52))
  have a0 := blk_cell BX 0 _ rfl
  have a1 := blk_cell BX 1 _ rfl
  have a2 := blk_cell BX 2 _ rfl
  have a3 := blk_cell BX 3 _ rfl
  have a4 := blk_cell BX 4 _ rfl
  have a5 := blk_cell BX 5 _ rfl
  clear BX hT
  obtain ⟨g, hg⟩ : ∃ g, 1 + (f0 : Int) % 9 = g := ⟨_, rfl⟩
  obtain ⟨h, hh⟩ : ∃ h, 1 + (f3 : Int) % 9 = h := ⟨_, rfl⟩
  obtain ⟨c, hc⟩ : ∃ c, (f1 : Int) + (f2 : Int) = c := ⟨_, rfl⟩
  obtain ⟨d, hd⟩ : ∃ d, (f4 : Int) + (f5 : Int) = d := ⟨_, rfl⟩
  have w1 : wok g f1 c = true := wok_yes (by omega) (by omega) (by omega) (by omega) (by omega)
  have w2 : wok h f4 d = true := wok_yes (by omega) (by omega) (by omega) (by omega) (by omega)
  have k1 := with_yes w1 zb zy
  have k2 := with_yes w2 (wb zb g f1 c) (wy zy g f1 c)
  have k3 := with_yes w2 zb zy
  have k4 := with_yes w1 (wb zb h f4 d) (wy zy h f4 d)
  have kF := fixed_calls
  have s1 := store_new (wb zb g f1 c) (wy zy g f1 c) 26
  have s2 := store_new (wb (wb zb g f1 c) h f4 d) (wy (wy zy g f1 c) h f4 d) 26
  have s3 := store_new (wb zb h f4 d) (wy zy h f4 d) 26
  have s4 := store_new (wb (wb zb h f4 d) g f1 c) (wy (wy zy h f4 d) g f1 c) 26
  rw [hg, hh] at HH
  have e24 : ∀ W, (binOp .eql 26 (.agg (cc (wb (wb zb g f1 c) h f4 d) (wy (wy zy g f1 c) h f4 d))) (.agg (cc (wb (wb zb h f4 d) g f1 c) (wy (wy zy h f4 d) g f1 c)))).run Tryd.prog W = .ok (.bool true) W := fun W => by
    have k := c_eql (fst (wb (wb zb g f1 c) h f4 d) (wy (wy zy g f1 c) h f4 d)) (fst (wb (wb zb h f4 d) g f1 c) (wy (wy zy h f4 d) g f1 c)) (snd (wb (wb zb g f1 c) h f4 d) (wy (wy zy g f1 c) h f4 d)) (snd (wb (wb zb h f4 d) g f1 c) (wy (wy zy h f4 d) g f1 c)) W
    rw [show same (wb (wb zb g f1 c) h f4 d) (wy (wy zy g f1 c) h f4 d) (wb (wb zb h f4 d) g f1 c) (wy (wy zy h f4 d) g f1 c) = true from either w1 w2 HH (by omega) (by omega)] at k
    exact k
  have e21 : ∀ W, (binOp .neq 26 (.agg (cc (wb (wb zb g f1 c) h f4 d) (wy (wy zy g f1 c) h f4 d))) (.agg (cc (wb zb g f1 c) (wy zy g f1 c)))).run Tryd.prog W = .ok (.bool true) W := fun W => by
    have k := c_neq (fst (wb (wb zb g f1 c) h f4 d) (wy (wy zy g f1 c) h f4 d)) (fst (wb zb g f1 c) (wy zy g f1 c)) (snd (wb (wb zb g f1 c) h f4 d) (wy (wy zy g f1 c) h f4 d)) (snd (wb zb g f1 c) (wy zy g f1 c)) W
    rw [show same (wb (wb zb g f1 c) h f4 d) (wy (wy zy g f1 c) h f4 d) (wb zb g f1 c) (wy zy g f1 c) = false from one_more w1 w2 HH (by omega) (by omega) (by omega)] at k
    exact k
  have e23 : ∀ W, (binOp .neq 26 (.agg (cc (wb (wb zb g f1 c) h f4 d) (wy (wy zy g f1 c) h f4 d))) (.agg (cc (wb zb h f4 d) (wy zy h f4 d)))).run Tryd.prog W = .ok (.bool true) W := fun W => by
    have k := c_neq (fst (wb (wb zb g f1 c) h f4 d) (wy (wy zy g f1 c) h f4 d)) (fst (wb zb h f4 d) (wy zy h f4 d)) (snd (wb (wb zb g f1 c) h f4 d) (wy (wy zy g f1 c) h f4 d)) (snd (wb zb h f4 d) (wy zy h f4 d)) W
    rw [show same (wb (wb zb g f1 c) h f4 d) (wy (wy zy g f1 c) h f4 d) (wb zb h f4 d) (wy zy h f4 d) = false from one_else w1 w2 HH (by omega) (by omega) (by omega)] at k
    exact k
  have hq : (g == h) = false := by simp [HH]
  clear HH w1 w2
  generalize wb (wb zb g f1 c) h f4 d = B2 at *
  generalize wb (wb zb h f4 d) g f1 c = B4 at *
  generalize wb zb g f1 c = B1 at *
  generalize wb zb h f4 d = B3 at *
  generalize wy (wy zy g f1 c) h f4 d = Y2 at *
  generalize wy (wy zy h f4 d) g f1 c = Y4 at *
  generalize wy zy g f1 c = Y1 at *
  generalize wy zy h f4 d = Y3 at *
  have hs := cc_size
  have hz := zero_c
  have K1 := Lib.hid k1
  clear k1
  have K2 := Lib.hid k2
  clear k2
  have K3 := Lib.hid k3
  clear k3
  have K4 := Lib.hid k4
  clear k4
  have KF := Lib.hid kF
  clear kF
  go_enter Tryd.func6, Tryd.ntmps6
  go_wp2
  generalize hW : w.alloc (.cells #[.int .u8 (f0 : Nat), .int .u8 (f1 : Nat), .int .u8 (f2 : Nat), .int .u8 (f3 : Nat), .int .u8 (f4 : Nat), .int .u8 (f5 : Nat)] 52) = v0 at *
  clear hW
  go_quiet (fail)
  have a0 := below_of (below_drewN (Below.refl _ _) nq) a0
  have a1 := below_of (below_drewN (Below.refl _ _) nq) a1
  have a2 := below_of (below_drewN (Below.refl _ _) nq) a2
  have a3 := below_of (below_drewN (Below.refl _ _) nq) a3
  have a4 := below_of (below_drewN (Below.refl _ _) nq) a4
  have a5 := below_of (below_drewN (Below.refl _ _) nq) a5
  have HB_0 := Lib.hid (below_drewN HB_0.out nq)
  have HT_0 := Lib.hid (HT_0.out.below (below_drewN (Below.refl _ _) nq))
  generalize hW : v0.drewN nq = v100 at *
  clear hW
  go_wp2
  go_quiet (fail)
  have a0 := below_of (below_drewN (Below.refl _ _) nq) a0
  have a1 := below_of (below_drewN (Below.refl _ _) nq) a1
  have a2 := below_of (below_drewN (Below.refl _ _) nq) a2
  have a3 := below_of (below_drewN (Below.refl _ _) nq) a3
  have a4 := below_of (below_drewN (Below.refl _ _) nq) a4
  have a5 := below_of (below_drewN (Below.refl _ _) nq) a5
  have HB_0 := Lib.hid (below_drewN HB_0.out nq)
  have HT_0 := Lib.hid (HT_0.out.below (below_drewN (Below.refl _ _) nq))
  generalize hW : v100.drewN nq = v101 at *
  clear hW
  go_wp2
  go_quiet (fail)
  have a0 := below_of (below_drewN (Below.refl _ _) nq) a0
  have a1 := below_of (below_drewN (Below.refl _ _) nq) a1
  have a2 := below_of (below_drewN (Below.refl _ _) nq) a2
  have a3 := below_of (below_drewN (Below.refl _ _) nq) a3
  have a4 := below_of (below_drewN (Below.refl _ _) nq) a4
  have a5 := below_of (below_drewN (Below.refl _ _) nq) a5
  have HB_0 := Lib.hid (below_drewN HB_0.out nq)
  have HT_0 := Lib.hid (HT_0.out.below (below_drewN (Below.refl _ _) nq))
  generalize hW : v101.drewN nq = v102 at *
  clear hW
  go_wp2_with fail
  refine (K1.out _).mono ?_
  rintro e w1 ⟨rfl, hb⟩
  have P_1 := Lib.hid (heap_alloc_new w1 (.cells (cc B1 Y1) 26))
  have LP_1 := load27 P_1.out
  have HB_1 := Lib.hid ((below_step HB_0.out hb).alloc (Nat.le_trans (HB_0.out.size) hb.size) (.cells (cc B1 Y1) 26))
  have HT_1 := Lib.hid (Tab.below (HT_0.out.below hb) (below1 _ (.cells (cc B1 Y1) 26)))
  clear hb HB_0 HT_0
  go_wp2_with fail
  generalize hW : w1.alloc (.cells (cc B1 Y1) 26) = v1 at *
  clear hW
  generalize w1.heap.size = PP at *
  refine (K2.out _).mono ?_
  rintro e w2 ⟨rfl, hb⟩
  have Q_2 := Lib.hid (heap_alloc_new w2 (.cells (cc B2 Y2) 26))
  have LQ_2 := load27 Q_2.out
  have P_2 := Lib.hid (blk_alloc (below_blk hb P_1.out) (.cells (cc B2 Y2) 26))
  have LP_2 := load27 P_2.out
  have HB_2 := Lib.hid ((below_step HB_1.out hb).alloc (Nat.le_trans (HB_1.out.size) hb.size) (.cells (cc B2 Y2) 26))
  have HT_2 := Lib.hid (Tab.below (HT_1.out.below hb) (below1 _ (.cells (cc B2 Y2) 26)))
  clear hb P_1 HB_1 HT_1 LP_1
  go_wp2_with fail
  generalize hW : w2.alloc (.cells (cc B2 Y2) 26) = v2 at *
  clear hW
  generalize w2.heap.size = PQ at *
  refine (K3.out _).mono ?_
  rintro e w3 ⟨rfl, hb⟩
  have R_3 := Lib.hid (heap_alloc_new w3 (.cells (cc B3 Y3) 26))
  have LR_3 := load27 R_3.out
  have P_3 := Lib.hid (blk_alloc (below_blk hb P_2.out) (.cells (cc B3 Y3) 26))
  have LP_3 := load27 P_3.out
  have Q_3 := Lib.hid (blk_alloc (below_blk hb Q_2.out) (.cells (cc B3 Y3) 26))
  have LQ_3 := load27 Q_3.out
  have HB_3 := Lib.hid ((below_step HB_2.out hb).alloc (Nat.le_trans (HB_2.out.size) hb.size) (.cells (cc B3 Y3) 26))
  have HT_3 := Lib.hid (Tab.below (HT_2.out.below hb) (below1 _ (.cells (cc B3 Y3) 26)))
  clear hb P_2 Q_2 HB_2 HT_2 LP_2 LQ_2
  go_wp2_with fail
  generalize hW : w3.alloc (.cells (cc B3 Y3) 26) = v3 at *
  clear hW
  generalize w3.heap.size = PR at *
  refine (K4.out _).mono ?_
  rintro e w4 ⟨rfl, hb⟩
  have S_4 := Lib.hid (heap_alloc_new w4 (.cells (cc B4 Y4) 26))
  have LS_4 := load27 S_4.out
  have P_4 := Lib.hid (blk_alloc (below_blk hb P_3.out) (.cells (cc B4 Y4) 26))
  have LP_4 := load27 P_4.out
  have Q_4 := Lib.hid (blk_alloc (below_blk hb Q_3.out) (.cells (cc B4 Y4) 26))
  have LQ_4 := load27 Q_4.out
  have R_4 := Lib.hid (blk_alloc (below_blk hb R_3.out) (.cells (cc B4 Y4) 26))
  have LR_4 := load27 R_4.out
  have HB_4 := Lib.hid ((below_step HB_3.out hb).alloc (Nat.le_trans (HB_3.out.size) hb.size) (.cells (cc B4 Y4) 26))
  have HT_4 := Lib.hid (Tab.below (HT_3.out.below hb) (below1 _ (.cells (cc B4 Y4) 26)))
  clear hb P_3 Q_3 R_3 HB_3 HT_3 LP_3 LQ_3 LR_3
  go_wp2_with ((go_at_call 19); (with_reducible refine (KF.out _ HT_4.out).mono ?_); (rintro e w5 ⟨rfl, hb⟩); (have P_5 := Lib.hid (below_blk hb P_4.out)); (have LP_5 := load27 P_5.out); (have Q_5 := Lib.hid (below_blk hb Q_4.out)); (have LQ_5 := load27 Q_5.out); (have R_5 := Lib.hid (below_blk hb R_4.out)); (have LR_5 := load27 R_5.out); (have S_5 := Lib.hid (below_blk hb S_4.out)); (have LS_5 := load27 S_5.out); (have HB_5 := Lib.hid (below_step HB_4.out hb)); (have HT_5 := Lib.hid (HT_4.out.below hb)); (clear hb P_4 Q_4 R_4 S_4 HB_4 HT_4 LP_4 LQ_4 LR_4 LS_4))
  go_ret
  exact ⟨rfl, HB_5.out⟩
theorem capsOrder_row (f : Nat → Int) (w : World) (hT : Tab w) (hf : ∀ i, i < 6 → 0 ≤ f i ∧ f i < 256) :
    Calls Tryd.prog 6 #[.agg #[.int .u8 (f 0), .int .u8 (f 1), .int .u8 (f 2), .int .u8 (f 3), .int .u8 (f 4), .int .u8 (f 5)]] w fun e w' => e = .returned (.bool true) ∧ Below w.heap.size w w' := by
  have q0 := hf 0 (by decide)
  have q1 := hf 1 (by decide)
  have q2 := hf 2 (by decide)
  have q3 := hf 3 (by decide)
  have q4 := hf 4 (by decide)
  have q5 := hf 5 (by decide)
  obtain ⟨f0, e0⟩ := Int.eq_ofNat_of_zero_le q0.1
  obtain ⟨f1, e1⟩ := Int.eq_ofNat_of_zero_le q1.1
  obtain ⟨f2, e2⟩ := Int.eq_ofNat_of_zero_le q2.1
  obtain ⟨f3, e3⟩ := Int.eq_ofNat_of_zero_le q3.1
  obtain ⟨f4, e4⟩ := Int.eq_ofNat_of_zero_le q4.1
  obtain ⟨f5, e5⟩ := Int.eq_ofNat_of_zero_le q5.1
  rw [e0, e1, e2, e3, e4, e5]
  by_cases H : 1 + (f0 : Int) % 9 = 1 + (f3 : Int) % 9
  · exact order_same f0 f1 f2 f3 f4 f5 (by omega) (by omega) (by omega) (by omega) (by omega) (by omega) H w hT
  · exact order_else f0 f1 f2 f3 f4 f5 (by omega) (by omega) (by omega) (by omega) (by omega) (by omega) H w hT
end Go.Proofs.YtpeccbdobdnpiaaDoor.LCapsOrder
