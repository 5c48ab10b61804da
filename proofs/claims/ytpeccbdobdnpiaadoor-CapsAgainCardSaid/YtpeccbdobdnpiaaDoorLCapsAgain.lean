/- CapsAgain. -/
import Derived.Test.YtpeccbdobdnpiaaDoorAFixW
import Derived.Test.YtpeccbdobdnpiaaDoorAArg
import Derived.Test.YtpeccbdobdnpiaaDoorLCapsOrder
namespace Go.Proofs.YtpeccbdobdnpiaaDoor.LCapsAgain
open Go.RowKit CMem ACap AGet AWith AText ASame AAgain AShow AFix AFixW LCapsOrder Go.Proofs.YtpeccbdobdnpiaaDoorW.PrintWords Go.Proofs.YtpeccbdobdnpiaaDoorW.PrintLast Go.Proofs.YtpeccbdobdnpiaaDoorW.PrintMore
set_option linter.unusedVariables false
set_option linter.unusedSimpArgs false
set_option maxRecDepth 100000
theorem eqk_of {s t : ByteArray} {p : Nat} {fold : Bool} (h : ∀ i, i < t.size → eqs s t p fold i = true) : eqk s t p fold 0 = true := by
  unfold eqk
  rw [List.all_eq_true]
  intro i hi
  rw [h i (List.mem_range.1 hi)]
  simp
theorem eqk_at {s t : ByteArray} {p : Nat} {fold : Bool} (h : eqk s t p fold 0 = true) (i : Nat) (hi : i < t.size) : eqs s t p fold i = true := by
  unfold eqk at h
  rw [List.all_eq_true] at h
  have := h i (List.mem_range.2 hi)
  simpa using this
theorem eqs_plain {s t : ByteArray} {p i : Nat} (h : eqs s t p false i = true) : bya t i = bya s (p + i) := by
  unfold eqs at h
  simpa using h
/-- what a group matched stands where it matched -/
theorem here {t : ByteArray} {p q : Nat} (h1 : p ≤ q) (h2 : q ≤ t.size) : agb t (t.extract p q) true (p : Int) false = true := by
  have hu : (t.extract p q).size = q - p := size_ext t h1 h2
  unfold agb rm
  rw [decide_eq_true (show (0 : Int) ≤ (p : Int) by omega), decide_eq_true (show (p : Int) ≤ (t.size : Int) by omega), decide_eq_true (show (((t.extract p q).size : Nat) : Int) ≤ (t.size : Int) - (p : Int) by rw [hu]; omega), eqk_of fun i hi => eqs_same (by
    rw [Int.toNat_natCast]
    exact bya_ext t h2 (by rw [hu] at hi; omega))]
  rfl
/-- where it stands it stands without regard to case, too; and is what stands there -/
theorem there {t u : ByteArray} {p : Int} (h : agb t u true p false = true) : agb t u true p true = true ∧ 0 ≤ p ∧ p ≤ t.size ∧ (u.size : Int) ≤ t.size - p ∧ t.extract p.toNat (p.toNat + u.size) = u := by
  unfold agb at h ⊢
  rw [Bool.and_eq_true] at h
  obtain ⟨hr, he⟩ := h
  have hr0 := hr
  unfold rm at hr
  simp only [Bool.true_and, Bool.and_eq_true, decide_eq_true_eq] at hr
  obtain ⟨r1, r2, r3⟩ := hr
  have hz : (t.extract p.toNat (p.toNat + u.size)).size = u.size := by rw [size_ext t (by omega) (by omega)]; omega
  refine ⟨?_, r1, r2, r3, bya_eq hz fun i hi => ?_⟩
  · rw [hr0, eqk_of fun i hi => eqs_same (eqs_plain (eqk_at he i hi))]
    rfl
  · rw [hz] at hi
    rw [bya_ext t (by omega) (by omega)]
    exact (eqs_plain (eqk_at he i hi)).symm
theorem p_ints {m p q f2 us : Nat} (hpq : p ≤ q) (hus : us = q - p) (hm : m ≤ 60) (t3 : (us : Int) ≤ (m : Int) - f2) :
    ((f2 : Int) + (us : Int) = ((f2 + us : Nat) : Int)) ∧ ((f2 : Int) + ((q : Int) - (p : Int)) = ((f2 + us : Nat) : Int)) ∧ (wrap64 ((f2 + us : Nat) : Int) = ((f2 + us : Nat) : Int)) ∧ f2 + us ≤ m ∧ f2 ≤ f2 + us ∧ ¬ ((us : Int) < 0) ∧ ¬ ((m : Int) < us) ∧ ¬ ((m : Int) - (us : Int) < f2) ∧ wrap64 ((m : Int) - (us : Int)) = (m : Int) - us := by
  refine ⟨by omega, by omega, by unfold wrap64; omega, by omega, by omega, by omega, by omega, by omega, by unfold wrap64; omega⟩
theorem sub_wrap {p q : Nat} (h : p ≤ q) (hq : q ≤ 60) : wrap64 ((q : Int) - (p : Int)) = (q : Int) - p := by unfold wrap64; omega
set_option maxHeartbeats 12800000
attribute [-go_sem] Go.loadCells in
theorem again_true_true (s : ByteArray) (f0 f1 f2 m p q r : Nat) (hm : min (s.size : Int) 60 = (m : Int)) (h0 : f0 < 256) (h1 : f1 < 256) (h2 : f2 < 256) (t u : ByteArray) (ht : s.extract 0 m = t) (hts : t.size = m)
    (hpl : p ≤ m) (hrl : r ≤ m - p) (hpi : (f0 : Int) % ((m : Int) + 1) = (p : Int)) (hri : (f1 : Int) % ((m : Int) - (p : Int) + 1) = (r : Int)) (hq : p + r = q) (hu : t.extract p q = u) (HP : agb t u true (f2 : Int) false = true) (HF : agb t u true (f2 : Int) true = true) (w : World) (hT : Tab w) :
    Calls Tryd.prog 5 #[.string s, .agg #[.int .u8 (f0 : Nat), .int .u8 (f1 : Nat), .int .u8 (f2 : Nat)]] w fun e w' => e = .returned (.bool true) ∧ Below w.heap.size w w' := by
  have hpi2 := Lib.hid hpi
  have hri2 := Lib.hid hri
  clear hpi hri
  have hms : m ≤ s.size := by omega
  have hm60 : m ≤ 60 := by omega
  have hm2 := Lib.hid hm
  clear hm
  have hqi : (p : Int) + (r : Int) = (q : Int) := by omega
  have hpq : p ≤ q := by omega
  have hqm : q ≤ m := by omega
  have e3 : (0 : Int) ≤ (p : Int) := by omega
  have e4 : (p : Int) ≤ (q : Int) := by omega
  have e5 : (q : Int) ≤ 10000 := by omega
  have e6 : (q : Int) ≤ (t.size : Int) := by omega
  have e7 : t.size ≤ 100000 := by omega
  have hqt : q ≤ t.size := by omega
  have hnz : ¬ ((m : Int) - (p : Int) + 1 = 0) := by omega
  have hus : u.size = q - p := by rw [← hu]; exact size_ext t hpq hqt
  have hui : (u.size : Int) = (q : Int) - (p : Int) := by omega
  have hh := here hpq hqt
  rw [hu] at hh
  have w1 : wok 3 p q = true := wok_yes (by decide) (by decide) e3 e4 e5
  have g1 : gi (wb zb 3 p q) 3 = true := by unfold gi; rw [wb_yes w1]; decide
  have g2 : gfr (wb zb 3 p q) (wy zy 3 p q) 3 = (p : Int) := by unfold gfr; rw [if_pos g1, wy_yes w1]; simp
  have g3 : gto (wb zb 3 p q) (wy zy 3 p q) 3 = (q : Int) := by unfold gto; rw [if_pos g1, wy_yes w1]; simp
  have g4 : pok t true (p : Int) (q : Int) = true := by unfold pok ris; rw [decide_eq_true e3, decide_eq_true e4, decide_eq_true e5, decide_eq_true e6]; rfl
  have g5 : prt t true (p : Int) (q : Int) = u := by unfold prt; rw [if_pos g4, Int.toNat_natCast, Int.toNat_natCast]; exact hu
  have k1 := with_yes w1 zb zy
  have k2 := again_calls (wb zb 3 p q) (wy zy 3 p q) t 3 p false e7
  rw [g1, g2, g3, g4, g5, agn_yes hh, hh] at k2
  have k3 := again_calls (wb zb 3 p q) (wy zy 3 p q) t 3 f2 false e7
  rw [g1, g2, g3, g4, g5, agn_yes HP, HP] at k3
  have k4 := again_calls (wb zb 3 p q) (wy zy 3 p q) t 3 f2 true e7
  rw [g1, g2, g3, g4, g5, agn_yes HF, HF] at k4
  have k5 := text_calls (wb zb 3 p q) (wy zy 3 p q) t 3
  rw [g1, g2, g3, g4, g5] at k5
  have k6 := fixed_calls
  have s1 := store_new (wb zb 3 p q) (wy zy 3 p q) 26
  obtain ⟨_, t1, t2, t3, t4⟩ := there HP
  rw [Int.toNat_natCast] at t4
  obtain ⟨hzi, hzi2, _, hzl, hfz, d1, d2, d3, _⟩ := p_ints hpq hus hm60 (show (u.size : Int) ≤ (m : Int) - f2 by rw [← hts]; exact t3)
  generalize f2 + u.size = z at *
  clear t1 t2 t3
  have HPF := Lib.hid (And.intro hzi (And.intro hzi2 (And.intro hzl (And.intro hfz (And.intro d1 (And.intro d2 (And.intro d3 t4)))))))
  clear hzi hzi2 hzl hfz d1 d2 d3 t4
--|   have hne : ((u.size : Int) != (q : Int) - (p : Int)) = false := by rw [hui]; simp
  have hue : (u.toList == u.toList) = true := by simp
  clear g1 g2 g3 g4 g5 w1 HP HF hh hq hrl
  have hm := hm2.out
  have hpi := hpi2.out
  have hri := hri2.out
  clear hm2 hpi2 hri2 e3 e4 e5 e6 e7 hqt hus
  generalize wb zb 3 p q = B at *
  generalize wy zy 3 p q = Y at *
  have HT_0 := Lib.hid (hT.below (below1 w (.cells #[.int .u8 (f0 : Nat), .int .u8 (f1 : Nat), .int .u8 (f2 : Nat)] 49)))
  have HB_0 := Lib.hid (below1 w (.cells #[.int .u8 (f0 : Nat), .int .u8 (f1 : Nat), .int .u8 (f2 : Nat)] 49))
  have F_0 := Lib.hid (heap_alloc_new w (.cells #[.int .u8 (f0 : Nat), .int .u8 (f1 : Nat), .int .u8 (f2 : Nat)] 49))
  have LF0_0 := blk_cell F_0.out 0 (.int .u8 (f0 : Nat)) rfl
  have LF1_0 := blk_cell F_0.out 1 (.int .u8 (f1 : Nat)) rfl
  have LF2_0 := blk_cell F_0.out 2 (.int .u8 (f2 : Nat)) rfl
  have hz := zero_c
  have hs := cc_size
  clear hT
  have K1 := Lib.hid k1
  clear k1
  have K2 := Lib.hid k2
  clear k2
  have K3 := Lib.hid k3
  clear k3
  have K4 := Lib.hid k4
  clear k4
  have K5 := Lib.hid k5
  clear k5
  have K6 := Lib.hid k6
  clear k6
  go_enter Tryd.func5, Tryd.ntmps5
  go_wp2_with fail
  generalize hW : w.alloc (.cells #[.int .u8 (f0 : Nat), .int .u8 (f1 : Nat), .int .u8 (f2 : Nat)] 49) = v0 at *
  clear hW
  refine (K1.out _).mono ?_
  rintro e w1 ⟨rfl, hb⟩
  have C_1 := Lib.hid (heap_alloc_new w1 (.cells (cc B Y) 26))
  have LC_1 := load27 C_1.out
  have F_1 := Lib.hid (blk_alloc (below_blk hb F_0.out) (.cells (cc B Y) 26))
  have LF0_1 := blk_cell F_1.out 0 (.int .u8 (f0 : Nat)) rfl
  have LF1_1 := blk_cell F_1.out 1 (.int .u8 (f1 : Nat)) rfl
  have LF2_1 := blk_cell F_1.out 2 (.int .u8 (f2 : Nat)) rfl
  have HB_1 := Lib.hid ((below_step HB_0.out hb).alloc (Nat.le_trans (HB_0.out.size) hb.size) (.cells (cc B Y) 26))
  have HT_1 := Lib.hid (Tab.below (HT_0.out.below hb) (below1 _ (.cells (cc B Y) 26)))
  clear hb F_0 HB_0 HT_0 LF0_0 LF1_0 LF2_0
  go_wp2_with fail
  generalize hW : w1.alloc (.cells (cc B Y) 26) = v1 at *
  clear hW
  generalize w1.heap.size = PC at *
  refine (K2.out _).mono ?_
  rintro e w2 ⟨rfl, hb⟩
  have C_2 := Lib.hid (below_blk hb C_1.out)
  have LC_2 := load27 C_2.out
  have F_2 := Lib.hid (below_blk hb F_1.out)
  have LF0_2 := blk_cell F_2.out 0 (.int .u8 (f0 : Nat)) rfl
  have LF1_2 := blk_cell F_2.out 1 (.int .u8 (f1 : Nat)) rfl
  have LF2_2 := blk_cell F_2.out 2 (.int .u8 (f2 : Nat)) rfl
  have HB_2 := Lib.hid (below_step HB_1.out hb)
  have HT_2 := Lib.hid (HT_1.out.below hb)
  clear hb C_1 F_1 HB_1 HT_1 LC_1 LF0_1 LF1_1 LF2_1
  go_wp2_with fail
  refine (K3.out _).mono ?_
  rintro e w3 ⟨rfl, hb⟩
  have C_3 := Lib.hid (below_blk hb C_2.out)
  have LC_3 := load27 C_3.out
  have F_3 := Lib.hid (below_blk hb F_2.out)
  have LF0_3 := blk_cell F_3.out 0 (.int .u8 (f0 : Nat)) rfl
  have LF1_3 := blk_cell F_3.out 1 (.int .u8 (f1 : Nat)) rfl
  have LF2_3 := blk_cell F_3.out 2 (.int .u8 (f2 : Nat)) rfl
  have HB_3 := Lib.hid (below_step HB_2.out hb)
  have HT_3 := Lib.hid (HT_2.out.below hb)
  clear hb C_2 F_2 HB_2 HT_2 LC_2 LF0_2 LF1_2 LF2_2
  go_wp2_with fail
  refine (K4.out _).mono ?_
  rintro e w4 ⟨rfl, hb⟩
  have C_4 := Lib.hid (below_blk hb C_3.out)
  have LC_4 := load27 C_4.out
  have F_4 := Lib.hid (below_blk hb F_3.out)
  have LF0_4 := blk_cell F_4.out 0 (.int .u8 (f0 : Nat)) rfl
  have LF1_4 := blk_cell F_4.out 1 (.int .u8 (f1 : Nat)) rfl
  have LF2_4 := blk_cell F_4.out 2 (.int .u8 (f2 : Nat)) rfl
  have HB_4 := Lib.hid (below_step HB_3.out hb)
  have HT_4 := Lib.hid (HT_3.out.below hb)
  clear hb C_3 F_3 HB_3 HT_3 LC_3 LF0_3 LF1_3 LF2_3
  go_wp2_with fail
  refine (K5.out _).mono ?_
  rintro e w5 ⟨rfl, hb⟩
  have C_5 := Lib.hid (below_blk hb C_4.out)
  have LC_5 := load27 C_5.out
  have F_5 := Lib.hid (below_blk hb F_4.out)
  have LF0_5 := blk_cell F_5.out 0 (.int .u8 (f0 : Nat)) rfl
  have LF1_5 := blk_cell F_5.out 1 (.int .u8 (f1 : Nat)) rfl
  have LF2_5 := blk_cell F_5.out 2 (.int .u8 (f2 : Nat)) rfl
  have HB_5 := Lib.hid (below_step HB_4.out hb)
  have HT_5 := Lib.hid (HT_4.out.below hb)
  clear hb C_4 F_4 HB_4 HT_4 LC_4 LF0_4 LF1_4 LF2_4
  obtain ⟨hzi, hzi2, hzl, hfz, d1, d2, d3, t4⟩ := HPF.out
  clear HPF
  go_wp2_with ((go_at_call 19); (with_reducible refine (K6.out _ HT_5.out).mono ?_); (rintro e w6 ⟨rfl, hb⟩); (have C_6 := Lib.hid (below_blk hb C_5.out)); (have LC_6 := load27 C_6.out); (have F_6 := Lib.hid (below_blk hb F_5.out)); (have LF0_6 := blk_cell F_6.out 0 (.int .u8 (f0 : Nat)) rfl); (have LF1_6 := blk_cell F_6.out 1 (.int .u8 (f1 : Nat)) rfl); (have LF2_6 := blk_cell F_6.out 2 (.int .u8 (f2 : Nat)) rfl); (have HB_6 := Lib.hid (below_step HB_5.out hb)); (have HT_6 := Lib.hid (HT_5.out.below hb)); (clear hb C_5 F_5 HB_5 HT_5 LC_5 LF0_5 LF1_5 LF2_5))
  go_ret
  exact ⟨rfl, HB_6.out⟩
set_option maxHeartbeats 12800000
attribute [-go_sem] Go.loadCells in
theorem again_false_true (s : ByteArray) (f0 f1 f2 m p q r : Nat) (hm : min (s.size : Int) 60 = (m : Int)) (h0 : f0 < 256) (h1 : f1 < 256) (h2 : f2 < 256) (t u : ByteArray) (ht : s.extract 0 m = t) (hts : t.size = m)
    (hpl : p ≤ m) (hrl : r ≤ m - p) (hpi : (f0 : Int) % ((m : Int) + 1) = (p : Int)) (hri : (f1 : Int) % ((m : Int) - (p : Int) + 1) = (r : Int)) (hq : p + r = q) (hu : t.extract p q = u) (HP : agb t u true (f2 : Int) false = false) (HF : agb t u true (f2 : Int) true = true) (w : World) (hT : Tab w) :
    Calls Tryd.prog 5 #[.string s, .agg #[.int .u8 (f0 : Nat), .int .u8 (f1 : Nat), .int .u8 (f2 : Nat)]] w fun e w' => e = .returned (.bool true) ∧ Below w.heap.size w w' := by
  have hpi2 := Lib.hid hpi
  have hri2 := Lib.hid hri
  clear hpi hri
  have hms : m ≤ s.size := by omega
  have hm60 : m ≤ 60 := by omega
  have hm2 := Lib.hid hm
  clear hm
  have hqi : (p : Int) + (r : Int) = (q : Int) := by omega
  have hpq : p ≤ q := by omega
  have hqm : q ≤ m := by omega
  have e3 : (0 : Int) ≤ (p : Int) := by omega
  have e4 : (p : Int) ≤ (q : Int) := by omega
  have e5 : (q : Int) ≤ 10000 := by omega
  have e6 : (q : Int) ≤ (t.size : Int) := by omega
  have e7 : t.size ≤ 100000 := by omega
  have hqt : q ≤ t.size := by omega
  have hnz : ¬ ((m : Int) - (p : Int) + 1 = 0) := by omega
  have hus : u.size = q - p := by rw [← hu]; exact size_ext t hpq hqt
  have hui : (u.size : Int) = (q : Int) - (p : Int) := by omega
  have hh := here hpq hqt
  rw [hu] at hh
  have w1 : wok 3 p q = true := wok_yes (by decide) (by decide) e3 e4 e5
  have g1 : gi (wb zb 3 p q) 3 = true := by unfold gi; rw [wb_yes w1]; decide
  have g2 : gfr (wb zb 3 p q) (wy zy 3 p q) 3 = (p : Int) := by unfold gfr; rw [if_pos g1, wy_yes w1]; simp
  have g3 : gto (wb zb 3 p q) (wy zy 3 p q) 3 = (q : Int) := by unfold gto; rw [if_pos g1, wy_yes w1]; simp
  have g4 : pok t true (p : Int) (q : Int) = true := by unfold pok ris; rw [decide_eq_true e3, decide_eq_true e4, decide_eq_true e5, decide_eq_true e6]; rfl
  have g5 : prt t true (p : Int) (q : Int) = u := by unfold prt; rw [if_pos g4, Int.toNat_natCast, Int.toNat_natCast]; exact hu
  have k1 := with_yes w1 zb zy
  have k2 := again_calls (wb zb 3 p q) (wy zy 3 p q) t 3 p false e7
  rw [g1, g2, g3, g4, g5, agn_yes hh, hh] at k2
  have k3 := again_calls (wb zb 3 p q) (wy zy 3 p q) t 3 f2 false e7
  rw [g1, g2, g3, g4, g5, agn_no HP, HP] at k3
  have k4 := again_calls (wb zb 3 p q) (wy zy 3 p q) t 3 f2 true e7
  rw [g1, g2, g3, g4, g5, agn_yes HF, HF] at k4
  have k5 := text_calls (wb zb 3 p q) (wy zy 3 p q) t 3
  rw [g1, g2, g3, g4, g5] at k5
  have k6 := fixed_calls
  have s1 := store_new (wb zb 3 p q) (wy zy 3 p q) 26
--|   have hne : ((u.size : Int) != (q : Int) - (p : Int)) = false := by rw [hui]; simp
  have hue : (u.toList == u.toList) = true := by simp
  clear g1 g2 g3 g4 g5 w1 HP HF hh hq hrl
  have hm := hm2.out
  have hpi := hpi2.out
  have hri := hri2.out
  clear hm2 hpi2 hri2 e3 e4 e5 e6 e7 hqt hus
  generalize wb zb 3 p q = B at *
  generalize wy zy 3 p q = Y at *
  have HT_0 := Lib.hid (hT.below (below1 w (.cells #[.int .u8 (f0 : Nat), .int .u8 (f1 : Nat), .int .u8 (f2 : Nat)] 49)))
  have HB_0 := Lib.hid (below1 w (.cells #[.int .u8 (f0 : Nat), .int .u8 (f1 : Nat), .int .u8 (f2 : Nat)] 49))
  have F_0 := Lib.hid (heap_alloc_new w (.cells #[.int .u8 (f0 : Nat), .int .u8 (f1 : Nat), .int .u8 (f2 : Nat)] 49))
  have LF0_0 := blk_cell F_0.out 0 (.int .u8 (f0 : Nat)) rfl
  have LF1_0 := blk_cell F_0.out 1 (.int .u8 (f1 : Nat)) rfl
  have LF2_0 := blk_cell F_0.out 2 (.int .u8 (f2 : Nat)) rfl
  have hz := zero_c
  have hs := cc_size
  clear hT
  have K1 := Lib.hid k1
  clear k1
  have K2 := Lib.hid k2
  clear k2
  have K3 := Lib.hid k3
  clear k3
  have K4 := Lib.hid k4
  clear k4
  have K5 := Lib.hid k5
  clear k5
  have K6 := Lib.hid k6
  clear k6
  go_enter Tryd.func5, Tryd.ntmps5
  go_wp2_with fail
  generalize hW : w.alloc (.cells #[.int .u8 (f0 : Nat), .int .u8 (f1 : Nat), .int .u8 (f2 : Nat)] 49) = v0 at *
  clear hW
  refine (K1.out _).mono ?_
  rintro e w1 ⟨rfl, hb⟩
  have C_1 := Lib.hid (heap_alloc_new w1 (.cells (cc B Y) 26))
  have LC_1 := load27 C_1.out
  have F_1 := Lib.hid (blk_alloc (below_blk hb F_0.out) (.cells (cc B Y) 26))
  have LF0_1 := blk_cell F_1.out 0 (.int .u8 (f0 : Nat)) rfl
  have LF1_1 := blk_cell F_1.out 1 (.int .u8 (f1 : Nat)) rfl
  have LF2_1 := blk_cell F_1.out 2 (.int .u8 (f2 : Nat)) rfl
  have HB_1 := Lib.hid ((below_step HB_0.out hb).alloc (Nat.le_trans (HB_0.out.size) hb.size) (.cells (cc B Y) 26))
  have HT_1 := Lib.hid (Tab.below (HT_0.out.below hb) (below1 _ (.cells (cc B Y) 26)))
  clear hb F_0 HB_0 HT_0 LF0_0 LF1_0 LF2_0
  go_wp2_with fail
  generalize hW : w1.alloc (.cells (cc B Y) 26) = v1 at *
  clear hW
  generalize w1.heap.size = PC at *
  refine (K2.out _).mono ?_
  rintro e w2 ⟨rfl, hb⟩
  have C_2 := Lib.hid (below_blk hb C_1.out)
  have LC_2 := load27 C_2.out
  have F_2 := Lib.hid (below_blk hb F_1.out)
  have LF0_2 := blk_cell F_2.out 0 (.int .u8 (f0 : Nat)) rfl
  have LF1_2 := blk_cell F_2.out 1 (.int .u8 (f1 : Nat)) rfl
  have LF2_2 := blk_cell F_2.out 2 (.int .u8 (f2 : Nat)) rfl
  have HB_2 := Lib.hid (below_step HB_1.out hb)
  have HT_2 := Lib.hid (HT_1.out.below hb)
  clear hb C_1 F_1 HB_1 HT_1 LC_1 LF0_1 LF1_1 LF2_1
  go_wp2_with fail
  refine (K3.out _).mono ?_
  rintro e w3 ⟨rfl, hb⟩
  have C_3 := Lib.hid (below_blk hb C_2.out)
  have LC_3 := load27 C_3.out
  have F_3 := Lib.hid (below_blk hb F_2.out)
  have LF0_3 := blk_cell F_3.out 0 (.int .u8 (f0 : Nat)) rfl
  have LF1_3 := blk_cell F_3.out 1 (.int .u8 (f1 : Nat)) rfl
  have LF2_3 := blk_cell F_3.out 2 (.int .u8 (f2 : Nat)) rfl
  have HB_3 := Lib.hid (below_step HB_2.out hb)
  have HT_3 := Lib.hid (HT_2.out.below hb)
  clear hb C_2 F_2 HB_2 HT_2 LC_2 LF0_2 LF1_2 LF2_2
  go_wp2_with fail
  refine (K4.out _).mono ?_
  rintro e w4 ⟨rfl, hb⟩
  have C_4 := Lib.hid (below_blk hb C_3.out)
  have LC_4 := load27 C_4.out
  have F_4 := Lib.hid (below_blk hb F_3.out)
  have LF0_4 := blk_cell F_4.out 0 (.int .u8 (f0 : Nat)) rfl
  have LF1_4 := blk_cell F_4.out 1 (.int .u8 (f1 : Nat)) rfl
  have LF2_4 := blk_cell F_4.out 2 (.int .u8 (f2 : Nat)) rfl
  have HB_4 := Lib.hid (below_step HB_3.out hb)
  have HT_4 := Lib.hid (HT_3.out.below hb)
  clear hb C_3 F_3 HB_3 HT_3 LC_3 LF0_3 LF1_3 LF2_3
  go_wp2_with fail
  refine (K5.out _).mono ?_
  rintro e w5 ⟨rfl, hb⟩
  have C_5 := Lib.hid (below_blk hb C_4.out)
  have LC_5 := load27 C_5.out
  have F_5 := Lib.hid (below_blk hb F_4.out)
  have LF0_5 := blk_cell F_5.out 0 (.int .u8 (f0 : Nat)) rfl
  have LF1_5 := blk_cell F_5.out 1 (.int .u8 (f1 : Nat)) rfl
  have LF2_5 := blk_cell F_5.out 2 (.int .u8 (f2 : Nat)) rfl
  have HB_5 := Lib.hid (below_step HB_4.out hb)
  have HT_5 := Lib.hid (HT_4.out.below hb)
  clear hb C_4 F_4 HB_4 HT_4 LC_4 LF0_4 LF1_4 LF2_4
  go_wp2_with ((go_at_call 19); (with_reducible refine (K6.out _ HT_5.out).mono ?_); (rintro e w6 ⟨rfl, hb⟩); (have C_6 := Lib.hid (below_blk hb C_5.out)); (have LC_6 := load27 C_6.out); (have F_6 := Lib.hid (below_blk hb F_5.out)); (have LF0_6 := blk_cell F_6.out 0 (.int .u8 (f0 : Nat)) rfl); (have LF1_6 := blk_cell F_6.out 1 (.int .u8 (f1 : Nat)) rfl); (have LF2_6 := blk_cell F_6.out 2 (.int .u8 (f2 : Nat)) rfl); (have HB_6 := Lib.hid (below_step HB_5.out hb)); (have HT_6 := Lib.hid (HT_5.out.below hb)); (clear hb C_5 F_5 HB_5 HT_5 LC_5 LF0_5 LF1_5 LF2_5))
  go_ret
  exact ⟨rfl, HB_6.out⟩
set_option maxHeartbeats 12800000
attribute [-go_sem] Go.loadCells in
theorem again_false_false (s : ByteArray) (f0 f1 f2 m p q r : Nat) (hm : min (s.size : Int) 60 = (m : Int)) (h0 : f0 < 256) (h1 : f1 < 256) (h2 : f2 < 256) (t u : ByteArray) (ht : s.extract 0 m = t) (hts : t.size = m)
    (hpl : p ≤ m) (hrl : r ≤ m - p) (hpi : (f0 : Int) % ((m : Int) + 1) = (p : Int)) (hri : (f1 : Int) % ((m : Int) - (p : Int) + 1) = (r : Int)) (hq : p + r = q) (hu : t.extract p q = u) (HP : agb t u true (f2 : Int) false = false) (HF : agb t u true (f2 : Int) true = false) (w : World) (hT : Tab w) :
    Calls Tryd.prog 5 #[.string s, .agg #[.int .u8 (f0 : Nat), .int .u8 (f1 : Nat), .int .u8 (f2 : Nat)]] w fun e w' => e = .returned (.bool true) ∧ Below w.heap.size w w' := by
  have hpi2 := Lib.hid hpi
  have hri2 := Lib.hid hri
  clear hpi hri
  have hms : m ≤ s.size := by omega
  have hm60 : m ≤ 60 := by omega
  have hm2 := Lib.hid hm
  clear hm
  have hqi : (p : Int) + (r : Int) = (q : Int) := by omega
  have hpq : p ≤ q := by omega
  have hqm : q ≤ m := by omega
  have e3 : (0 : Int) ≤ (p : Int) := by omega
  have e4 : (p : Int) ≤ (q : Int) := by omega
  have e5 : (q : Int) ≤ 10000 := by omega
  have e6 : (q : Int) ≤ (t.size : Int) := by omega
  have e7 : t.size ≤ 100000 := by omega
  have hqt : q ≤ t.size := by omega
  have hnz : ¬ ((m : Int) - (p : Int) + 1 = 0) := by omega
  have hus : u.size = q - p := by rw [← hu]; exact size_ext t hpq hqt
  have hui : (u.size : Int) = (q : Int) - (p : Int) := by omega
  have hh := here hpq hqt
  rw [hu] at hh
  have w1 : wok 3 p q = true := wok_yes (by decide) (by decide) e3 e4 e5
  have g1 : gi (wb zb 3 p q) 3 = true := by unfold gi; rw [wb_yes w1]; decide
  have g2 : gfr (wb zb 3 p q) (wy zy 3 p q) 3 = (p : Int) := by unfold gfr; rw [if_pos g1, wy_yes w1]; simp
  have g3 : gto (wb zb 3 p q) (wy zy 3 p q) 3 = (q : Int) := by unfold gto; rw [if_pos g1, wy_yes w1]; simp
  have g4 : pok t true (p : Int) (q : Int) = true := by unfold pok ris; rw [decide_eq_true e3, decide_eq_true e4, decide_eq_true e5, decide_eq_true e6]; rfl
  have g5 : prt t true (p : Int) (q : Int) = u := by unfold prt; rw [if_pos g4, Int.toNat_natCast, Int.toNat_natCast]; exact hu
  have k1 := with_yes w1 zb zy
  have k2 := again_calls (wb zb 3 p q) (wy zy 3 p q) t 3 p false e7
  rw [g1, g2, g3, g4, g5, agn_yes hh, hh] at k2
  have k3 := again_calls (wb zb 3 p q) (wy zy 3 p q) t 3 f2 false e7
  rw [g1, g2, g3, g4, g5, agn_no HP, HP] at k3
  have k4 := again_calls (wb zb 3 p q) (wy zy 3 p q) t 3 f2 true e7
  rw [g1, g2, g3, g4, g5, agn_no HF, HF] at k4
  have k5 := text_calls (wb zb 3 p q) (wy zy 3 p q) t 3
  rw [g1, g2, g3, g4, g5] at k5
  have k6 := fixed_calls
  have s1 := store_new (wb zb 3 p q) (wy zy 3 p q) 26
--|   have hne : ((u.size : Int) != (q : Int) - (p : Int)) = false := by rw [hui]; simp
  have hue : (u.toList == u.toList) = true := by simp
  clear g1 g2 g3 g4 g5 w1 HP HF hh hq hrl
  have hm := hm2.out
  have hpi := hpi2.out
  have hri := hri2.out
  clear hm2 hpi2 hri2 e3 e4 e5 e6 e7 hqt hus
  generalize wb zb 3 p q = B at *
  generalize wy zy 3 p q = Y at *
  have HT_0 := Lib.hid (hT.below (below1 w (.cells #[.int .u8 (f0 : Nat), .int .u8 (f1 : Nat), .int .u8 (f2 : Nat)] 49)))
  have HB_0 := Lib.hid (below1 w (.cells #[.int .u8 (f0 : Nat), .int .u8 (f1 : Nat), .int .u8 (f2 : Nat)] 49))
  have F_0 := Lib.hid (heap_alloc_new w (.cells #[.int .u8 (f0 : Nat), .int .u8 (f1 : Nat), .int .u8 (f2 : Nat)] 49))
  have LF0_0 := blk_cell F_0.out 0 (.int .u8 (f0 : Nat)) rfl
  have LF1_0 := blk_cell F_0.out 1 (.int .u8 (f1 : Nat)) rfl
  have LF2_0 := blk_cell F_0.out 2 (.int .u8 (f2 : Nat)) rfl
  have hz := zero_c
  have hs := cc_size
  clear hT
  have K1 := Lib.hid k1
  clear k1
  have K2 := Lib.hid k2
  clear k2
  have K3 := Lib.hid k3
  clear k3
  have K4 := Lib.hid k4
  clear k4
  have K5 := Lib.hid k5
  clear k5
  have K6 := Lib.hid k6
  clear k6
  go_enter Tryd.func5, Tryd.ntmps5
  go_wp2_with fail
  generalize hW : w.alloc (.cells #[.int .u8 (f0 : Nat), .int .u8 (f1 : Nat), .int .u8 (f2 : Nat)] 49) = v0 at *
  clear hW
  refine (K1.out _).mono ?_
  rintro e w1 ⟨rfl, hb⟩
  have C_1 := Lib.hid (heap_alloc_new w1 (.cells (cc B Y) 26))
  have LC_1 := load27 C_1.out
  have F_1 := Lib.hid (blk_alloc (below_blk hb F_0.out) (.cells (cc B Y) 26))
  have LF0_1 := blk_cell F_1.out 0 (.int .u8 (f0 : Nat)) rfl
  have LF1_1 := blk_cell F_1.out 1 (.int .u8 (f1 : Nat)) rfl
  have LF2_1 := blk_cell F_1.out 2 (.int .u8 (f2 : Nat)) rfl
  have HB_1 := Lib.hid ((below_step HB_0.out hb).alloc (Nat.le_trans (HB_0.out.size) hb.size) (.cells (cc B Y) 26))
  have HT_1 := Lib.hid (Tab.below (HT_0.out.below hb) (below1 _ (.cells (cc B Y) 26)))
  clear hb F_0 HB_0 HT_0 LF0_0 LF1_0 LF2_0
  go_wp2_with fail
  generalize hW : w1.alloc (.cells (cc B Y) 26) = v1 at *
  clear hW
  generalize w1.heap.size = PC at *
  refine (K2.out _).mono ?_
  rintro e w2 ⟨rfl, hb⟩
  have C_2 := Lib.hid (below_blk hb C_1.out)
  have LC_2 := load27 C_2.out
  have F_2 := Lib.hid (below_blk hb F_1.out)
  have LF0_2 := blk_cell F_2.out 0 (.int .u8 (f0 : Nat)) rfl
  have LF1_2 := blk_cell F_2.out 1 (.int .u8 (f1 : Nat)) rfl
  have LF2_2 := blk_cell F_2.out 2 (.int .u8 (f2 : Nat)) rfl
  have HB_2 := Lib.hid (below_step HB_1.out hb)
  have HT_2 := Lib.hid (HT_1.out.below hb)
  clear hb C_1 F_1 HB_1 HT_1 LC_1 LF0_1 LF1_1 LF2_1
  go_wp2_with fail
  refine (K3.out _).mono ?_
  rintro e w3 ⟨rfl, hb⟩
  have C_3 := Lib.hid (below_blk hb C_2.out)
  have LC_3 := load27 C_3.out
  have F_3 := Lib.hid (below_blk hb F_2.out)
  have LF0_3 := blk_cell F_3.out 0 (.int .u8 (f0 : Nat)) rfl
  have LF1_3 := blk_cell F_3.out 1 (.int .u8 (f1 : Nat)) rfl
  have LF2_3 := blk_cell F_3.out 2 (.int .u8 (f2 : Nat)) rfl
  have HB_3 := Lib.hid (below_step HB_2.out hb)
  have HT_3 := Lib.hid (HT_2.out.below hb)
  clear hb C_2 F_2 HB_2 HT_2 LC_2 LF0_2 LF1_2 LF2_2
  go_wp2_with fail
  refine (K4.out _).mono ?_
  rintro e w4 ⟨rfl, hb⟩
  have C_4 := Lib.hid (below_blk hb C_3.out)
  have LC_4 := load27 C_4.out
  have F_4 := Lib.hid (below_blk hb F_3.out)
  have LF0_4 := blk_cell F_4.out 0 (.int .u8 (f0 : Nat)) rfl
  have LF1_4 := blk_cell F_4.out 1 (.int .u8 (f1 : Nat)) rfl
  have LF2_4 := blk_cell F_4.out 2 (.int .u8 (f2 : Nat)) rfl
  have HB_4 := Lib.hid (below_step HB_3.out hb)
  have HT_4 := Lib.hid (HT_3.out.below hb)
  clear hb C_3 F_3 HB_3 HT_3 LC_3 LF0_3 LF1_3 LF2_3
  go_wp2_with fail
  refine (K5.out _).mono ?_
  rintro e w5 ⟨rfl, hb⟩
  have C_5 := Lib.hid (below_blk hb C_4.out)
  have LC_5 := load27 C_5.out
  have F_5 := Lib.hid (below_blk hb F_4.out)
  have LF0_5 := blk_cell F_5.out 0 (.int .u8 (f0 : Nat)) rfl
  have LF1_5 := blk_cell F_5.out 1 (.int .u8 (f1 : Nat)) rfl
  have LF2_5 := blk_cell F_5.out 2 (.int .u8 (f2 : Nat)) rfl
  have HB_5 := Lib.hid (below_step HB_4.out hb)
  have HT_5 := Lib.hid (HT_4.out.below hb)
  clear hb C_4 F_4 HB_4 HT_4 LC_4 LF0_4 LF1_4 LF2_4
  go_wp2_with ((go_at_call 19); (with_reducible refine (K6.out _ HT_5.out).mono ?_); (rintro e w6 ⟨rfl, hb⟩); (have C_6 := Lib.hid (below_blk hb C_5.out)); (have LC_6 := load27 C_6.out); (have F_6 := Lib.hid (below_blk hb F_5.out)); (have LF0_6 := blk_cell F_6.out 0 (.int .u8 (f0 : Nat)) rfl); (have LF1_6 := blk_cell F_6.out 1 (.int .u8 (f1 : Nat)) rfl); (have LF2_6 := blk_cell F_6.out 2 (.int .u8 (f2 : Nat)) rfl); (have HB_6 := Lib.hid (below_step HB_5.out hb)); (have HT_6 := Lib.hid (HT_5.out.below hb)); (clear hb C_5 F_5 HB_5 HT_5 LC_5 LF0_5 LF1_5 LF2_5))
  go_ret
  exact ⟨rfl, HB_6.out⟩
theorem capsAgain_row (s : ByteArray) (f : Nat → Int) (w : World) (hT : Tab w) (hs : s.size ≤ 140737488351232) (hf : ∀ i, i < 3 → 0 ≤ f i ∧ f i < 256) :
    Calls Tryd.prog 5 #[.string s, .agg #[.int .u8 (f 0), .int .u8 (f 1), .int .u8 (f 2)]] w fun e w' => e = .returned (.bool true) ∧ Below w.heap.size w w' := by
  have q0 := hf 0 (by decide)
  have q1 := hf 1 (by decide)
  have q2 := hf 2 (by decide)
  obtain ⟨f0, e0⟩ := Int.eq_ofNat_of_zero_le q0.1
  obtain ⟨f1, e1⟩ := Int.eq_ofNat_of_zero_le q1.1
  obtain ⟨f2, e2⟩ := Int.eq_ofNat_of_zero_le q2.1
  rw [e0, e1, e2]
  obtain ⟨m, hm⟩ : ∃ m : Nat, min (s.size : Int) 60 = (m : Int) := ⟨(min (s.size : Int) 60).toNat, by omega⟩
  have hms : m ≤ s.size := by omega
  have hts : (s.extract 0 m).size = m := by rw [size_ext s (Nat.zero_le _) hms]; omega
  have hpl : f0 % (m + 1) ≤ m := by have := Nat.mod_lt f0 (show 0 < m + 1 by omega); omega
  have hrl : f1 % (m - f0 % (m + 1) + 1) ≤ m - f0 % (m + 1) := by have := Nat.mod_lt f1 (show 0 < m - f0 % (m + 1) + 1 by omega); omega
  have hpi : (f0 : Int) % ((m : Int) + 1) = ((f0 % (m + 1) : Nat) : Int) := rfl
  generalize f0 % (m + 1) = p at *
  have hri : (f1 : Int) % ((m : Int) - (p : Int) + 1) = ((f1 % (m - p + 1) : Nat) : Int) := by
    rw [show (m : Int) - (p : Int) + 1 = ((m - p + 1 : Nat) : Int) by omega]; rfl
  generalize f1 % (m - p + 1) = r at *
  cases HP : agb (s.extract 0 m) ((s.extract 0 m).extract p (p + r)) true (f2 : Int) false
  · cases HF : agb (s.extract 0 m) ((s.extract 0 m).extract p (p + r)) true (f2 : Int) true
    · exact again_false_false s f0 f1 f2 m p _ r hm (by omega) (by omega) (by omega) _ _ rfl hts hpl hrl hpi hri rfl rfl HP HF w hT
    · exact again_false_true s f0 f1 f2 m p _ r hm (by omega) (by omega) (by omega) _ _ rfl hts hpl hrl hpi hri rfl rfl HP HF w hT
  · exact again_true_true s f0 f1 f2 m p _ r hm (by omega) (by omega) (by omega) _ _ rfl hts hpl hrl hpi hri rfl rfl HP (there HP).1 w hT
end Go.Proofs.YtpeccbdobdnpiaaDoor.LCapsAgain
