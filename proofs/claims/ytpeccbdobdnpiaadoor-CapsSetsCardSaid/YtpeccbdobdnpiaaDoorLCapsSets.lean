/- CapsSets. -/
import Derived.Test.YtpeccbdobdnpiaaDoorAFixW
import Derived.Test.YtpeccbdobdnpiaaDoorAArg
import Derived.Test.YtpeccbdobdnpiaaDoorLCapsOrder
namespace Go.Proofs.YtpeccbdobdnpiaaDoor.LCapsSets
open Go.RowKit CMem ACap AGet AWith AText ASame AAgain AShow AFix AFixW AArg LCapsOrder Go.Proofs.YtpeccbdobdnpiaaDoorW.PrintWords Go.Proofs.YtpeccbdobdnpiaaDoorW.PrintLast Go.Proofs.YtpeccbdobdnpiaaDoorW.PrintMore
set_option linter.unusedVariables false
set_option linter.unusedSimpArgs false
set_option maxRecDepth 100000
/-- groups but the one that is set stay as they were -/
theorem get_set {b : Nat → Bool} {y : Nat → Int} {g p q : Int} (h : wok g p q = true) : gi (wb b g p q) g = true ∧ gfr (wb b g p q) (wy y g p q) g = p ∧ gto (wb b g p q) (wy y g p q) g = q := by
  obtain ⟨k, hk, rfl, _⟩ := wok_ge h
  have hn : ((k : Int) + 1 - 1).toNat = k := by omega
  have hg : gi (wb b ((k : Int) + 1) p q) ((k : Int) + 1) = true := by rw [gi_of hk, wb_yes h, hn, if_pos rfl]
  refine ⟨hg, ?_, ?_⟩
  · unfold gfr; rw [if_pos hg, wy_yes h, hn, if_neg (by omega), if_pos rfl]
  · unfold gto; rw [if_pos hg, wy_yes h, hn, if_pos rfl]
theorem get_other {b : Nat → Bool} {y : Nat → Int} {g p q u : Int} (h : wok g p q = true) (hu : u ≠ g) (h1 : 1 ≤ u) (h9 : u ≤ 9) :
    gi (wb b g p q) u = gi b u ∧ gfr (wb b g p q) (wy y g p q) u = gfr b y u ∧ gto (wb b g p q) (wy y g p q) u = gto b y u := by
  obtain ⟨k, hk, rfl, _⟩ := wok_ge h
  obtain ⟨m, rfl⟩ : ∃ m : Nat, u = (m : Int) + 1 := ⟨(u - 1).toNat, by omega⟩
  have hm : m < 9 := by omega
  have hmk : m ≠ k := fun e => hu (by rw [e])
  have hn : ((k : Int) + 1 - 1).toNat = k := by omega
  have hn2 : ((m : Int) + 1 - 1).toNat = m := by omega
  have hg : gi (wb b ((k : Int) + 1) p q) ((m : Int) + 1) = gi b ((m : Int) + 1) := by rw [gi_of hm, gi_of hm, wb_yes h, hn, if_neg hmk]
  refine ⟨hg, ?_, ?_⟩
  · unfold gfr
    rw [hg]
    split
    · rw [hn2, wy_yes h, hn, if_neg (by omega), if_neg (by omega)]
    · rfl
  · unfold gto
    rw [hg]
    split
    · rw [hn2, wy_yes h, hn, if_neg (by omega), if_neg (by omega)]
    · rfl
theorem add0 (a : Addr) : a.add 0 = a := by unfold Addr.add; simp
theorem addj (a : Addr) (j : Nat) (hj : 0 < j) : a.add j = ⟨a.block, a.off + j, none⟩ := by unfold Addr.add; rw [if_neg (by omega)]
theorem two_blk {w : World} {p q : Nat} {a b : Obj} (ha : w.heap[p]? = some a) (hb : w.heap[q]? = some b) (h : a ≠ b) : p ≠ q := fun e => by rw [e, hb] at ha; exact h (Option.some.inj ha).symm
theorem set_row_at {w : World} {p : Nat} {b : Nat → Bool} {y : Nat → Int} {t : TypeId} (B : Nat → Bool) (Y : Nat → Int) (h : w.heap[p]? = some (.cells (cc b y) t (0, 0))) : (w.setRow p (cc B Y)).heap[p]? = some (.cells (cc B Y) t (0, 0)) := setRow_heap _ _ _ _ _ _ h
set_option maxHeartbeats 12800000
attribute [-go_sem] Go.loadCells in
theorem sets_walk (ad : Addr) (n c : Nat) (L : Nat → Nat → Int) (hn : n ≤ 9223372036854775807) (w : World) (hT : Tab w)
    (hL : ∀ i, i < n → ∀ j, j < 3 → w.cell? ((ad.add (i * 3)).add j) = some (.int .u8 (L i j)) ∧ 0 ≤ L i j ∧ L i j < 256) :
    Calls Tryd.prog 4 #[.slice (some ad) n c] w fun e w' => e = .returned (.bool true) ∧ Below w.heap.size w w' := by
  have hz := zero_c
  have hs := cc_size
  have st := store_new zb zy 26 w
  have C0 := Lib.hid (heap_alloc_new w (.cells zc 26))
  have HB := Lib.hid (below1 w (.cells zc 26))
  have HTW := Lib.hid hT
  have HL := Lib.hid hL
  clear hT hL
  go_enter Tryd.func4, Tryd.ntmps4
  go_wp2
  generalize hW : w.alloc (.cells zc 26) = v0 at *
  clear hW st
  go_loopw [4, 5] (fun e v wr => ∃ i : Nat, ∃ b y, i ≤ n ∧ i ≤ 20 ∧ e = .int .i64 0 ∧ v = .int .i64 (i : Nat) ∧ Hid (wr.heap[w.heap.size]? = some (.cells (cc b y) 26 (0, 0))) ∧ Hid (Below w.heap.size w wr)) (fun _ v _ => 20 - (intOf v).toNat)
  case atStart => exact ⟨0, zb, zy, Nat.zero_le _, by omega, rfl, rfl, C0, HB⟩
  case round =>
    clear C0 HB
    obtain ⟨i, b, y, hi, hi20, rfl, rfl, C_0, HB_0⟩ := hrel
    by_cases h : i < n
    · by_cases h2 : i < 20
      · obtain ⟨c0, r0, R0⟩ := HL.out i h 0 (by decide)
        obtain ⟨c1, r1, R1⟩ := HL.out i h 1 (by decide)
        obtain ⟨c2, r2, R2⟩ := HL.out i h 2 (by decide)
        have a0 := below_of HB_0.out c0
        have a1 := below_of HB_0.out c1
        have a2 := below_of HB_0.out c2
        rw [add0] at a0
        rw [addj _ 1 (by decide)] at a1
        rw [addj _ 2 (by decide)] at a2
        clear c0 c1 c2
        obtain ⟨f0, e0⟩ := Int.eq_ofNat_of_zero_le r0
        obtain ⟨f1, e1⟩ := Int.eq_ofNat_of_zero_le r1
        obtain ⟨f2, e2⟩ := Int.eq_ofNat_of_zero_le r2
        rw [e0] at a0 R0
        rw [e1] at a1 R1
        rw [e2] at a2 R2
        clear e0 e1 e2 r0 r1 r2
        have hi2 : (i : Int) < (n : Int) := by omega
        have d20 : decide ((i : Int) < 20) = true := by simp; omega
        obtain ⟨g, hg⟩ : ∃ g, 1 + (f0 : Int) % 9 = g := ⟨_, rfl⟩
        obtain ⟨q, hq⟩ : ∃ q, (f1 : Int) + (f2 : Int) = q := ⟨_, rfl⟩
        have g1 : 1 ≤ g := by omega
        have g9 : g ≤ 9 := by omega
        have w1 : wok g f1 q = true := wok_yes g1 g9 (by omega) (by omega) (by omega)
        have k1 := with_yes w1 b y
        obtain ⟨s1, s2, s3⟩ := get_set (b := b) (y := y) w1
        have k2 := get_calls (wb b g f1 q) (wy y g f1 q) g
        rw [s1, s2, s3] at k2
        have HO := Lib.hid (fun (u : Int) => @get_other b y g f1 q u w1)
        have sD := store_new (wb b g f1 q) (wy y g f1 q) 26
        clear s1 s2 s3 w1
        generalize wb b g f1 q = B at *
        generalize wy y g f1 q = Y at *
        have K1 := Lib.hid k1
        have K2 := Lib.hid k2
        clear k1 k2
        go_wp2
        go_quiet (fail)
        have a2 := below_of (below_drewN (Below.refl _ _) nq) a2
        have C_0 := Lib.hid (below_blk (below_drewN (Below.refl _ _) nq) C_0.out)
        have LC_0 := load27 C_0.out
        have HB_0 := Lib.hid (below_drewN HB_0.out nq)
        generalize hW : wr.drewN nq = v1 at *
        clear hW
        go_wp2_with fail
        refine (K1.out _).mono ?_
        rintro e w2 ⟨rfl, hb⟩
        have D_1 := Lib.hid (heap_alloc_new w2 (.cells (cc B Y) 26))
        have LD_1 := load27 D_1.out
        have C_1 := Lib.hid (blk_alloc (below_blk hb C_0.out) (.cells (cc B Y) 26))
        have HB_1 := Lib.hid ((below_step HB_0.out hb).alloc (Nat.le_trans (HB_0.out.size) hb.size) (.cells (cc B Y) 26))
        have hne := Nat.lt_of_lt_of_le (lt_of_blk C_0.out) hb.size
        clear hb C_0 LC_0 HB_0 a0 a1 a2
        go_wp2_with fail
        generalize hW : w2.alloc (.cells (cc B Y) 26) = v2 at *
        clear hW
        generalize w2.heap.size = PD at *
        have hne2 : w.heap.size ≠ PD := Nat.ne_of_lt hne
        clear hne
        refine (K2.out _).mono ?_
        rintro e w3 ⟨rfl, hb⟩
        have C_2 := Lib.hid (below_blk hb C_1.out)
        have D_2 := Lib.hid (below_blk hb D_1.out)
        have HB_2 := Lib.hid (below_step HB_1.out hb)
        clear hb C_1 D_1 HB_1 LD_1
        go_wp2
        go_loopw [14] (fun t wr2 => ∃ k : Nat, 1 ≤ k ∧ k ≤ 10 ∧ t = .int .i64 (k : Nat) ∧ Hid (wr2.heap[w.heap.size]? = some (.cells (cc b y) 26 (0, 0))) ∧ Hid (wr2.heap[PD]? = some (.cells (cc B Y) 26 (0, 0))) ∧ Hid (Below w.heap.size w wr2)) (fun t _ => 10 - (intOf t).toNat)
        case atStart => exact ⟨1, by omega, by omega, rfl, C_2, D_2, HB_2⟩
        case round =>
          clear C_2 D_2 HB_2
          obtain ⟨k, hk1, hk10, rfl, C_4, D_4, HB_4⟩ := hrel
          by_cases hk : k ≤ 9
          · have LC_4 := load27 C_4.out
            have kc := get_calls b y (k : Int)
            have kd := get_calls B Y (k : Int)
            have hk2 : (k : Int) ≤ 9 := by omega
            by_cases hkg : (k : Int) = g
            · have hkn : ((k : Int) != g) = false := by simp [hkg]
              have KC := Lib.hid kc
              have KD := Lib.hid kd
              clear kc kd hkg
              go_wp2_with (first | (go_at_call 11; (with_reducible refine (KC.out _).mono ?_); (rintro e w5 ⟨rfl, hb⟩); (have C_5 := Lib.hid (below_blk hb C_4.out)); (have D_5 := Lib.hid (below_blk hb D_4.out)); (have HB_5 := Lib.hid (below_step HB_4.out hb)); (have LC_5 := load27 C_5.out); (have LD_5 := load27 D_5.out); clear hb KC) | (go_at_call 11; (with_reducible refine (KD.out _).mono ?_); (rintro e w6 ⟨rfl, hb⟩); (have C_6 := Lib.hid (below_blk hb C_5.out)); (have D_6 := Lib.hid (below_blk hb D_5.out)); (have HB_6 := Lib.hid (below_step HB_5.out hb)); clear hb))
              go_roundw
              case rel => exact ⟨k + 1, by omega, by omega, by simp, C_6, D_6, HB_6⟩
              case measure => simp [intOf]; omega
            · have hkn : ((k : Int) != g) = true := by simp [hkg]
              obtain ⟨o1, o2, o3⟩ := HO.out (k : Int) hkg (by omega) hk2
              rw [o1, o2, o3] at kd
              generalize gi b (k : Int) = x1 at *
              generalize gfr b y (k : Int) = x2 at *
              generalize gto b y (k : Int) = x3 at *
              have KC := Lib.hid kc
              have KD := Lib.hid kd
              clear kc kd hkg o1 o2 o3
              go_wp2_with (first | (go_at_call 11; (with_reducible refine (KC.out _).mono ?_); (rintro e w5 ⟨rfl, hb⟩); (have C_5 := Lib.hid (below_blk hb C_4.out)); (have D_5 := Lib.hid (below_blk hb D_4.out)); (have HB_5 := Lib.hid (below_step HB_4.out hb)); (have LC_5 := load27 C_5.out); (have LD_5 := load27 D_5.out); clear hb KC) | (go_at_call 11; (with_reducible refine (KD.out _).mono ?_); (rintro e w6 ⟨rfl, hb⟩); (have C_6 := Lib.hid (below_blk hb C_5.out)); (have D_6 := Lib.hid (below_blk hb D_5.out)); (have HB_6 := Lib.hid (below_step HB_5.out hb)); clear hb))
              go_roundw
              case rel => exact ⟨k + 1, by omega, by omega, by simp, C_6, D_6, HB_6⟩
              case measure => simp [intOf]; omega
          · have hk2 : ¬ ((k : Int) ≤ 9) := by omega
            have LD_4 := load27 D_4.out
            have st := store_row B Y C_4.out
            have C_8 := Lib.hid (set_row_at B Y C_4.out)
            have HB_8 := Lib.hid (below_row HB_4.out (Nat.le_refl _) (cc B Y))
            go_wp2
            go_roundw
            case rel => exact ⟨i + 1, B, Y, by omega, by omega, rfl, by simp, C_8, HB_8⟩
            case measure => simp [intOf]; omega
      · obtain rfl : i = 20 := by omega
        have hi2 : (20 : Int) < (n : Int) ∨ ¬ (20 : Int) < (n : Int) := Classical.em _
        rcases hi2 with hi2 | hi2
        · go_wp2_with (go_at_call 19; (with_reducible refine (fixed_calls _ (HTW.out.below HB_0.out)).mono ?_); (rintro e w7 ⟨rfl, hb⟩); (have HB_7 := Lib.hid (below_step HB_0.out hb)); clear hb)
          go_ret
          exact ⟨rfl, HB_7.out⟩
        · go_wp2_with (go_at_call 19; (with_reducible refine (fixed_calls _ (HTW.out.below HB_0.out)).mono ?_); (rintro e w7 ⟨rfl, hb⟩); (have HB_7 := Lib.hid (below_step HB_0.out hb)); clear hb)
          go_ret
          exact ⟨rfl, HB_7.out⟩
    · have hi2 : ¬ ((i : Int) < (n : Int)) := by omega
      go_wp2_with (go_at_call 19; (with_reducible refine (fixed_calls _ (HTW.out.below HB_0.out)).mono ?_); (rintro e w7 ⟨rfl, hb⟩); (have HB_7 := Lib.hid (below_step HB_0.out hb)); clear hb)
      go_ret
      exact ⟨rfl, HB_7.out⟩
set_option maxHeartbeats 12800000
attribute [-go_sem] Go.loadCells in
theorem sets_none (A : Option Addr) (c : Nat) (w : World) (hT : Tab w) :
    Calls Tryd.prog 4 #[.slice A 0 c] w fun e w' => e = .returned (.bool true) ∧ Below w.heap.size w w' := by
  have hz := zero_c
  have hs := cc_size
  have st := store_new zb zy 26 w
  have HB := Lib.hid (below1 w (.cells zc 26))
  have HTW := Lib.hid hT
  clear hT
  go_enter Tryd.func4, Tryd.ntmps4
  go_wp2
  generalize hW : w.alloc (.cells zc 26) = v0 at *
  clear hW st
  go_loopw [4, 5] (fun e v wr => e = .int .i64 0 ∧ v = .int .i64 0 ∧ Hid (Below w.heap.size w wr)) (fun _ v _ => 20 - (intOf v).toNat)
  case atStart => exact ⟨rfl, rfl, HB⟩
  case round =>
    clear HB
    obtain ⟨rfl, rfl, HB_0⟩ := hrel
    go_wp2_with (go_at_call 19; (with_reducible refine (fixed_calls _ (HTW.out.below HB_0.out)).mono ?_); (rintro e w7 ⟨rfl, hb⟩); (have HB_7 := Lib.hid (below_step HB_0.out hb)); clear hb)
    go_ret
    exact ⟨rfl, HB_7.out⟩
theorem capsSets_row (z : Option Addr × Nat × Nat × (Nat → Nat → Int)) (w : World) (hT : Tab w) (hz : Sets w z) :
    Calls Tryd.prog 4 #[.slice z.1 z.2.1 z.2.2.1] w fun e w' => e = .returned (.bool true) ∧ Below w.heap.size w w' := by
  obtain ⟨A, n, c, L⟩ := z
  obtain ⟨h1, h2, h3⟩ := hz
  rcases Nat.eq_zero_or_pos n with e | e
  · subst e
    exact sets_none A c w hT
  · obtain ⟨ad, ha, hL⟩ := h3 e
    simp only at ha hL h1 h2 ⊢
    subst ha
    exact sets_walk ad n c L (by unfold maxLen at h2; exact Nat.le_trans h1 h2) w hT hL
end Go.Proofs.YtpeccbdobdnpiaaDoor.LCapsSets
