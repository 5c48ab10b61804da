/- LimitGrows: its walk. -/
import Derived.Test.YtijnncnglkjpgaaKOrd
namespace Go.Proofs.Ytijnncnglkjpgaa.LLimitGrows
open Go.RowKit KFlt KKind KRight KLeast KScale KMeter KStep KHold KFixed KArg KOrd Go.Proofs.YtijnncnglkjpgaaW.PrintWords Go.Proofs.YtijnncnglkjpgaaW.PrintLast Go.Proofs.YtijnncnglkjpgaaW.PrintMore
set_option linter.unusedVariables false
attribute [local go_sem] KKind.run_store_float
set_option linter.unusedSimpArgs false

theorem only_cell {w w' : World} {m : Nat} (h : Only m w w') {a : Addr} (hn : a.block ≠ m) {v : Value} (hc : w.cell? a = some v) : w'.cell? a = some v := (World.cell?_of_block (h.block a.block (World.block_lt_of_cell? w _ hc) hn)).trans hc
theorem less_lt {a b : Nat} (ha : a < 18446744073709551616) (hb : b < 18446744073709551616) : lessF a b < 18446744073709551616 := by unfold lessF; split <;> assumption
theorem less_right {a0 a1 b0 b1 : Nat} (h : rightB a0 a1 = true) (g : rightB b0 b1 = true) : rightB (lessF a0 b0) (lessF a1 b1) = true := by
  unfold rightB at h g ⊢
  simp at h g ⊢
  unfold lessF
  constructor
  · split
    · exact g.1
    · exact h.1
  · split
    · exact g.2
    · exact h.2
/-- at most both: at most each -/
theorem le_less {f a b : Nat} (hf : nan f = false) (ha : nan a = false) (hb : nan b = false) : leB f (lessF a b) = (leB f a && leB f b) := by
  unfold lessF
  rw [ls_key hb ha, le_key hf ha, le_key hf hb]
  by_cases h : key b < key a
  · simp only [h, decide_true, if_true]
    rw [le_key hf hb]
    by_cases g : key f ≤ key b
    · simp [g]; omega
    · simp [g]
  · simp only [h, decide_false, Bool.false_eq_true, if_false]
    rw [le_key hf ha]
    by_cases g : key f ≤ key a
    · simp [g]; omega
    · simp [g]
def geB (x y : Nat) : Bool := (FloatKind.f64.format.order x y == some Ordering.gt || FloatKind.f64.format.order x y == some Ordering.eq)
theorem ge_key {x y : Nat} (hx : nan x = false) (hy : nan y = false) : geB x y = decide (key y ≤ key x) := by
  unfold geB
  rw [f_gt hx hy, f_eq hx hy]
  by_cases h : key y < key x
  · simp [h]; omega
  · simp [h]; omega
theorem le_mono {st st' : Int} {a : Nat} (ha : nan a = false) (h0 : 0 ≤ st) (h : st ≤ st') (h1 : st' ≤ 4611686018427387904) (hl : leB (floatOfInt .f64 st) a = false) : leB (floatOfInt .f64 st') a = false := by
  rw [le_int h0 (by omega) ha] at hl
  rw [le_int (by omega) h1 ha]
  have := rn_mono (show st.toNat ≤ st'.toNat by omega)
  simp at hl ⊢
  omega
set_option maxRecDepth 100000 in
set_option maxHeartbeats 6400000 in
theorem w111 (a0 a1 b0 b1 : Nat) (A : Option Addr) (len cap : Nat) (Z : List Int) (w : World) (ha0 : a0 < 18446744073709551616) (ha1 : a1 < 18446744073709551616) (hb0 : b0 < 18446744073709551616) (hb1 : b1 < 18446744073709551616) (hRa : rightB a0 a1 = true) (hRb : rightB b0 b1 = true) (hRo : rightB (lessF a0 b0) (lessF a1 b1) = true) (hA : IntArg w .u16 A len Z) :
    Calls Try.prog 5 #[.agg #[.float .f64 a0, .float .f64 a1], .agg #[.float .f64 b0, .float .f64 b1], .slice A len cap] w fun e w' => e = .returned (.bool true) ∧ Below w.heap.size w w' := by
  have hlen := hA.1
  have hmax := hA.2.1
  unfold maxLen at hmax
  have HA := Lib.hid hA.2.2.1
  have HW := Lib.hid hA.2.2.2
  clear hA
  have hN := (right_parts hRa).1
  have hM := (right_parts hRb).1
  have LE := Lib.hid (fun f (hf : nan f = false) => le_less hf hN hM)
  have GE := Lib.hid (ge_key hN hM)
  have hge : geB a0 b0 = geB a0 b0 := rfl
  conv at hge => lhs; unfold geB
  have BA := Lib.hid (blk_alloc (heap_alloc_new w (.cells #[.float .f64 a0, .float .f64 a1] 24)) (.cells #[.float .f64 b0, .float .f64 b1] 24))
  have BB := Lib.hid (blk2 w (.cells #[.float .f64 a0, .float .f64 a1] 24) #[.float .f64 b0, .float .f64 b1] 24)
  have HB := Lib.hid (below2 w (.cells #[.float .f64 a0, .float .f64 a1] 24) (.cells #[.float .f64 b0, .float .f64 b1] 24))
  have c3 := Lib.hid (least_calls a0 a1 b0 b1)
  have hl0 := less_lt ha0 hb0
  have hl1 := less_lt ha1 hb1
  generalize lessF a0 b0 = l0 at *
  generalize lessF a1 b1 = l1 at *
  go_enter Try.func5, Try.ntmps5
  go_wp2_with fail
  generalize ((w.alloc (.cells #[.float .f64 a0, .float .f64 a1] 24)).alloc (.cells #[.float .f64 b0, .float .f64 b1] 24)) = w0 at *
  refine (new_yes _ _ ha0 ha1 hRa _).mono ?_
  rintro e w1 ⟨ma, rfl, hm, hl, hb⟩
  have XAa := Lib.hid (show w.heap.size ≠ ma from Nat.ne_of_lt (Nat.lt_of_lt_of_le (World.block_lt_of_cell? _ _ (blk_cell BA.out 0 _ rfl)) hl))
  have XBa := Lib.hid (show w.heap.size + 1 ≠ ma from Nat.ne_of_lt (Nat.lt_of_lt_of_le (World.block_lt_of_cell? _ _ (blk_cell BB.out 0 _ rfl)) hl))
  have LMa := Lib.hid (show w.heap.size ≤ ma from Nat.le_trans HB.out.size hl)
  have BA := Lib.hid ((hb.block _ (World.block_lt_of_cell? _ _ (blk_cell BA.out 0 _ rfl))).trans BA.out)
  have BB := Lib.hid ((hb.block _ (World.block_lt_of_cell? _ _ (blk_cell BB.out 0 _ rfl))).trans BB.out)
  have HMa := Lib.hid hm
  clear hm hl
  have HB := Lib.hid (below_step HB.out hb)
  clear hb
  have x0 := blk_cell BA.out 0 (.float .f64 a0) rfl
  have x1 := blk_cell BA.out 1 (.float .f64 a1) rfl
  have y0 := blk_cell BB.out 0 (.float .f64 b0) rfl
  have y1 := blk_cell BB.out 1 (.float .f64 b1) rfl
  go_wp2_with fail
  refine (new_yes _ _ hb0 hb1 hRb _).mono ?_
  rintro e w2 ⟨mb, rfl, hm, hl, hb⟩
  have Nab := Lib.hid (show ma ≠ mb from Nat.ne_of_lt (Nat.lt_of_lt_of_le HMa.out.lt hl))
  have XAb := Lib.hid (show w.heap.size ≠ mb from Nat.ne_of_lt (Nat.lt_of_lt_of_le (World.block_lt_of_cell? _ _ (blk_cell BA.out 0 _ rfl)) hl))
  have XBb := Lib.hid (show w.heap.size + 1 ≠ mb from Nat.ne_of_lt (Nat.lt_of_lt_of_le (World.block_lt_of_cell? _ _ (blk_cell BB.out 0 _ rfl)) hl))
  have LMb := Lib.hid (show w.heap.size ≤ mb from Nat.le_trans HB.out.size hl)
  have BA := Lib.hid ((hb.block _ (World.block_lt_of_cell? _ _ (blk_cell BA.out 0 _ rfl))).trans BA.out)
  have BB := Lib.hid ((hb.block _ (World.block_lt_of_cell? _ _ (blk_cell BB.out 0 _ rfl))).trans BB.out)
  have HMa := Lib.hid (HMa.out.below hb)
  have HMb := Lib.hid hm
  clear hm hl
  have HB := Lib.hid (below_step HB.out hb)
  clear hb
  have x0 := blk_cell BA.out 0 (.float .f64 a0) rfl
  have x1 := blk_cell BA.out 1 (.float .f64 a1) rfl
  have y0 := blk_cell BB.out 0 (.float .f64 b0) rfl
  have y1 := blk_cell BB.out 1 (.float .f64 b1) rfl
  go_wp2_with fail
  refine (c3.out _).mono ?_
  rintro e w3 ⟨rfl, hb⟩
  have BA := Lib.hid ((hb.block _ (World.block_lt_of_cell? _ _ (blk_cell BA.out 0 _ rfl))).trans BA.out)
  have BB := Lib.hid ((hb.block _ (World.block_lt_of_cell? _ _ (blk_cell BB.out 0 _ rfl))).trans BB.out)
  have HMa := Lib.hid (HMa.out.below hb)
  have HMb := Lib.hid (HMb.out.below hb)
  have HB := Lib.hid (below_step HB.out hb)
  clear hb x0 x1 y0 y1
  have x0 := blk_cell BA.out 0 (.float .f64 a0) rfl
  have x1 := blk_cell BA.out 1 (.float .f64 a1) rfl
  have y0 := blk_cell BB.out 0 (.float .f64 b0) rfl
  have y1 := blk_cell BB.out 1 (.float .f64 b1) rfl
  go_wp2_with fail
  refine (new_yes _ _ hl0 hl1 hRo _).mono ?_
  rintro e w4 ⟨mo, rfl, hm, hl, hb⟩
  have Nao := Lib.hid (show ma ≠ mo from Nat.ne_of_lt (Nat.lt_of_lt_of_le HMa.out.lt hl))
  have Nbo := Lib.hid (show mb ≠ mo from Nat.ne_of_lt (Nat.lt_of_lt_of_le HMb.out.lt hl))
  have XAo := Lib.hid (show w.heap.size ≠ mo from Nat.ne_of_lt (Nat.lt_of_lt_of_le (World.block_lt_of_cell? _ _ (blk_cell BA.out 0 _ rfl)) hl))
  have XBo := Lib.hid (show w.heap.size + 1 ≠ mo from Nat.ne_of_lt (Nat.lt_of_lt_of_le (World.block_lt_of_cell? _ _ (blk_cell BB.out 0 _ rfl)) hl))
  have LMo := Lib.hid (show w.heap.size ≤ mo from Nat.le_trans HB.out.size hl)
  have BA := Lib.hid ((hb.block _ (World.block_lt_of_cell? _ _ (blk_cell BA.out 0 _ rfl))).trans BA.out)
  have BB := Lib.hid ((hb.block _ (World.block_lt_of_cell? _ _ (blk_cell BB.out 0 _ rfl))).trans BB.out)
  have HMa := Lib.hid (HMa.out.below hb)
  have HMb := Lib.hid (HMb.out.below hb)
  have HMo := Lib.hid hm
  clear hm hl
  have HB := Lib.hid (below_step HB.out hb)
  clear hb x0 x1 y0 y1
  have x0 := blk_cell BA.out 0 (.float .f64 a0) rfl
  have x1 := blk_cell BA.out 1 (.float .f64 a1) rfl
  have y0 := blk_cell BB.out 0 (.float .f64 b0) rfl
  have y1 := blk_cell BB.out 1 (.float .f64 b1) rfl
  go_wp2_with fail
  refine (right_is _ _ true ha0 ha1 hRa _).mono ?_
  rintro e w5 ⟨rfl, hb⟩
  have BA := Lib.hid ((hb.block _ (World.block_lt_of_cell? _ _ (blk_cell BA.out 0 _ rfl))).trans BA.out)
  have BB := Lib.hid ((hb.block _ (World.block_lt_of_cell? _ _ (blk_cell BB.out 0 _ rfl))).trans BB.out)
  have HMa := Lib.hid (HMa.out.below hb)
  have HMb := Lib.hid (HMb.out.below hb)
  have HMo := Lib.hid (HMo.out.below hb)
  have HB := Lib.hid (below_step HB.out hb)
  clear hb x0 x1 y0 y1
  have x0 := blk_cell BA.out 0 (.float .f64 a0) rfl
  have x1 := blk_cell BA.out 1 (.float .f64 a1) rfl
  have y0 := blk_cell BB.out 0 (.float .f64 b0) rfl
  have y1 := blk_cell BB.out 1 (.float .f64 b1) rfl
  go_wp2_with fail
  refine (right_is _ _ true hb0 hb1 hRb _).mono ?_
  rintro e w6 ⟨rfl, hb⟩
  have BA := Lib.hid ((hb.block _ (World.block_lt_of_cell? _ _ (blk_cell BA.out 0 _ rfl))).trans BA.out)
  have BB := Lib.hid ((hb.block _ (World.block_lt_of_cell? _ _ (blk_cell BB.out 0 _ rfl))).trans BB.out)
  have HMa := Lib.hid (HMa.out.below hb)
  have HMb := Lib.hid (HMb.out.below hb)
  have HMo := Lib.hid (HMo.out.below hb)
  have HB := Lib.hid (below_step HB.out hb)
  clear hb x0 x1 y0 y1
  have x0 := blk_cell BA.out 0 (.float .f64 a0) rfl
  have x1 := blk_cell BA.out 1 (.float .f64 a1) rfl
  have y0 := blk_cell BB.out 0 (.float .f64 b0) rfl
  have y1 := blk_cell BB.out 1 (.float .f64 b1) rfl
  clear x0 x1 y0 y1
  go_wp2
  go_loopw [13, 14, 15, 16, 17] (fun q t _ _ _ wr => ∃ (i : Nat) (R : Bool) (st : Int), i ≤ len ∧ q = .bool R ∧ t = .int .i64 i ∧ 0 ≤ st ∧ st ≤ 4611686018427387904 ∧ Hid (R = true → leB (floatOfInt .f64 st) a0 = false) ∧ Hid (MHas 71 wr ma a0 a1 st 0 0) ∧ Hid (MHas 71 wr mb b0 b1 st 0 0) ∧ Hid (MHas 71 wr mo l0 l1 st 0 0) ∧
    Hid (wr.heap[w.heap.size]? = some (.cells #[.float .f64 a0, .float .f64 a1] 24 (0, 0))) ∧ Hid (wr.heap[w.heap.size + 1]? = some (.cells #[.float .f64 b0, .float .f64 b1] 24 (0, 0))) ∧ Hid (Below w.heap.size w wr)) (fun _ t _ _ _ _ => len - (intOf t).toNat)
  case atStart => exact ⟨0, false, 0, by omega, rfl, rfl, by omega, by omega, Lib.hid (fun h => by cases h), HMa, HMb, HMo, BA, BB, HB⟩
  case round =>
    clear HMa HMb HMo BA BB HB
    obtain ⟨i, R, st, hi, rfl, rfl, s0, s1, RR, HMa, HMb, HMo, BA, BB, HB⟩ := hrel
    by_cases h2 : i < len ∧ i < 40
    · obtain ⟨h2, h40⟩ := h2
      obtain ⟨b, o, rfl, d0⟩ := HA.out i (by omega)
      have hz := HW.out Z[i] (List.getElem_mem _)
      have lb := World.block_lt_of_cell? w _ d0
      have d0 := (HB.out.cell (show (⟨b, o + i, none⟩ : Addr).block < w.heap.size from lb)).trans d0
      have na := Lib.hid (show b ≠ ma from Nat.ne_of_lt (Nat.lt_of_lt_of_le lb LMa.out))
      have nb := Lib.hid (show b ≠ mb from Nat.ne_of_lt (Nat.lt_of_lt_of_le lb LMb.out))
      have no := Lib.hid (show b ≠ mo from Nat.ne_of_lt (Nat.lt_of_lt_of_le lb LMo.out))
      generalize Z[i] = z at *
      have hz' : 0 ≤ z ∧ z ≤ 65535 := by
        simp [Lit.wf, IntKind.min, IntKind.max, IntKind.signed, IntKind.bits] at hz
        omega
      obtain ⟨z0, z1⟩ := hz'
      have hw1 : wrap64 z = z := by unfold wrap64; omega
      have hw2 : IntKind.i64.wrap z = z := by simp [IntKind.wrap, IntKind.signed, IntKind.bits]; omega
      have hsr := stepF_range (n := z) s0 s1
      have hsm : st ≤ stepF st z := by unfold stepF; omega
      have cA := Lib.hid (fun W H => step_calls ma a0 a1 st 0 0 z W H s0 s1 (by omega) (by omega))
      have cB := Lib.hid (fun W H => step_calls mb b0 b1 st 0 0 z W H s0 s1 (by omega) (by omega))
      have cO := Lib.hid (fun W H => step_calls mo l0 l1 st 0 0 z W H s0 s1 (by omega) (by omega))
      have hRX : R = true → leB (floatOfInt .f64 (stepF st z)) a0 = false := fun h => le_mono hN s0 hsm hsr.2 (RR.out h)
      have hW := LE.out (floatOfInt .f64 (stepF st z)) (int_key hsr.1 hsr.2).1
      have hG : geB a0 b0 = true → leB (floatOfInt .f64 (stepF st z)) b0 = true → leB (floatOfInt .f64 (stepF st z)) a0 = true := by
        rw [GE.out, le_int hsr.1 hsr.2 hN, le_int hsr.1 hsr.2 hM]
        simp
        omega
      generalize stepF st z = st' at *
      rw [hW] at cO
      obtain ⟨X, hX⟩ : ∃ X, leB (floatOfInt .f64 st') a0 = X := ⟨_, rfl⟩
      obtain ⟨Y, hY⟩ : ∃ Y, leB (floatOfInt .f64 st') b0 = Y := ⟨_, rfl⟩
      rw [hX, hY] at cO hG
      rw [hX] at hRX cA
      rw [hY] at cB
      have HX := Lib.hid hX
      have HSR := Lib.hid hsr
      clear hX hY hW hsr hsm hz lb s0 s1 RR
      go_wp2
      refine start_ (n := 24) (S := fun w' => w'.cell? ⟨b, o + i, none⟩ = some (.int .u16 z)) (ds := []) #[false, false, false, false, false, false, false, false, false, false, false, false, false, false, false, false, false, false, false, false, false, false, false, false] (by kernel_rfl) rfl rfl (d0) (fun hHeld => ?_)
      refine pure_ (i := 0) (N := some 88) (v := ?_) (a' := ?_) #[true, false, false, false, false, false, false, false, false, false, false, false, false, false, false, false, false, false, false, false, false, false, false, false] rfl rfl (by kernel_rfl) (fun _ _ _ h => h) (Or.inl ⟨by rfl, ?_⟩) ?_ ?_
      rotate_left
      · intro w'
        go_simp
        with_reducible rfl
      rotate_left
      · simp only [Act.put, List.setIfInBounds_toArray, List.set_cons_zero, List.set_cons_succ, i64_w, i32_w]
        rfl
      refine pure_ (i := 1) (N := some 89) (v := ?_) (a' := ?_) #[true, true, false, false, false, false, false, false, false, false, false, false, false, false, false, false, false, false, false, false, false, false, false, false] rfl rfl (by kernel_rfl) (fun _ _ _ h => h) (Or.inl ⟨by rfl, ?_⟩) ?_ ?_
      rotate_left
      · intro w'
        go_simp
        with_reducible rfl
      rotate_left
      · simp only [Act.put, List.setIfInBounds_toArray, List.set_cons_zero, List.set_cons_succ, i64_w, i32_w]
        rfl
      refine pure_ (i := 2) (N := some 90) (v := ?_) (a' := ?_) #[true, true, true, false, false, false, false, false, false, false, false, false, false, false, false, false, false, false, false, false, false, false, false, false] rfl rfl (by kernel_rfl) (fun _ _ _ h => h) (Or.inl ⟨by rfl, ?_⟩) ?_ ?_
      rotate_left
      · intro w'
        go_simp
        with_reducible rfl
      rotate_left
      · simp only [Act.put, List.setIfInBounds_toArray, List.set_cons_zero, List.set_cons_succ, i64_w, i32_w]
        rfl
      refine pure_ (i := 3) (N := some 91) (v := ?_) (a' := ?_) #[true, true, true, true, false, false, false, false, false, false, false, false, false, false, false, false, false, false, false, false, false, false, false, false] rfl rfl (by kernel_rfl) (fun _ _ _ h => h) (Or.inl ⟨by rfl, ?_⟩) ?_ ?_
      rotate_left
      · intro w'
        go_simp
        with_reducible rfl
      rotate_left
      · simp only [Act.put, List.setIfInBounds_toArray, List.set_cons_zero, List.set_cons_succ, i64_w, i32_w]
        rfl
      refine pure_ (i := 7) (N := some 95) (v := ?_) (a' := ?_) #[true, true, true, true, false, false, false, true, false, false, false, false, false, false, false, false, false, false, false, false, false, false, false, false] rfl rfl (by kernel_rfl) (fun _ _ _ h => h) (Or.inl ⟨by rfl, ?_⟩) ?_ ?_
      rotate_left
      · intro w'
        go_simp
        with_reducible rfl
      rotate_left
      · simp only [Act.put, List.setIfInBounds_toArray, List.set_cons_zero, List.set_cons_succ, i64_w, i32_w]
        rfl
      refine pure_ (i := 8) (N := some 96) (v := ?_) (a' := ?_) #[true, true, true, true, false, false, false, true, true, false, false, false, false, false, false, false, false, false, false, false, false, false, false, false] rfl rfl (by kernel_rfl) (fun _ _ _ h => h) (Or.inl ⟨by rfl, ?_⟩) ?_ ?_
      rotate_left
      · intro w'
        go_simp
        with_reducible rfl
      rotate_left
      · simp only [Act.put, List.setIfInBounds_toArray, List.set_cons_zero, List.set_cons_succ, i64_w, i32_w]
        rfl
      refine pure_ (i := 9) (N := some 97) (v := ?_) (a' := ?_) #[true, true, true, true, false, false, false, true, true, true, false, false, false, false, false, false, false, false, false, false, false, false, false, false] rfl rfl (by kernel_rfl) (fun _ _ _ h => h) (Or.inl ⟨by rfl, ?_⟩) ?_ ?_
      rotate_left
      · intro w'
        go_simp
        with_reducible rfl
      rotate_left
      · simp only [Act.put, List.setIfInBounds_toArray, List.set_cons_zero, List.set_cons_succ, i64_w, i32_w]
        rfl
      refine pure_ (i := 10) (N := some 98) (v := ?_) (a' := ?_) #[true, true, true, true, false, false, false, true, true, true, true, false, false, false, false, false, false, false, false, false, false, false, false, false] rfl rfl (by kernel_rfl) (fun _ _ _ h => h) (Or.inl ⟨by rfl, ?_⟩) ?_ ?_
      rotate_left
      · intro w'
        go_simp
        with_reducible rfl
      rotate_left
      · simp only [Act.put, List.setIfInBounds_toArray, List.set_cons_zero, List.set_cons_succ, i64_w, i32_w]
        rfl
      refine pure_ (i := 14) (N := some 102) (v := ?_) (a' := ?_) #[true, true, true, true, false, false, false, true, true, true, true, false, false, false, true, false, false, false, false, false, false, false, false, false] rfl rfl (by kernel_rfl) (fun _ _ _ h => h) (Or.inl ⟨by rfl, ?_⟩) ?_ ?_
      rotate_left
      · intro w'
        go_simp
        with_reducible rfl
      rotate_left
      · simp only [Act.put, List.setIfInBounds_toArray, List.set_cons_zero, List.set_cons_succ, i64_w, i32_w]
        rfl
      refine pure_ (i := 15) (N := some 103) (v := ?_) (a' := ?_) #[true, true, true, true, false, false, false, true, true, true, true, false, false, false, true, true, false, false, false, false, false, false, false, false] rfl rfl (by kernel_rfl) (fun _ _ _ h => h) (Or.inl ⟨by rfl, ?_⟩) ?_ ?_
      rotate_left
      · intro w'
        go_simp
        with_reducible rfl
      rotate_left
      · simp only [Act.put, List.setIfInBounds_toArray, List.set_cons_zero, List.set_cons_succ, i64_w, i32_w]
        rfl
      refine pure_ (i := 16) (N := some 104) (v := ?_) (a' := ?_) #[true, true, true, true, false, false, false, true, true, true, true, false, false, false, true, true, true, false, false, false, false, false, false, false] rfl rfl (by kernel_rfl) (fun _ _ _ h => h) (Or.inl ⟨by rfl, ?_⟩) ?_ ?_
      rotate_left
      · intro w'
        go_simp
        with_reducible rfl
      rotate_left
      · simp only [Act.put, List.setIfInBounds_toArray, List.set_cons_zero, List.set_cons_succ, i64_w, i32_w]
        rfl
      refine pure_ (i := 17) (N := some 105) (v := ?_) (a' := ?_) #[true, true, true, true, false, false, false, true, true, true, true, false, false, false, true, true, true, true, false, false, false, false, false, false] rfl rfl (by kernel_rfl) (fun _ _ _ h => h) (Or.inl ⟨by rfl, ?_⟩) ?_ ?_
      rotate_left
      · intro w'
        go_simp
        with_reducible rfl
      rotate_left
      · simp only [Act.put, List.setIfInBounds_toArray, List.set_cons_zero, List.set_cons_succ, i64_w, i32_w]
        rfl
      refine take_ (i := 4) (N := some 92) (v := ?_) (a' := ?_) #[true, true, true, true, true, false, false, true, true, true, true, false, false, false, true, true, true, true, false, false, false, false, false, false] rfl rfl (by kernel_rfl) (fun _ _ _ h => h) (Or.inl ⟨by rfl, ?_⟩) hHeld ?_ ?_
      rotate_left
      · intro w' s0
        go_simp
        with_reducible rfl
      rotate_left
      · simp only [Act.put, List.setIfInBounds_toArray, List.set_cons_zero, List.set_cons_succ, i64_w, i32_w]
        rfl
      refine pure_ (i := 5) (N := some 93) (v := ?_) (a' := ?_) #[true, true, true, true, true, true, false, true, true, true, true, false, false, false, true, true, true, true, false, false, false, false, false, false] rfl rfl (by kernel_rfl) (fun _ _ _ h => h) (Or.inl ⟨by rfl, ?_⟩) ?_ ?_
      rotate_left
      · intro w'
        go_simp
        with_reducible rfl
      rotate_left
      · simp only [Act.put, List.setIfInBounds_toArray, List.set_cons_zero, List.set_cons_succ, i64_w, i32_w]
        rfl
      refine take_ (i := 11) (N := some 99) (v := ?_) (a' := ?_) #[true, true, true, true, true, true, false, true, true, true, true, true, false, false, true, true, true, true, false, false, false, false, false, false] rfl rfl (by kernel_rfl) (fun _ _ _ h => h) (Or.inl ⟨by rfl, ?_⟩) hHeld ?_ ?_
      rotate_left
      · intro w' s0
        go_simp
        with_reducible rfl
      rotate_left
      · simp only [Act.put, List.setIfInBounds_toArray, List.set_cons_zero, List.set_cons_succ, i64_w, i32_w]
        rfl
      refine pure_ (i := 12) (N := some 100) (v := ?_) (a' := ?_) #[true, true, true, true, true, true, false, true, true, true, true, true, true, false, true, true, true, true, false, false, false, false, false, false] rfl rfl (by kernel_rfl) (fun _ _ _ h => h) (Or.inl ⟨by rfl, ?_⟩) ?_ ?_
      rotate_left
      · intro w'
        go_simp
        with_reducible rfl
      rotate_left
      · simp only [Act.put, List.setIfInBounds_toArray, List.set_cons_zero, List.set_cons_succ, i64_w, i32_w]
        rfl
      refine take_ (i := 18) (N := some 106) (v := ?_) (a' := ?_) #[true, true, true, true, true, true, false, true, true, true, true, true, true, false, true, true, true, true, true, false, false, false, false, false] rfl rfl (by kernel_rfl) (fun _ _ _ h => h) (Or.inl ⟨by rfl, ?_⟩) hHeld ?_ ?_
      rotate_left
      · intro w' s0
        go_simp
        with_reducible rfl
      rotate_left
      · simp only [Act.put, List.setIfInBounds_toArray, List.set_cons_zero, List.set_cons_succ, i64_w, i32_w]
        rfl
      refine pure_ (i := 19) (N := some 107) (v := ?_) (a' := ?_) #[true, true, true, true, true, true, false, true, true, true, true, true, true, false, true, true, true, true, true, true, false, false, false, false] rfl rfl (by kernel_rfl) (fun _ _ _ h => h) (Or.inl ⟨by rfl, ?_⟩) ?_ ?_
      rotate_left
      · intro w'
        go_simp
        with_reducible rfl
      rotate_left
      · simp only [Act.put, List.setIfInBounds_toArray, List.set_cons_zero, List.set_cons_succ, i64_w, i32_w]
        rfl
      refine one_ (i := 6) (N := some 94) #[true, true, true, true, true, true, true, true, true, true, true, true, true, false, true, true, true, true, true, true, false, false, false, false] rfl rfl (by kernel_rfl) (by decide) (fun K hK => ?_)
      refine goes_ Try.func22 (by kernel_rfl) rfl #[.pointer (some ⟨ma, 0, none⟩), .int .i64 z] (by rfl) rfl rfl (by simp only [List.map_toArray, List.map_cons, List.map_nil]; rfl) ?_
      with_reducible refine (cA.out _ HMa.out.drew).mono ?_
      rintro e w6 ⟨rfl, hm6, ho6⟩
      refine ⟨_, rfl, ?_⟩
      refine hK.out _ _ ((only_cell ho6 na.out hHeld)) (fun hHeld => ?_)
      clear hK K
      refine norm_ (a' := ?_) ?_ ?_
      rotate_left
      · show Act.put _ (some 94) _ = _
        simp only [Act.put, List.setIfInBounds_toArray, List.set_cons_zero, List.set_cons_succ, i64_w, i32_w]
        rfl
      refine one_ (i := 13) (N := some 101) #[true, true, true, true, true, true, true, true, true, true, true, true, true, true, true, true, true, true, true, true, false, false, false, false] rfl rfl (by kernel_rfl) (by decide) (fun K hK => ?_)
      refine goes_ Try.func22 (by kernel_rfl) rfl #[.pointer (some ⟨mb, 0, none⟩), .int .i64 z] (by rfl) rfl rfl (by simp only [List.map_toArray, List.map_cons, List.map_nil]; rfl) ?_
      with_reducible refine (cB.out _ (HMb.out.drew.only ho6 Nab.out.symm)).mono ?_
      rintro e w7 ⟨rfl, hm7, ho7⟩
      refine ⟨_, rfl, ?_⟩
      refine hK.out _ _ ((only_cell ho7 nb.out hHeld)) (fun hHeld => ?_)
      clear hK K
      refine norm_ (a' := ?_) ?_ ?_
      rotate_left
      · show Act.put _ (some 101) _ = _
        simp only [Act.put, List.setIfInBounds_toArray, List.set_cons_zero, List.set_cons_succ, i64_w, i32_w]
        rfl
      refine one_ (i := 20) (N := some 108) #[true, true, true, true, true, true, true, true, true, true, true, true, true, true, true, true, true, true, true, true, true, false, false, false] rfl rfl (by kernel_rfl) (by decide) (fun K hK => ?_)
      refine goes_ Try.func22 (by kernel_rfl) rfl #[.pointer (some ⟨mo, 0, none⟩), .int .i64 z] (by rfl) rfl rfl (by simp only [List.map_toArray, List.map_cons, List.map_nil]; rfl) ?_
      with_reducible refine (cO.out _ ((HMo.out.drew.only ho6 Nao.out.symm).only ho7 Nbo.out.symm)).mono ?_
      rintro e w8 ⟨rfl, hm8, ho8⟩
      refine ⟨_, rfl, ?_⟩
      refine hK.out _ _ ((only_cell ho8 no.out hHeld)) (fun hHeld => ?_)
      clear hK K
      refine norm_ (a' := ?_) ?_ ?_
      rotate_left
      · show Act.put _ (some 108) _ = _
        simp only [Act.put, List.setIfInBounds_toArray, List.set_cons_zero, List.set_cons_succ, i64_w, i32_w]
        rfl
      refine pure_ (i := 21) (N := some 15) (v := ?_) (a' := ?_) #[true, true, true, true, true, true, true, true, true, true, true, true, true, true, true, true, true, true, true, true, true, true, false, false] rfl rfl (by kernel_rfl) (fun _ _ _ h => h) (Or.inl ⟨by rfl, ?_⟩) ?_ ?_
      rotate_left
      · intro w'
        go_simp
        with_reducible rfl
      rotate_left
      · simp only [Act.put, List.setIfInBounds_toArray, List.set_cons_zero, List.set_cons_succ, i64_w, i32_w]
        rfl
      refine pure_ (i := 22) (N := some 16) (v := ?_) (a' := ?_) #[true, true, true, true, true, true, true, true, true, true, true, true, true, true, true, true, true, true, true, true, true, true, true, false] rfl rfl (by kernel_rfl) (fun _ _ _ h => h) (Or.inl ⟨by rfl, ?_⟩) ?_ ?_
      rotate_left
      · intro w'
        go_simp
        with_reducible rfl
      rotate_left
      · simp only [Act.put, List.setIfInBounds_toArray, List.set_cons_zero, List.set_cons_succ, i64_w, i32_w]
        rfl
      refine pure_ (i := 23) (N := some 17) (v := ?_) (a' := ?_) #[true, true, true, true, true, true, true, true, true, true, true, true, true, true, true, true, true, true, true, true, true, true, true, true] rfl rfl (by kernel_rfl) (fun _ _ _ h => h) (Or.inl ⟨by rfl, ?_⟩) ?_ ?_
      rotate_left
      · intro w'
        go_simp
        with_reducible rfl
      rotate_left
      · simp only [Act.put, List.setIfInBounds_toArray, List.set_cons_zero, List.set_cons_succ, i64_w, i32_w]
        rfl
      refine done_ (by kernel_rfl) ?_
      have HMa' := Lib.hid ((hm6.only ho7 Nab.out).only ho8 Nao.out)
      have HMb' := Lib.hid (hm7.only ho8 Nbo.out)
      have HMo' := Lib.hid hm8
      have HB6 := Only.below HB.out.drew ho6 LMa.out HB.out.size
      have HB7 := Only.below HB6 ho7 LMb.out HB6.size
      have HB8 := Lib.hid (Only.below HB7 ho8 LMo.out HB7.size)
      have BA' := Lib.hid ((ho8.block _ (by have := ho7.size; have := ho6.size; have := World.block_lt_of_cell? _ _ (blk_cell BA.out 0 _ rfl); simp at *; omega) XAo.out).trans ((ho7.block _ (by have := ho6.size; have := World.block_lt_of_cell? _ _ (blk_cell BA.out 0 _ rfl); simp at *; omega) XAb.out).trans ((ho6.block _ (World.block_lt_of_cell? _ _ (blk_cell BA.out 0 _ rfl)) XAa.out).trans BA.out)))
      have BB' := Lib.hid ((ho8.block _ (by have := ho7.size; have := ho6.size; have := World.block_lt_of_cell? _ _ (blk_cell BB.out 0 _ rfl); simp at *; omega) XBo.out).trans ((ho7.block _ (by have := ho6.size; have := World.block_lt_of_cell? _ _ (blk_cell BB.out 0 _ rfl); simp at *; omega) XBb.out).trans ((ho6.block _ (World.block_lt_of_cell? _ _ (blk_cell BB.out 0 _ rfl)) XBa.out).trans BB.out)))
      clear HB6 HB7 HB hm6 ho6 hm7 ho7 hm8 ho8 d0 HMa HMb HMo BA BB cA cB cO
      have x0 := blk_cell BA'.out 0 (.float .f64 a0) rfl
      have y0 := blk_cell BB'.out 0 (.float .f64 b0) rfl
      generalize geB a0 b0 = G at *
      cases X <;> cases Y <;> cases R <;> cases G <;> first
        | exact absurd (hRX rfl) (by decide)
        | exact absurd (hG rfl rfl) (by decide)
        | (clear hRX hG
           go_wp2
           go_roundw
           case rel => exact ⟨i + 1, _, st', by omega, rfl, by simp, HSR.out.1, HSR.out.2, Lib.hid (fun h => by first | exact HX.out | cases h), HMa', HMb', HMo', BA', BB', HB8⟩
           case measure => simp [intOf]; omega)
    · by_cases h3 : i < len
      · have h4 : 40 ≤ i := by omega
        go_wp2_with (go_at_call 19; (with_reducible refine (fixed_calls _).mono ?_); rintro e w6 ⟨rfl, hB7⟩)
        go_ret
        exact ⟨rfl, below_step HB.out hB7⟩
      · go_wp2_with (go_at_call 19; (with_reducible refine (fixed_calls _).mono ?_); rintro e w6 ⟨rfl, hB7⟩)
        go_ret
        exact ⟨rfl, below_step HB.out hB7⟩
set_option maxRecDepth 100000 in
set_option maxHeartbeats 6400000 in
theorem w101 (a0 a1 b0 b1 : Nat) (A : Option Addr) (len cap : Nat) (Z : List Int) (w : World) (ha0 : a0 < 18446744073709551616) (ha1 : a1 < 18446744073709551616) (hb0 : b0 < 18446744073709551616) (hb1 : b1 < 18446744073709551616) (hRa : rightB a0 a1 = true) (hRb : rightB b0 b1 = false) (hRo : rightB (lessF a0 b0) (lessF a1 b1) = true) (hA : IntArg w .u16 A len Z) :
    Calls Try.prog 5 #[.agg #[.float .f64 a0, .float .f64 a1], .agg #[.float .f64 b0, .float .f64 b1], .slice A len cap] w fun e w' => e = .returned (.bool true) ∧ Below w.heap.size w w' := by
  have hlen := hA.1
  have hmax := hA.2.1
  unfold maxLen at hmax
  have HA := Lib.hid hA.2.2.1
  have HW := Lib.hid hA.2.2.2
  clear hA
  have BA := Lib.hid (blk_alloc (heap_alloc_new w (.cells #[.float .f64 a0, .float .f64 a1] 24)) (.cells #[.float .f64 b0, .float .f64 b1] 24))
  have BB := Lib.hid (blk2 w (.cells #[.float .f64 a0, .float .f64 a1] 24) #[.float .f64 b0, .float .f64 b1] 24)
  have HB := Lib.hid (below2 w (.cells #[.float .f64 a0, .float .f64 a1] 24) (.cells #[.float .f64 b0, .float .f64 b1] 24))
  have c3 := Lib.hid (least_calls a0 a1 b0 b1)
  have hl0 := less_lt ha0 hb0
  have hl1 := less_lt ha1 hb1
  generalize lessF a0 b0 = l0 at *
  generalize lessF a1 b1 = l1 at *
  go_enter Try.func5, Try.ntmps5
  go_wp2_with fail
  generalize ((w.alloc (.cells #[.float .f64 a0, .float .f64 a1] 24)).alloc (.cells #[.float .f64 b0, .float .f64 b1] 24)) = w0 at *
  refine (new_yes _ _ ha0 ha1 hRa _).mono ?_
  rintro e w1 ⟨ma, rfl, hm, hl, hb⟩
  have XAa := Lib.hid (show w.heap.size ≠ ma from Nat.ne_of_lt (Nat.lt_of_lt_of_le (World.block_lt_of_cell? _ _ (blk_cell BA.out 0 _ rfl)) hl))
  have XBa := Lib.hid (show w.heap.size + 1 ≠ ma from Nat.ne_of_lt (Nat.lt_of_lt_of_le (World.block_lt_of_cell? _ _ (blk_cell BB.out 0 _ rfl)) hl))
  have LMa := Lib.hid (show w.heap.size ≤ ma from Nat.le_trans HB.out.size hl)
  have BA := Lib.hid ((hb.block _ (World.block_lt_of_cell? _ _ (blk_cell BA.out 0 _ rfl))).trans BA.out)
  have BB := Lib.hid ((hb.block _ (World.block_lt_of_cell? _ _ (blk_cell BB.out 0 _ rfl))).trans BB.out)
  have HMa := Lib.hid hm
  clear hm hl
  have HB := Lib.hid (below_step HB.out hb)
  clear hb
  have x0 := blk_cell BA.out 0 (.float .f64 a0) rfl
  have x1 := blk_cell BA.out 1 (.float .f64 a1) rfl
  have y0 := blk_cell BB.out 0 (.float .f64 b0) rfl
  have y1 := blk_cell BB.out 1 (.float .f64 b1) rfl
  go_wp2_with fail
  refine (new_no _ _ hb0 hb1 hRb _).mono ?_
  rintro e w2 ⟨rfl, hb⟩
  have BA := Lib.hid ((hb.block _ (World.block_lt_of_cell? _ _ (blk_cell BA.out 0 _ rfl))).trans BA.out)
  have BB := Lib.hid ((hb.block _ (World.block_lt_of_cell? _ _ (blk_cell BB.out 0 _ rfl))).trans BB.out)
  have HMa := Lib.hid (HMa.out.below hb)
  have HB := Lib.hid (below_step HB.out hb)
  clear hb
  have x0 := blk_cell BA.out 0 (.float .f64 a0) rfl
  have x1 := blk_cell BA.out 1 (.float .f64 a1) rfl
  have y0 := blk_cell BB.out 0 (.float .f64 b0) rfl
  have y1 := blk_cell BB.out 1 (.float .f64 b1) rfl
  go_wp2_with fail
  refine (c3.out _).mono ?_
  rintro e w3 ⟨rfl, hb⟩
  have BA := Lib.hid ((hb.block _ (World.block_lt_of_cell? _ _ (blk_cell BA.out 0 _ rfl))).trans BA.out)
  have BB := Lib.hid ((hb.block _ (World.block_lt_of_cell? _ _ (blk_cell BB.out 0 _ rfl))).trans BB.out)
  have HMa := Lib.hid (HMa.out.below hb)
  have HB := Lib.hid (below_step HB.out hb)
  clear hb x0 x1 y0 y1
  have x0 := blk_cell BA.out 0 (.float .f64 a0) rfl
  have x1 := blk_cell BA.out 1 (.float .f64 a1) rfl
  have y0 := blk_cell BB.out 0 (.float .f64 b0) rfl
  have y1 := blk_cell BB.out 1 (.float .f64 b1) rfl
  go_wp2_with fail
  refine (new_yes _ _ hl0 hl1 hRo _).mono ?_
  rintro e w4 ⟨mo, rfl, hm, hl, hb⟩
  have Nao := Lib.hid (show ma ≠ mo from Nat.ne_of_lt (Nat.lt_of_lt_of_le HMa.out.lt hl))
  have XAo := Lib.hid (show w.heap.size ≠ mo from Nat.ne_of_lt (Nat.lt_of_lt_of_le (World.block_lt_of_cell? _ _ (blk_cell BA.out 0 _ rfl)) hl))
  have XBo := Lib.hid (show w.heap.size + 1 ≠ mo from Nat.ne_of_lt (Nat.lt_of_lt_of_le (World.block_lt_of_cell? _ _ (blk_cell BB.out 0 _ rfl)) hl))
  have LMo := Lib.hid (show w.heap.size ≤ mo from Nat.le_trans HB.out.size hl)
  have BA := Lib.hid ((hb.block _ (World.block_lt_of_cell? _ _ (blk_cell BA.out 0 _ rfl))).trans BA.out)
  have BB := Lib.hid ((hb.block _ (World.block_lt_of_cell? _ _ (blk_cell BB.out 0 _ rfl))).trans BB.out)
  have HMa := Lib.hid (HMa.out.below hb)
  have HMo := Lib.hid hm
  clear hm hl
  have HB := Lib.hid (below_step HB.out hb)
  clear hb x0 x1 y0 y1
  have x0 := blk_cell BA.out 0 (.float .f64 a0) rfl
  have x1 := blk_cell BA.out 1 (.float .f64 a1) rfl
  have y0 := blk_cell BB.out 0 (.float .f64 b0) rfl
  have y1 := blk_cell BB.out 1 (.float .f64 b1) rfl
  go_wp2_with fail
  refine (right_is _ _ true ha0 ha1 hRa _).mono ?_
  rintro e w5 ⟨rfl, hb⟩
  have BA := Lib.hid ((hb.block _ (World.block_lt_of_cell? _ _ (blk_cell BA.out 0 _ rfl))).trans BA.out)
  have BB := Lib.hid ((hb.block _ (World.block_lt_of_cell? _ _ (blk_cell BB.out 0 _ rfl))).trans BB.out)
  have HMa := Lib.hid (HMa.out.below hb)
  have HMo := Lib.hid (HMo.out.below hb)
  have HB := Lib.hid (below_step HB.out hb)
  clear hb x0 x1 y0 y1
  have x0 := blk_cell BA.out 0 (.float .f64 a0) rfl
  have x1 := blk_cell BA.out 1 (.float .f64 a1) rfl
  have y0 := blk_cell BB.out 0 (.float .f64 b0) rfl
  have y1 := blk_cell BB.out 1 (.float .f64 b1) rfl
  go_wp2_with fail
  refine (right_is _ _ false hb0 hb1 hRb _).mono ?_
  rintro e w6 ⟨rfl, hb⟩
  have BA := Lib.hid ((hb.block _ (World.block_lt_of_cell? _ _ (blk_cell BA.out 0 _ rfl))).trans BA.out)
  have BB := Lib.hid ((hb.block _ (World.block_lt_of_cell? _ _ (blk_cell BB.out 0 _ rfl))).trans BB.out)
  have HMa := Lib.hid (HMa.out.below hb)
  have HMo := Lib.hid (HMo.out.below hb)
  have HB := Lib.hid (below_step HB.out hb)
  clear hb x0 x1 y0 y1
  have x0 := blk_cell BA.out 0 (.float .f64 a0) rfl
  have x1 := blk_cell BA.out 1 (.float .f64 a1) rfl
  have y0 := blk_cell BB.out 0 (.float .f64 b0) rfl
  have y1 := blk_cell BB.out 1 (.float .f64 b1) rfl
  go_wp2_with (go_at_call 19; (with_reducible refine (fixed_calls _).mono ?_); rintro e w7 ⟨rfl, hB7⟩)
  go_ret
  exact ⟨rfl, below_step HB.out hB7⟩
set_option maxRecDepth 100000 in
set_option maxHeartbeats 6400000 in
theorem w100 (a0 a1 b0 b1 : Nat) (A : Option Addr) (len cap : Nat) (Z : List Int) (w : World) (ha0 : a0 < 18446744073709551616) (ha1 : a1 < 18446744073709551616) (hb0 : b0 < 18446744073709551616) (hb1 : b1 < 18446744073709551616) (hRa : rightB a0 a1 = true) (hRb : rightB b0 b1 = false) (hRo : rightB (lessF a0 b0) (lessF a1 b1) = false) (hA : IntArg w .u16 A len Z) :
    Calls Try.prog 5 #[.agg #[.float .f64 a0, .float .f64 a1], .agg #[.float .f64 b0, .float .f64 b1], .slice A len cap] w fun e w' => e = .returned (.bool true) ∧ Below w.heap.size w w' := by
  have hlen := hA.1
  have hmax := hA.2.1
  unfold maxLen at hmax
  have HA := Lib.hid hA.2.2.1
  have HW := Lib.hid hA.2.2.2
  clear hA
  have BA := Lib.hid (blk_alloc (heap_alloc_new w (.cells #[.float .f64 a0, .float .f64 a1] 24)) (.cells #[.float .f64 b0, .float .f64 b1] 24))
  have BB := Lib.hid (blk2 w (.cells #[.float .f64 a0, .float .f64 a1] 24) #[.float .f64 b0, .float .f64 b1] 24)
  have HB := Lib.hid (below2 w (.cells #[.float .f64 a0, .float .f64 a1] 24) (.cells #[.float .f64 b0, .float .f64 b1] 24))
  have c3 := Lib.hid (least_calls a0 a1 b0 b1)
  have hl0 := less_lt ha0 hb0
  have hl1 := less_lt ha1 hb1
  generalize lessF a0 b0 = l0 at *
  generalize lessF a1 b1 = l1 at *
  go_enter Try.func5, Try.ntmps5
  go_wp2_with fail
  generalize ((w.alloc (.cells #[.float .f64 a0, .float .f64 a1] 24)).alloc (.cells #[.float .f64 b0, .float .f64 b1] 24)) = w0 at *
  refine (new_yes _ _ ha0 ha1 hRa _).mono ?_
  rintro e w1 ⟨ma, rfl, hm, hl, hb⟩
  have XAa := Lib.hid (show w.heap.size ≠ ma from Nat.ne_of_lt (Nat.lt_of_lt_of_le (World.block_lt_of_cell? _ _ (blk_cell BA.out 0 _ rfl)) hl))
  have XBa := Lib.hid (show w.heap.size + 1 ≠ ma from Nat.ne_of_lt (Nat.lt_of_lt_of_le (World.block_lt_of_cell? _ _ (blk_cell BB.out 0 _ rfl)) hl))
  have LMa := Lib.hid (show w.heap.size ≤ ma from Nat.le_trans HB.out.size hl)
  have BA := Lib.hid ((hb.block _ (World.block_lt_of_cell? _ _ (blk_cell BA.out 0 _ rfl))).trans BA.out)
  have BB := Lib.hid ((hb.block _ (World.block_lt_of_cell? _ _ (blk_cell BB.out 0 _ rfl))).trans BB.out)
  have HMa := Lib.hid hm
  clear hm hl
  have HB := Lib.hid (below_step HB.out hb)
  clear hb
  have x0 := blk_cell BA.out 0 (.float .f64 a0) rfl
  have x1 := blk_cell BA.out 1 (.float .f64 a1) rfl
  have y0 := blk_cell BB.out 0 (.float .f64 b0) rfl
  have y1 := blk_cell BB.out 1 (.float .f64 b1) rfl
  go_wp2_with fail
  refine (new_no _ _ hb0 hb1 hRb _).mono ?_
  rintro e w2 ⟨rfl, hb⟩
  have BA := Lib.hid ((hb.block _ (World.block_lt_of_cell? _ _ (blk_cell BA.out 0 _ rfl))).trans BA.out)
  have BB := Lib.hid ((hb.block _ (World.block_lt_of_cell? _ _ (blk_cell BB.out 0 _ rfl))).trans BB.out)
  have HMa := Lib.hid (HMa.out.below hb)
  have HB := Lib.hid (below_step HB.out hb)
  clear hb
  have x0 := blk_cell BA.out 0 (.float .f64 a0) rfl
  have x1 := blk_cell BA.out 1 (.float .f64 a1) rfl
  have y0 := blk_cell BB.out 0 (.float .f64 b0) rfl
  have y1 := blk_cell BB.out 1 (.float .f64 b1) rfl
  go_wp2_with fail
  refine (c3.out _).mono ?_
  rintro e w3 ⟨rfl, hb⟩
  have BA := Lib.hid ((hb.block _ (World.block_lt_of_cell? _ _ (blk_cell BA.out 0 _ rfl))).trans BA.out)
  have BB := Lib.hid ((hb.block _ (World.block_lt_of_cell? _ _ (blk_cell BB.out 0 _ rfl))).trans BB.out)
  have HMa := Lib.hid (HMa.out.below hb)
  have HB := Lib.hid (below_step HB.out hb)
  clear hb x0 x1 y0 y1
  have x0 := blk_cell BA.out 0 (.float .f64 a0) rfl
  have x1 := blk_cell BA.out 1 (.float .f64 a1) rfl
  have y0 := blk_cell BB.out 0 (.float .f64 b0) rfl
  have y1 := blk_cell BB.out 1 (.float .f64 b1) rfl
  go_wp2_with fail
  refine (new_no _ _ hl0 hl1 hRo _).mono ?_
  rintro e w4 ⟨rfl, hb⟩
  have BA := Lib.hid ((hb.block _ (World.block_lt_of_cell? _ _ (blk_cell BA.out 0 _ rfl))).trans BA.out)
  have BB := Lib.hid ((hb.block _ (World.block_lt_of_cell? _ _ (blk_cell BB.out 0 _ rfl))).trans BB.out)
  have HMa := Lib.hid (HMa.out.below hb)
  have HB := Lib.hid (below_step HB.out hb)
  clear hb x0 x1 y0 y1
  have x0 := blk_cell BA.out 0 (.float .f64 a0) rfl
  have x1 := blk_cell BA.out 1 (.float .f64 a1) rfl
  have y0 := blk_cell BB.out 0 (.float .f64 b0) rfl
  have y1 := blk_cell BB.out 1 (.float .f64 b1) rfl
  go_wp2_with fail
  refine (right_is _ _ true ha0 ha1 hRa _).mono ?_
  rintro e w5 ⟨rfl, hb⟩
  have BA := Lib.hid ((hb.block _ (World.block_lt_of_cell? _ _ (blk_cell BA.out 0 _ rfl))).trans BA.out)
  have BB := Lib.hid ((hb.block _ (World.block_lt_of_cell? _ _ (blk_cell BB.out 0 _ rfl))).trans BB.out)
  have HMa := Lib.hid (HMa.out.below hb)
  have HB := Lib.hid (below_step HB.out hb)
  clear hb x0 x1 y0 y1
  have x0 := blk_cell BA.out 0 (.float .f64 a0) rfl
  have x1 := blk_cell BA.out 1 (.float .f64 a1) rfl
  have y0 := blk_cell BB.out 0 (.float .f64 b0) rfl
  have y1 := blk_cell BB.out 1 (.float .f64 b1) rfl
  go_wp2_with fail
  refine (right_is _ _ false hb0 hb1 hRb _).mono ?_
  rintro e w6 ⟨rfl, hb⟩
  have BA := Lib.hid ((hb.block _ (World.block_lt_of_cell? _ _ (blk_cell BA.out 0 _ rfl))).trans BA.out)
  have BB := Lib.hid ((hb.block _ (World.block_lt_of_cell? _ _ (blk_cell BB.out 0 _ rfl))).trans BB.out)
  have HMa := Lib.hid (HMa.out.below hb)
  have HB := Lib.hid (below_step HB.out hb)
  clear hb x0 x1 y0 y1
  have x0 := blk_cell BA.out 0 (.float .f64 a0) rfl
  have x1 := blk_cell BA.out 1 (.float .f64 a1) rfl
  have y0 := blk_cell BB.out 0 (.float .f64 b0) rfl
  have y1 := blk_cell BB.out 1 (.float .f64 b1) rfl
  go_wp2_with (go_at_call 19; (with_reducible refine (fixed_calls _).mono ?_); rintro e w7 ⟨rfl, hB7⟩)
  go_ret
  exact ⟨rfl, below_step HB.out hB7⟩
set_option maxRecDepth 100000 in
set_option maxHeartbeats 6400000 in
theorem w011 (a0 a1 b0 b1 : Nat) (A : Option Addr) (len cap : Nat) (Z : List Int) (w : World) (ha0 : a0 < 18446744073709551616) (ha1 : a1 < 18446744073709551616) (hb0 : b0 < 18446744073709551616) (hb1 : b1 < 18446744073709551616) (hRa : rightB a0 a1 = false) (hRb : rightB b0 b1 = true) (hRo : rightB (lessF a0 b0) (lessF a1 b1) = true) (hA : IntArg w .u16 A len Z) :
    Calls Try.prog 5 #[.agg #[.float .f64 a0, .float .f64 a1], .agg #[.float .f64 b0, .float .f64 b1], .slice A len cap] w fun e w' => e = .returned (.bool true) ∧ Below w.heap.size w w' := by
  have hlen := hA.1
  have hmax := hA.2.1
  unfold maxLen at hmax
  have HA := Lib.hid hA.2.2.1
  have HW := Lib.hid hA.2.2.2
  clear hA
  have BA := Lib.hid (blk_alloc (heap_alloc_new w (.cells #[.float .f64 a0, .float .f64 a1] 24)) (.cells #[.float .f64 b0, .float .f64 b1] 24))
  have BB := Lib.hid (blk2 w (.cells #[.float .f64 a0, .float .f64 a1] 24) #[.float .f64 b0, .float .f64 b1] 24)
  have HB := Lib.hid (below2 w (.cells #[.float .f64 a0, .float .f64 a1] 24) (.cells #[.float .f64 b0, .float .f64 b1] 24))
  have c3 := Lib.hid (least_calls a0 a1 b0 b1)
  have hl0 := less_lt ha0 hb0
  have hl1 := less_lt ha1 hb1
  generalize lessF a0 b0 = l0 at *
  generalize lessF a1 b1 = l1 at *
  go_enter Try.func5, Try.ntmps5
  go_wp2_with fail
  generalize ((w.alloc (.cells #[.float .f64 a0, .float .f64 a1] 24)).alloc (.cells #[.float .f64 b0, .float .f64 b1] 24)) = w0 at *
  refine (new_no _ _ ha0 ha1 hRa _).mono ?_
  rintro e w1 ⟨rfl, hb⟩
  have BA := Lib.hid ((hb.block _ (World.block_lt_of_cell? _ _ (blk_cell BA.out 0 _ rfl))).trans BA.out)
  have BB := Lib.hid ((hb.block _ (World.block_lt_of_cell? _ _ (blk_cell BB.out 0 _ rfl))).trans BB.out)
  have HB := Lib.hid (below_step HB.out hb)
  clear hb
  have x0 := blk_cell BA.out 0 (.float .f64 a0) rfl
  have x1 := blk_cell BA.out 1 (.float .f64 a1) rfl
  have y0 := blk_cell BB.out 0 (.float .f64 b0) rfl
  have y1 := blk_cell BB.out 1 (.float .f64 b1) rfl
  go_wp2_with fail
  refine (new_yes _ _ hb0 hb1 hRb _).mono ?_
  rintro e w2 ⟨mb, rfl, hm, hl, hb⟩
  have XAb := Lib.hid (show w.heap.size ≠ mb from Nat.ne_of_lt (Nat.lt_of_lt_of_le (World.block_lt_of_cell? _ _ (blk_cell BA.out 0 _ rfl)) hl))
  have XBb := Lib.hid (show w.heap.size + 1 ≠ mb from Nat.ne_of_lt (Nat.lt_of_lt_of_le (World.block_lt_of_cell? _ _ (blk_cell BB.out 0 _ rfl)) hl))
  have LMb := Lib.hid (show w.heap.size ≤ mb from Nat.le_trans HB.out.size hl)
  have BA := Lib.hid ((hb.block _ (World.block_lt_of_cell? _ _ (blk_cell BA.out 0 _ rfl))).trans BA.out)
  have BB := Lib.hid ((hb.block _ (World.block_lt_of_cell? _ _ (blk_cell BB.out 0 _ rfl))).trans BB.out)
  have HMb := Lib.hid hm
  clear hm hl
  have HB := Lib.hid (below_step HB.out hb)
  clear hb
  have x0 := blk_cell BA.out 0 (.float .f64 a0) rfl
  have x1 := blk_cell BA.out 1 (.float .f64 a1) rfl
  have y0 := blk_cell BB.out 0 (.float .f64 b0) rfl
  have y1 := blk_cell BB.out 1 (.float .f64 b1) rfl
  go_wp2_with fail
  refine (c3.out _).mono ?_
  rintro e w3 ⟨rfl, hb⟩
  have BA := Lib.hid ((hb.block _ (World.block_lt_of_cell? _ _ (blk_cell BA.out 0 _ rfl))).trans BA.out)
  have BB := Lib.hid ((hb.block _ (World.block_lt_of_cell? _ _ (blk_cell BB.out 0 _ rfl))).trans BB.out)
  have HMb := Lib.hid (HMb.out.below hb)
  have HB := Lib.hid (below_step HB.out hb)
  clear hb x0 x1 y0 y1
  have x0 := blk_cell BA.out 0 (.float .f64 a0) rfl
  have x1 := blk_cell BA.out 1 (.float .f64 a1) rfl
  have y0 := blk_cell BB.out 0 (.float .f64 b0) rfl
  have y1 := blk_cell BB.out 1 (.float .f64 b1) rfl
  go_wp2_with fail
  refine (new_yes _ _ hl0 hl1 hRo _).mono ?_
  rintro e w4 ⟨mo, rfl, hm, hl, hb⟩
  have Nbo := Lib.hid (show mb ≠ mo from Nat.ne_of_lt (Nat.lt_of_lt_of_le HMb.out.lt hl))
  have XAo := Lib.hid (show w.heap.size ≠ mo from Nat.ne_of_lt (Nat.lt_of_lt_of_le (World.block_lt_of_cell? _ _ (blk_cell BA.out 0 _ rfl)) hl))
  have XBo := Lib.hid (show w.heap.size + 1 ≠ mo from Nat.ne_of_lt (Nat.lt_of_lt_of_le (World.block_lt_of_cell? _ _ (blk_cell BB.out 0 _ rfl)) hl))
  have LMo := Lib.hid (show w.heap.size ≤ mo from Nat.le_trans HB.out.size hl)
  have BA := Lib.hid ((hb.block _ (World.block_lt_of_cell? _ _ (blk_cell BA.out 0 _ rfl))).trans BA.out)
  have BB := Lib.hid ((hb.block _ (World.block_lt_of_cell? _ _ (blk_cell BB.out 0 _ rfl))).trans BB.out)
  have HMb := Lib.hid (HMb.out.below hb)
  have HMo := Lib.hid hm
  clear hm hl
  have HB := Lib.hid (below_step HB.out hb)
  clear hb x0 x1 y0 y1
  have x0 := blk_cell BA.out 0 (.float .f64 a0) rfl
  have x1 := blk_cell BA.out 1 (.float .f64 a1) rfl
  have y0 := blk_cell BB.out 0 (.float .f64 b0) rfl
  have y1 := blk_cell BB.out 1 (.float .f64 b1) rfl
  go_wp2_with fail
  refine (right_is _ _ false ha0 ha1 hRa _).mono ?_
  rintro e w5 ⟨rfl, hb⟩
  have BA := Lib.hid ((hb.block _ (World.block_lt_of_cell? _ _ (blk_cell BA.out 0 _ rfl))).trans BA.out)
  have BB := Lib.hid ((hb.block _ (World.block_lt_of_cell? _ _ (blk_cell BB.out 0 _ rfl))).trans BB.out)
  have HMb := Lib.hid (HMb.out.below hb)
  have HMo := Lib.hid (HMo.out.below hb)
  have HB := Lib.hid (below_step HB.out hb)
  clear hb x0 x1 y0 y1
  have x0 := blk_cell BA.out 0 (.float .f64 a0) rfl
  have x1 := blk_cell BA.out 1 (.float .f64 a1) rfl
  have y0 := blk_cell BB.out 0 (.float .f64 b0) rfl
  have y1 := blk_cell BB.out 1 (.float .f64 b1) rfl
  go_wp2_with fail
  refine (right_is _ _ true hb0 hb1 hRb _).mono ?_
  rintro e w6 ⟨rfl, hb⟩
  have BA := Lib.hid ((hb.block _ (World.block_lt_of_cell? _ _ (blk_cell BA.out 0 _ rfl))).trans BA.out)
  have BB := Lib.hid ((hb.block _ (World.block_lt_of_cell? _ _ (blk_cell BB.out 0 _ rfl))).trans BB.out)
  have HMb := Lib.hid (HMb.out.below hb)
  have HMo := Lib.hid (HMo.out.below hb)
  have HB := Lib.hid (below_step HB.out hb)
  clear hb x0 x1 y0 y1
  have x0 := blk_cell BA.out 0 (.float .f64 a0) rfl
  have x1 := blk_cell BA.out 1 (.float .f64 a1) rfl
  have y0 := blk_cell BB.out 0 (.float .f64 b0) rfl
  have y1 := blk_cell BB.out 1 (.float .f64 b1) rfl
  go_wp2_with (go_at_call 19; (with_reducible refine (fixed_calls _).mono ?_); rintro e w7 ⟨rfl, hB7⟩)
  go_ret
  exact ⟨rfl, below_step HB.out hB7⟩
set_option maxRecDepth 100000 in
set_option maxHeartbeats 6400000 in
theorem w010 (a0 a1 b0 b1 : Nat) (A : Option Addr) (len cap : Nat) (Z : List Int) (w : World) (ha0 : a0 < 18446744073709551616) (ha1 : a1 < 18446744073709551616) (hb0 : b0 < 18446744073709551616) (hb1 : b1 < 18446744073709551616) (hRa : rightB a0 a1 = false) (hRb : rightB b0 b1 = true) (hRo : rightB (lessF a0 b0) (lessF a1 b1) = false) (hA : IntArg w .u16 A len Z) :
    Calls Try.prog 5 #[.agg #[.float .f64 a0, .float .f64 a1], .agg #[.float .f64 b0, .float .f64 b1], .slice A len cap] w fun e w' => e = .returned (.bool true) ∧ Below w.heap.size w w' := by
  have hlen := hA.1
  have hmax := hA.2.1
  unfold maxLen at hmax
  have HA := Lib.hid hA.2.2.1
  have HW := Lib.hid hA.2.2.2
  clear hA
  have BA := Lib.hid (blk_alloc (heap_alloc_new w (.cells #[.float .f64 a0, .float .f64 a1] 24)) (.cells #[.float .f64 b0, .float .f64 b1] 24))
  have BB := Lib.hid (blk2 w (.cells #[.float .f64 a0, .float .f64 a1] 24) #[.float .f64 b0, .float .f64 b1] 24)
  have HB := Lib.hid (below2 w (.cells #[.float .f64 a0, .float .f64 a1] 24) (.cells #[.float .f64 b0, .float .f64 b1] 24))
  have c3 := Lib.hid (least_calls a0 a1 b0 b1)
  have hl0 := less_lt ha0 hb0
  have hl1 := less_lt ha1 hb1
  generalize lessF a0 b0 = l0 at *
  generalize lessF a1 b1 = l1 at *
  go_enter Try.func5, Try.ntmps5
  go_wp2_with fail
  generalize ((w.alloc (.cells #[.float .f64 a0, .float .f64 a1] 24)).alloc (.cells #[.float .f64 b0, .float .f64 b1] 24)) = w0 at *
  refine (new_no _ _ ha0 ha1 hRa _).mono ?_
  rintro e w1 ⟨rfl, hb⟩
  have BA := Lib.hid ((hb.block _ (World.block_lt_of_cell? _ _ (blk_cell BA.out 0 _ rfl))).trans BA.out)
  have BB := Lib.hid ((hb.block _ (World.block_lt_of_cell? _ _ (blk_cell BB.out 0 _ rfl))).trans BB.out)
  have HB := Lib.hid (below_step HB.out hb)
  clear hb
  have x0 := blk_cell BA.out 0 (.float .f64 a0) rfl
  have x1 := blk_cell BA.out 1 (.float .f64 a1) rfl
  have y0 := blk_cell BB.out 0 (.float .f64 b0) rfl
  have y1 := blk_cell BB.out 1 (.float .f64 b1) rfl
  go_wp2_with fail
  refine (new_yes _ _ hb0 hb1 hRb _).mono ?_
  rintro e w2 ⟨mb, rfl, hm, hl, hb⟩
  have XAb := Lib.hid (show w.heap.size ≠ mb from Nat.ne_of_lt (Nat.lt_of_lt_of_le (World.block_lt_of_cell? _ _ (blk_cell BA.out 0 _ rfl)) hl))
  have XBb := Lib.hid (show w.heap.size + 1 ≠ mb from Nat.ne_of_lt (Nat.lt_of_lt_of_le (World.block_lt_of_cell? _ _ (blk_cell BB.out 0 _ rfl)) hl))
  have LMb := Lib.hid (show w.heap.size ≤ mb from Nat.le_trans HB.out.size hl)
  have BA := Lib.hid ((hb.block _ (World.block_lt_of_cell? _ _ (blk_cell BA.out 0 _ rfl))).trans BA.out)
  have BB := Lib.hid ((hb.block _ (World.block_lt_of_cell? _ _ (blk_cell BB.out 0 _ rfl))).trans BB.out)
  have HMb := Lib.hid hm
  clear hm hl
  have HB := Lib.hid (below_step HB.out hb)
  clear hb
  have x0 := blk_cell BA.out 0 (.float .f64 a0) rfl
  have x1 := blk_cell BA.out 1 (.float .f64 a1) rfl
  have y0 := blk_cell BB.out 0 (.float .f64 b0) rfl
  have y1 := blk_cell BB.out 1 (.float .f64 b1) rfl
  go_wp2_with fail
  refine (c3.out _).mono ?_
  rintro e w3 ⟨rfl, hb⟩
  have BA := Lib.hid ((hb.block _ (World.block_lt_of_cell? _ _ (blk_cell BA.out 0 _ rfl))).trans BA.out)
  have BB := Lib.hid ((hb.block _ (World.block_lt_of_cell? _ _ (blk_cell BB.out 0 _ rfl))).trans BB.out)
  have HMb := Lib.hid (HMb.out.below hb)
  have HB := Lib.hid (below_step HB.out hb)
  clear hb x0 x1 y0 y1
  have x0 := blk_cell BA.out 0 (.float .f64 a0) rfl
  have x1 := blk_cell BA.out 1 (.float .f64 a1) rfl
  have y0 := blk_cell BB.out 0 (.float .f64 b0) rfl
  have y1 := blk_cell BB.out 1 (.float .f64 b1) rfl
  go_wp2_with fail
  refine (new_no _ _ hl0 hl1 hRo _).mono ?_
  rintro e w4 ⟨rfl, hb⟩
  have BA := Lib.hid ((hb.block _ (World.block_lt_of_cell? _ _ (blk_cell BA.out 0 _ rfl))).trans BA.out)
  have BB := Lib.hid ((hb.block _ (World.block_lt_of_cell? _ _ (blk_cell BB.out 0 _ rfl))).trans BB.out)
  have HMb := Lib.hid (HMb.out.below hb)
  have HB := Lib.hid (below_step HB.out hb)
  clear hb x0 x1 y0 y1
  have x0 := blk_cell BA.out 0 (.float .f64 a0) rfl
  have x1 := blk_cell BA.out 1 (.float .f64 a1) rfl
  have y0 := blk_cell BB.out 0 (.float .f64 b0) rfl
  have y1 := blk_cell BB.out 1 (.float .f64 b1) rfl
  go_wp2_with fail
  refine (right_is _ _ false ha0 ha1 hRa _).mono ?_
  rintro e w5 ⟨rfl, hb⟩
  have BA := Lib.hid ((hb.block _ (World.block_lt_of_cell? _ _ (blk_cell BA.out 0 _ rfl))).trans BA.out)
  have BB := Lib.hid ((hb.block _ (World.block_lt_of_cell? _ _ (blk_cell BB.out 0 _ rfl))).trans BB.out)
  have HMb := Lib.hid (HMb.out.below hb)
  have HB := Lib.hid (below_step HB.out hb)
  clear hb x0 x1 y0 y1
  have x0 := blk_cell BA.out 0 (.float .f64 a0) rfl
  have x1 := blk_cell BA.out 1 (.float .f64 a1) rfl
  have y0 := blk_cell BB.out 0 (.float .f64 b0) rfl
  have y1 := blk_cell BB.out 1 (.float .f64 b1) rfl
  go_wp2_with fail
  refine (right_is _ _ true hb0 hb1 hRb _).mono ?_
  rintro e w6 ⟨rfl, hb⟩
  have BA := Lib.hid ((hb.block _ (World.block_lt_of_cell? _ _ (blk_cell BA.out 0 _ rfl))).trans BA.out)
  have BB := Lib.hid ((hb.block _ (World.block_lt_of_cell? _ _ (blk_cell BB.out 0 _ rfl))).trans BB.out)
  have HMb := Lib.hid (HMb.out.below hb)
  have HB := Lib.hid (below_step HB.out hb)
  clear hb x0 x1 y0 y1
  have x0 := blk_cell BA.out 0 (.float .f64 a0) rfl
  have x1 := blk_cell BA.out 1 (.float .f64 a1) rfl
  have y0 := blk_cell BB.out 0 (.float .f64 b0) rfl
  have y1 := blk_cell BB.out 1 (.float .f64 b1) rfl
  go_wp2_with (go_at_call 19; (with_reducible refine (fixed_calls _).mono ?_); rintro e w7 ⟨rfl, hB7⟩)
  go_ret
  exact ⟨rfl, below_step HB.out hB7⟩
set_option maxRecDepth 100000 in
set_option maxHeartbeats 6400000 in
theorem w001 (a0 a1 b0 b1 : Nat) (A : Option Addr) (len cap : Nat) (Z : List Int) (w : World) (ha0 : a0 < 18446744073709551616) (ha1 : a1 < 18446744073709551616) (hb0 : b0 < 18446744073709551616) (hb1 : b1 < 18446744073709551616) (hRa : rightB a0 a1 = false) (hRb : rightB b0 b1 = false) (hRo : rightB (lessF a0 b0) (lessF a1 b1) = true) (hA : IntArg w .u16 A len Z) :
    Calls Try.prog 5 #[.agg #[.float .f64 a0, .float .f64 a1], .agg #[.float .f64 b0, .float .f64 b1], .slice A len cap] w fun e w' => e = .returned (.bool true) ∧ Below w.heap.size w w' := by
  have hlen := hA.1
  have hmax := hA.2.1
  unfold maxLen at hmax
  have HA := Lib.hid hA.2.2.1
  have HW := Lib.hid hA.2.2.2
  clear hA
  have BA := Lib.hid (blk_alloc (heap_alloc_new w (.cells #[.float .f64 a0, .float .f64 a1] 24)) (.cells #[.float .f64 b0, .float .f64 b1] 24))
  have BB := Lib.hid (blk2 w (.cells #[.float .f64 a0, .float .f64 a1] 24) #[.float .f64 b0, .float .f64 b1] 24)
  have HB := Lib.hid (below2 w (.cells #[.float .f64 a0, .float .f64 a1] 24) (.cells #[.float .f64 b0, .float .f64 b1] 24))
  have c3 := Lib.hid (least_calls a0 a1 b0 b1)
  have hl0 := less_lt ha0 hb0
  have hl1 := less_lt ha1 hb1
  generalize lessF a0 b0 = l0 at *
  generalize lessF a1 b1 = l1 at *
  go_enter Try.func5, Try.ntmps5
  go_wp2_with fail
  generalize ((w.alloc (.cells #[.float .f64 a0, .float .f64 a1] 24)).alloc (.cells #[.float .f64 b0, .float .f64 b1] 24)) = w0 at *
  refine (new_no _ _ ha0 ha1 hRa _).mono ?_
  rintro e w1 ⟨rfl, hb⟩
  have BA := Lib.hid ((hb.block _ (World.block_lt_of_cell? _ _ (blk_cell BA.out 0 _ rfl))).trans BA.out)
  have BB := Lib.hid ((hb.block _ (World.block_lt_of_cell? _ _ (blk_cell BB.out 0 _ rfl))).trans BB.out)
  have HB := Lib.hid (below_step HB.out hb)
  clear hb
  have x0 := blk_cell BA.out 0 (.float .f64 a0) rfl
  have x1 := blk_cell BA.out 1 (.float .f64 a1) rfl
  have y0 := blk_cell BB.out 0 (.float .f64 b0) rfl
  have y1 := blk_cell BB.out 1 (.float .f64 b1) rfl
  go_wp2_with fail
  refine (new_no _ _ hb0 hb1 hRb _).mono ?_
  rintro e w2 ⟨rfl, hb⟩
  have BA := Lib.hid ((hb.block _ (World.block_lt_of_cell? _ _ (blk_cell BA.out 0 _ rfl))).trans BA.out)
  have BB := Lib.hid ((hb.block _ (World.block_lt_of_cell? _ _ (blk_cell BB.out 0 _ rfl))).trans BB.out)
  have HB := Lib.hid (below_step HB.out hb)
  clear hb
  have x0 := blk_cell BA.out 0 (.float .f64 a0) rfl
  have x1 := blk_cell BA.out 1 (.float .f64 a1) rfl
  have y0 := blk_cell BB.out 0 (.float .f64 b0) rfl
  have y1 := blk_cell BB.out 1 (.float .f64 b1) rfl
  go_wp2_with fail
  refine (c3.out _).mono ?_
  rintro e w3 ⟨rfl, hb⟩
  have BA := Lib.hid ((hb.block _ (World.block_lt_of_cell? _ _ (blk_cell BA.out 0 _ rfl))).trans BA.out)
  have BB := Lib.hid ((hb.block _ (World.block_lt_of_cell? _ _ (blk_cell BB.out 0 _ rfl))).trans BB.out)
  have HB := Lib.hid (below_step HB.out hb)
  clear hb x0 x1 y0 y1
  have x0 := blk_cell BA.out 0 (.float .f64 a0) rfl
  have x1 := blk_cell BA.out 1 (.float .f64 a1) rfl
  have y0 := blk_cell BB.out 0 (.float .f64 b0) rfl
  have y1 := blk_cell BB.out 1 (.float .f64 b1) rfl
  go_wp2_with fail
  refine (new_yes _ _ hl0 hl1 hRo _).mono ?_
  rintro e w4 ⟨mo, rfl, hm, hl, hb⟩
  have XAo := Lib.hid (show w.heap.size ≠ mo from Nat.ne_of_lt (Nat.lt_of_lt_of_le (World.block_lt_of_cell? _ _ (blk_cell BA.out 0 _ rfl)) hl))
  have XBo := Lib.hid (show w.heap.size + 1 ≠ mo from Nat.ne_of_lt (Nat.lt_of_lt_of_le (World.block_lt_of_cell? _ _ (blk_cell BB.out 0 _ rfl)) hl))
  have LMo := Lib.hid (show w.heap.size ≤ mo from Nat.le_trans HB.out.size hl)
  have BA := Lib.hid ((hb.block _ (World.block_lt_of_cell? _ _ (blk_cell BA.out 0 _ rfl))).trans BA.out)
  have BB := Lib.hid ((hb.block _ (World.block_lt_of_cell? _ _ (blk_cell BB.out 0 _ rfl))).trans BB.out)
  have HMo := Lib.hid hm
  clear hm hl
  have HB := Lib.hid (below_step HB.out hb)
  clear hb x0 x1 y0 y1
  have x0 := blk_cell BA.out 0 (.float .f64 a0) rfl
  have x1 := blk_cell BA.out 1 (.float .f64 a1) rfl
  have y0 := blk_cell BB.out 0 (.float .f64 b0) rfl
  have y1 := blk_cell BB.out 1 (.float .f64 b1) rfl
  go_wp2_with fail
  refine (right_is _ _ false ha0 ha1 hRa _).mono ?_
  rintro e w5 ⟨rfl, hb⟩
  have BA := Lib.hid ((hb.block _ (World.block_lt_of_cell? _ _ (blk_cell BA.out 0 _ rfl))).trans BA.out)
  have BB := Lib.hid ((hb.block _ (World.block_lt_of_cell? _ _ (blk_cell BB.out 0 _ rfl))).trans BB.out)
  have HMo := Lib.hid (HMo.out.below hb)
  have HB := Lib.hid (below_step HB.out hb)
  clear hb x0 x1 y0 y1
  have x0 := blk_cell BA.out 0 (.float .f64 a0) rfl
  have x1 := blk_cell BA.out 1 (.float .f64 a1) rfl
  have y0 := blk_cell BB.out 0 (.float .f64 b0) rfl
  have y1 := blk_cell BB.out 1 (.float .f64 b1) rfl
  go_wp2_with fail
  refine (right_is _ _ false hb0 hb1 hRb _).mono ?_
  rintro e w6 ⟨rfl, hb⟩
  have BA := Lib.hid ((hb.block _ (World.block_lt_of_cell? _ _ (blk_cell BA.out 0 _ rfl))).trans BA.out)
  have BB := Lib.hid ((hb.block _ (World.block_lt_of_cell? _ _ (blk_cell BB.out 0 _ rfl))).trans BB.out)
  have HMo := Lib.hid (HMo.out.below hb)
  have HB := Lib.hid (below_step HB.out hb)
  clear hb x0 x1 y0 y1
  have x0 := blk_cell BA.out 0 (.float .f64 a0) rfl
  have x1 := blk_cell BA.out 1 (.float .f64 a1) rfl
  have y0 := blk_cell BB.out 0 (.float .f64 b0) rfl
  have y1 := blk_cell BB.out 1 (.float .f64 b1) rfl
  go_wp2_with (go_at_call 19; (with_reducible refine (fixed_calls _).mono ?_); rintro e w7 ⟨rfl, hB7⟩)
  go_ret
  exact ⟨rfl, below_step HB.out hB7⟩
set_option maxRecDepth 100000 in
set_option maxHeartbeats 6400000 in
theorem w000 (a0 a1 b0 b1 : Nat) (A : Option Addr) (len cap : Nat) (Z : List Int) (w : World) (ha0 : a0 < 18446744073709551616) (ha1 : a1 < 18446744073709551616) (hb0 : b0 < 18446744073709551616) (hb1 : b1 < 18446744073709551616) (hRa : rightB a0 a1 = false) (hRb : rightB b0 b1 = false) (hRo : rightB (lessF a0 b0) (lessF a1 b1) = false) (hA : IntArg w .u16 A len Z) :
    Calls Try.prog 5 #[.agg #[.float .f64 a0, .float .f64 a1], .agg #[.float .f64 b0, .float .f64 b1], .slice A len cap] w fun e w' => e = .returned (.bool true) ∧ Below w.heap.size w w' := by
  have hlen := hA.1
  have hmax := hA.2.1
  unfold maxLen at hmax
  have HA := Lib.hid hA.2.2.1
  have HW := Lib.hid hA.2.2.2
  clear hA
  have BA := Lib.hid (blk_alloc (heap_alloc_new w (.cells #[.float .f64 a0, .float .f64 a1] 24)) (.cells #[.float .f64 b0, .float .f64 b1] 24))
  have BB := Lib.hid (blk2 w (.cells #[.float .f64 a0, .float .f64 a1] 24) #[.float .f64 b0, .float .f64 b1] 24)
  have HB := Lib.hid (below2 w (.cells #[.float .f64 a0, .float .f64 a1] 24) (.cells #[.float .f64 b0, .float .f64 b1] 24))
  have c3 := Lib.hid (least_calls a0 a1 b0 b1)
  have hl0 := less_lt ha0 hb0
  have hl1 := less_lt ha1 hb1
  generalize lessF a0 b0 = l0 at *
  generalize lessF a1 b1 = l1 at *
  go_enter Try.func5, Try.ntmps5
  go_wp2_with fail
  generalize ((w.alloc (.cells #[.float .f64 a0, .float .f64 a1] 24)).alloc (.cells #[.float .f64 b0, .float .f64 b1] 24)) = w0 at *
  refine (new_no _ _ ha0 ha1 hRa _).mono ?_
  rintro e w1 ⟨rfl, hb⟩
  have BA := Lib.hid ((hb.block _ (World.block_lt_of_cell? _ _ (blk_cell BA.out 0 _ rfl))).trans BA.out)
  have BB := Lib.hid ((hb.block _ (World.block_lt_of_cell? _ _ (blk_cell BB.out 0 _ rfl))).trans BB.out)
  have HB := Lib.hid (below_step HB.out hb)
  clear hb
  have x0 := blk_cell BA.out 0 (.float .f64 a0) rfl
  have x1 := blk_cell BA.out 1 (.float .f64 a1) rfl
  have y0 := blk_cell BB.out 0 (.float .f64 b0) rfl
  have y1 := blk_cell BB.out 1 (.float .f64 b1) rfl
  go_wp2_with fail
  refine (new_no _ _ hb0 hb1 hRb _).mono ?_
  rintro e w2 ⟨rfl, hb⟩
  have BA := Lib.hid ((hb.block _ (World.block_lt_of_cell? _ _ (blk_cell BA.out 0 _ rfl))).trans BA.out)
  have BB := Lib.hid ((hb.block _ (World.block_lt_of_cell? _ _ (blk_cell BB.out 0 _ rfl))).trans BB.out)
  have HB := Lib.hid (below_step HB.out hb)
  clear hb
  have x0 := blk_cell BA.out 0 (.float .f64 a0) rfl
  have x1 := blk_cell BA.out 1 (.float .f64 a1) rfl
  have y0 := blk_cell BB.out 0 (.float .f64 b0) rfl
  have y1 := blk_cell BB.out 1 (.float .f64 b1) rfl
  go_wp2_with fail
  refine (c3.out _).mono ?_
  rintro e w3 ⟨rfl, hb⟩
  have BA := Lib.hid ((hb.block _ (World.block_lt_of_cell? _ _ (blk_cell BA.out 0 _ rfl))).trans BA.out)
  have BB := Lib.hid ((hb.block _ (World.block_lt_of_cell? _ _ (blk_cell BB.out 0 _ rfl))).trans BB.out)
  have HB := Lib.hid (below_step HB.out hb)
  clear hb x0 x1 y0 y1
  have x0 := blk_cell BA.out 0 (.float .f64 a0) rfl
  have x1 := blk_cell BA.out 1 (.float .f64 a1) rfl
  have y0 := blk_cell BB.out 0 (.float .f64 b0) rfl
  have y1 := blk_cell BB.out 1 (.float .f64 b1) rfl
  go_wp2_with fail
  refine (new_no _ _ hl0 hl1 hRo _).mono ?_
  rintro e w4 ⟨rfl, hb⟩
  have BA := Lib.hid ((hb.block _ (World.block_lt_of_cell? _ _ (blk_cell BA.out 0 _ rfl))).trans BA.out)
  have BB := Lib.hid ((hb.block _ (World.block_lt_of_cell? _ _ (blk_cell BB.out 0 _ rfl))).trans BB.out)
  have HB := Lib.hid (below_step HB.out hb)
  clear hb x0 x1 y0 y1
  have x0 := blk_cell BA.out 0 (.float .f64 a0) rfl
  have x1 := blk_cell BA.out 1 (.float .f64 a1) rfl
  have y0 := blk_cell BB.out 0 (.float .f64 b0) rfl
  have y1 := blk_cell BB.out 1 (.float .f64 b1) rfl
  go_wp2_with fail
  refine (right_is _ _ false ha0 ha1 hRa _).mono ?_
  rintro e w5 ⟨rfl, hb⟩
  have BA := Lib.hid ((hb.block _ (World.block_lt_of_cell? _ _ (blk_cell BA.out 0 _ rfl))).trans BA.out)
  have BB := Lib.hid ((hb.block _ (World.block_lt_of_cell? _ _ (blk_cell BB.out 0 _ rfl))).trans BB.out)
  have HB := Lib.hid (below_step HB.out hb)
  clear hb x0 x1 y0 y1
  have x0 := blk_cell BA.out 0 (.float .f64 a0) rfl
  have x1 := blk_cell BA.out 1 (.float .f64 a1) rfl
  have y0 := blk_cell BB.out 0 (.float .f64 b0) rfl
  have y1 := blk_cell BB.out 1 (.float .f64 b1) rfl
  go_wp2_with fail
  refine (right_is _ _ false hb0 hb1 hRb _).mono ?_
  rintro e w6 ⟨rfl, hb⟩
  have BA := Lib.hid ((hb.block _ (World.block_lt_of_cell? _ _ (blk_cell BA.out 0 _ rfl))).trans BA.out)
  have BB := Lib.hid ((hb.block _ (World.block_lt_of_cell? _ _ (blk_cell BB.out 0 _ rfl))).trans BB.out)
  have HB := Lib.hid (below_step HB.out hb)
  clear hb x0 x1 y0 y1
  have x0 := blk_cell BA.out 0 (.float .f64 a0) rfl
  have x1 := blk_cell BA.out 1 (.float .f64 a1) rfl
  have y0 := blk_cell BB.out 0 (.float .f64 b0) rfl
  have y1 := blk_cell BB.out 1 (.float .f64 b1) rfl
  go_wp2_with (go_at_call 19; (with_reducible refine (fixed_calls _).mono ?_); rintro e w7 ⟨rfl, hB7⟩)
  go_ret
  exact ⟨rfl, below_step HB.out hB7⟩
theorem limitGrows_row (a b : Nat × Nat) (A : Option Addr) (len cap : Nat) (Z : List Int) (w : World) (ha : a.1 < 18446744073709551616 ∧ a.2 < 18446744073709551616) (hb : b.1 < 18446744073709551616 ∧ b.2 < 18446744073709551616) (hA : IntArg w .u16 A len Z) :
    Calls Try.prog 5 #[.agg #[.float .f64 a.1, .float .f64 a.2], .agg #[.float .f64 b.1, .float .f64 b.2], .slice A len cap] w fun e w' => e = .returned (.bool true) ∧ Below w.heap.size w w' := by
  cases hRa : rightB a.1 a.2 <;> cases hRb : rightB b.1 b.2 <;> cases hRo : rightB (lessF a.1 b.1) (lessF a.2 b.2)
  · exact w000 _ _ _ _ A len cap Z w ha.1 ha.2 hb.1 hb.2 hRa hRb hRo hA
  · exact w001 _ _ _ _ A len cap Z w ha.1 ha.2 hb.1 hb.2 hRa hRb hRo hA
  · exact w010 _ _ _ _ A len cap Z w ha.1 ha.2 hb.1 hb.2 hRa hRb hRo hA
  · exact w011 _ _ _ _ A len cap Z w ha.1 ha.2 hb.1 hb.2 hRa hRb hRo hA
  · exact w100 _ _ _ _ A len cap Z w ha.1 ha.2 hb.1 hb.2 hRa hRb hRo hA
  · exact w101 _ _ _ _ A len cap Z w ha.1 ha.2 hb.1 hb.2 hRa hRb hRo hA
  · have := less_right hRa hRb
    rw [hRo] at this
    cases this
  · exact w111 _ _ _ _ A len cap Z w ha.1 ha.2 hb.1 hb.2 hRa hRb hRo hA
end Go.Proofs.Ytijnncnglkjpgaa.LLimitGrows
