/- A new frame is put. -/
import Derived.Test.YtajflmpdpggcgaaFPut
import Derived.BigRegion
import Derived.Deep.DrawnRows
namespace Go.Proofs.Ytajflmpdpggcgaa.FPutNew
open Go.RowKit FMath FKey FRep FGet Go.Proofs.YtajflmpdpggcgaaW.PrintWords Go.Proofs.YtajflmpdpggcgaaW.PrintLast Go.Proofs.YtajflmpdpggcgaaW.PrintMore
theorem infoF : (Try.prog.info? 33).map (fun i => (i.zero, i.size, i.bytes)) = some (some (.agg #[.int .i64 0, .int .i64 0, .int .i64 0, .int .i64 0, .int .i64 0]), 5, 40) := by kernel_rfl
theorem infoI : (Try.prog.info? 3).map (fun i => (i.zero, i.size, i.bytes)) = some (some (.int .i64 0), 1, 8) := by kernel_rfl
theorem new_at (W : World) (o : Obj) (h : Nat) (e : W.heap.size = h) : (W.alloc o).heap[h]? = some o := by
  subst e
  exact heap_alloc_new W o
set_option linter.unusedVariables false
set_option linter.unusedSimpArgs false
/-- what is known behind both appends and both stores -/
theorem behind {w2 W V : World} {s bl bd m g1 cap1 g2 cap2 L cl cd : Nat} {most : Int} {xs' ys' : List Value} {o : Obj}
    (TW : Turned [bl] w2 W) (TV : Turned [bl, bd] w2 V) (hgrow2 : W.grownBy V (Value.slice (some ⟨bd, 0, none⟩) L cd).ownBlock)
    (ow : W.ownsRow 0 33 5 (.slice (some ⟨g1, 0, none⟩) (L + 1) cap1) (L + 1) xs') (od : V.ownsRow 0 3 1 (.slice (some ⟨g2, 0, none⟩) (L + 1) cap2) (L + 1) ys')
    (a1 : g1 = bl ∨ w2.heap.size ≤ g1) (hat2 : (Value.slice (some ⟨bd, 0, none⟩) L cd).ownBlock = some g2 ∨ g2 = W.heap.size)
    (hs : s < w2.heap.size) (hbl : bl < w2.heap.size) (hbd : bd < w2.heap.size) (hm : m < w2.heap.size)
    (n1 : s ≠ bl) (n2 : s ≠ bd) (n3 : s ≠ m) (n4 : bl ≠ bd) (n5 : bl ≠ m) (n6 : bd ≠ m)
    (hblk : V.heap[s]? = some (.cells #[.slice (some ⟨bl, 0, none⟩) L cl, .slice (some ⟨bd, 0, none⟩) L cd, .map (some m), .int .i64 most] 56 (0, 0)))
    (ho : w2.heap[m]? = some o) (V2 : World) (hV2 : V2 = (V.setCell ⟨s, 0, none⟩ (.slice (some ⟨g1, 0, none⟩) (L + 1) cap1)).setCell ⟨s, 1, none⟩ (.slice (some ⟨g2, 0, none⟩) (L + 1) cap2)) :
    V2.heap[s]? = some (.cells #[.slice (some ⟨g1, 0, none⟩) (L + 1) cap1, .slice (some ⟨g2, 0, none⟩) (L + 1) cap2, .map (some m), .int .i64 most] 56 (0, 0)) ∧
    V2.ownsRow 0 33 5 (.slice (some ⟨g1, 0, none⟩) (L + 1) cap1) (L + 1) xs' ∧ V2.ownsRow 0 3 1 (.slice (some ⟨g2, 0, none⟩) (L + 1) cap2) (L + 1) ys' ∧
    V2.heap[m]? = some o ∧ Turned [s, bl, bd] w2 V2 ∧ s ≠ g1 ∧ s ≠ g2 ∧ g1 ≠ g2 ∧ g1 ≠ m ∧ g2 ≠ m ∧ (g2 = bd ∨ w2.heap.size ≤ g2) := by
  have lg := (ow.lt g1 rfl).2
  have hg2 : g2 = bd ∨ g2 = W.heap.size := hat2.elim (fun h => .inl (Option.some.inj h).symm) .inr
  have hsz := TW.size
  have e1 : s ≠ g1 := by rcases a1 with h | h <;> omega
  have e2 : s ≠ g2 := by rcases hg2 with h | h <;> omega
  have e3 : g1 ≠ g2 := by rcases hg2 with h | h <;> rcases a1 with h' | h' <;> omega
  have e4 : g1 ≠ m := by rcases a1 with h | h <;> omega
  have e5 : g2 ≠ m := by rcases hg2 with h | h <;> omega
  have e6 : g1 ≠ bd := by rcases a1 with h | h <;> omega
  have T1 : Turned [s] V V2 := by
    rw [hV2]
    exact (Turned.set V ⟨s, 0, none⟩ _).trans (Turned.set _ ⟨s, 1, none⟩ _) (fun x hx => .inl hx)
  have T2 : Turned [s, bl, bd] w2 V2 := (TV.wider (G := [s, bl, bd]) (fun x hx => by simp at hx ⊢; rcases hx with h | h <;> simp [h])).trans T1 (fun x hx => .inl (by simp at hx; simp [hx]))
  refine ⟨?_, ownsRow_turned T1 (ownsRow_turned (Turned.of_grown hgrow2) ow (by simpa using e6)) (by simpa using Ne.symm e1), ownsRow_turned T1 od (by simpa using Ne.symm e2), T2.keeps ho (by simp; omega), T2, e1, e2, e3, e4, e5, ?_⟩
  · rw [hV2]
    exact set_blk (set_blk hblk _) _
  · rcases hg2 with h | h <;> omega
attribute [local go_sem ↓] Go.wp_at_zero Go.wp_at_succ
set_option maxRecDepth 100000 in
set_option maxHeartbeats 6400000 in
theorem new_walk (w : World) (s : Nat) (k n t f : Int) (j : Nat) (most d : Int) (L bl cl bd cd m : Nat) (xs ys : List Value) (o o' : Obj) (ho : w.heap[m]? = some o)
    (hup : ∀ W, W.heap[m]? = some o → (Instr.mapUpdate 54 (.map (some m)) (.agg #[.int .i64 k, .int .i64 n, .int .i64 t, .int .i64 f, .int .i64 j]) (.int .i64 L)).run Try.prog W = .ok () (ChangeMaps.setBlock W m o'))
    (hc : ∀ W, Below w.heap.size w W → Calls Try.prog 19 #[.pointer (some ⟨s, 0, none⟩), .int .i64 j] W fun e w' => e = .returned (.bool true) ∧ w' = W)
    (h1 : 1 ≤ k) (h2 : k ≤ 3) (h3 : 0 ≤ n) (h4 : 0 ≤ t) (h5 : 0 ≤ f)
    (blk : w.heap[s]? = some (.cells #[.slice (some ⟨bl, 0, none⟩) L cl, .slice (some ⟨bd, 0, none⟩) L cd, .map (some m), .int .i64 most] 56 (0, 0))) (hL : L ≤ 2000000) (hr : L ≤ most)
    (hj0 : (0 : Int) ≤ (j : Int)) (hj1 : (j : Int) < (L : Int)) (hdv : w.cell? ⟨bd, j, none⟩ = some (.int .i64 d)) (hd0 : 0 ≤ d) (hd1 : d ≤ 2000000)
    (ol : w.ownsRow 0 33 5 (.slice (some ⟨bl, 0, none⟩) L cl) L xs) (od : w.ownsRow 0 3 1 (.slice (some ⟨bd, 0, none⟩) L cd) L ys)
    (n1 : s ≠ bl) (n2 : s ≠ bd) (n3 : s ≠ m) (n4 : bl ≠ bd) (n5 : bl ≠ m) (n6 : bd ≠ m)
    (hl : ∀ W, Below w.heap.size w W → (Instr.lookup 54 (.map (some m)) (.agg #[.int .i64 k, .int .i64 n, .int .i64 t, .int .i64 f, .int .i64 j]) true).run Try.prog W = .ok (.tuple #[.int .i64 0, .bool false]) W) :
    Calls Try.prog 10 #[.pointer (some ⟨s, 0, none⟩), .agg #[.int .i64 k, .int .i64 n, .int .i64 t, .int .i64 f, .int .i64 j]] w fun e w' => e = .returned (.tuple #[.int .i64 L, .int .i64 0]) ∧ ∃ g1 cap1 g2 cap2,
      w'.heap[s]? = some (.cells #[.slice (some ⟨g1, 0, none⟩) (L + 1) cap1, .slice (some ⟨g2, 0, none⟩) (L + 1) cap2, .map (some m), .int .i64 most] 56 (0, 0)) ∧
      w'.ownsRow 0 33 5 (.slice (some ⟨g1, 0, none⟩) (L + 1) cap1) (L + 1) (xs ++ [.int .i64 k, .int .i64 n, .int .i64 t, .int .i64 f, .int .i64 j]) ∧
      w'.ownsRow 0 3 1 (.slice (some ⟨g2, 0, none⟩) (L + 1) cap2) (L + 1) (ys ++ [.int .i64 (wrap64 (d + 1))]) ∧
      w'.heap[m]? = some o' ∧ Turned [s, bl, bd, m] w w' ∧ s ≠ g1 ∧ s ≠ g2 ∧ g1 ≠ g2 ∧ g1 ≠ m ∧ g2 ≠ m ∧ (g1 = bl ∨ w.heap.size ≤ g1) ∧ (g2 = bd ∨ w.heap.size ≤ g2) := by
  have hk : (k == 0) = false := by simp; omega
  have HC := Lib.hid hc
  clear hc
  obtain ⟨q, hq, hmin⟩ : ∃ q : Int, 0 ≤ q ∧ ∀ ats ty, Builtin.min_ ats ty #[.int .i64 n, .int .i64 t, .int .i64 f] = pure (.int .i64 q) := by
    refine ⟨min (min n t) f, by omega, fun ats ty => ?_⟩
    rw [min_three, min2_int]
    simp only [pure_bind, min2_int]
    congr 2
    split <;> split <;> omega
  have c0 := blk_cell blk 0 _ rfl
  have c1 := blk_cell blk 1 _ rfl
  have c2 := blk_cell blk 2 _ rfl
  have c3 := blk_cell blk 3 _ rfl
  have ls := World.block_lt_of_cell? w _ c2
  have lm := lt_of_blk ho
  have lbd := (od.lt bd rfl).2
  have lbl := (ol.lt bl rfl).2
  have hl := hl (w.alloc (.cells #[.int .i64 k, .int .i64 n, .int .i64 t, .int .i64 f, .int .i64 j] 33)).drew ((Below.refl _ _).alloc (Nat.le_refl _) _).drew
  have N1 := Lib.hid n1
  have N2 := Lib.hid n2
  have N3 := Lib.hid n3
  have N4 := Lib.hid n4
  have N5 := Lib.hid n5
  have N6 := Lib.hid n6
  clear n1 n2 n3 n4 n5 n6
  have OL := Lib.hid ol
  have OD := Lib.hid od
  clear ol od
  go_enter Try.func10, Try.ntmps10
  go_wp2_with (go_at_call 19; refine (HC.out _ ((Below.refl _ _).alloc (Nat.le_refl _) _)).mono ?_; rintro e w' ⟨rfl, rfl⟩)
  have b0 : (w.alloc (.cells #[.int .i64 k, .int .i64 n, .int .i64 t, .int .i64 f, .int .i64 j] 33)).heap[w.heap.size]? = some (.cells #[.int .i64 k, .int .i64 n, .int .i64 t, .int .i64 f, .int .i64 j] 33 (0, 0)) := heap_alloc_new w _
  have e0 := blk_cell b0 0 _ rfl
  have e1 := blk_cell b0 1 _ rfl
  have e2 := blk_cell b0 2 _ rfl
  have e3 := blk_cell b0 3 _ rfl
  have e4 := blk_cell b0 4 _ rfl
  have up : ∀ a : Addr, a.block < w.heap.size → (w.alloc (.cells #[.int .i64 k, .int .i64 n, .int .i64 t, .int .i64 f, .int .i64 j] 33)).cell? a = w.cell? a := fun a ha => World.cell?_of_block (Below.heap_alloc w _ a.block ha)
  have c0' := (up ⟨s, 0, none⟩ ls).trans c0
  have c1' := (up ⟨s, 1, none⟩ ls).trans c1
  have c2' := (up ⟨s, 2, none⟩ ls).trans c2
  have c3' := (up ⟨s, 3, none⟩ ls).trans c3
  have cd' := (up ⟨bd, j, none⟩ lbd).trans hdv
  have BLK := Lib.hid ((Below.heap_alloc w (.cells #[.int .i64 k, .int .i64 n, .int .i64 t, .int .i64 f, .int .i64 j] 33) s ls).trans blk)
  clear c0 c1 c2 c3 hdv b0 up blk
  clear HC hmin
  have hB : Below w.heap.size w (w.alloc (.cells #[.int .i64 k, .int .i64 n, .int .i64 t, .int .i64 f, .int .i64 j] 33)) := (Below.refl _ _).alloc (Nat.le_refl _) _
  have HB := Lib.hid hB
  clear hB
  have HQ := Lib.hid hq
  clear hq
  have OL1 := Lib.hid (World.ownsRow.alloc OL.out (.cells #[.int .i64 k, .int .i64 n, .int .i64 t, .int .i64 f, .int .i64 j] 33))
  have OD1 := Lib.hid (World.ownsRow.alloc OD.out (.cells #[.int .i64 k, .int .i64 n, .int .i64 t, .int .i64 f, .int .i64 j] 33))
  clear OL OD
  generalize (w.alloc (.cells #[.int .i64 k, .int .i64 n, .int .i64 t, .int .i64 f, .int .i64 j] 33)) = w1 at *
  go_region_held3 (fun w' => w'.cell? ⟨s, 2, none⟩ = some (.map (some m)) ∧ w'.cell? ⟨w.heap.size, 0, none⟩ = some (.int .i64 k) ∧ w'.cell? ⟨w.heap.size, 1, none⟩ = some (.int .i64 n) ∧ w'.cell? ⟨w.heap.size, 2, none⟩ = some (.int .i64 t) ∧ w'.cell? ⟨w.heap.size, 3, none⟩ = some (.int .i64 f) ∧ w'.cell? ⟨w.heap.size, 4, none⟩ = some (.int .i64 j) ∧ (Instr.lookup 54 (.map (some m)) (.agg #[.int .i64 k, .int .i64 n, .int .i64 t, .int .i64 f, .int .i64 j]) true).run Try.prog w' = .ok (.tuple #[.int .i64 0, .bool false]) w')
    (go_keep) (fail)
  go_wp2
  clear hl
  obtain ⟨i1, hi1, hz1, hz2, hz3⟩ := info_parts infoF
  obtain ⟨i2, hi2, hy1, hy2, hy3⟩ := info_parts infoI
  have I1 := Lib.hid hi1
  have Z1 := Lib.hid hz1
  have Z2 := Lib.hid hz2
  have Z3 := Lib.hid hz3
  have I2 := Lib.hid hi2
  have Y1 := Lib.hid hy1
  have Y2 := Lib.hid hy2
  have Y3 := Lib.hid hy3
  clear hi1 hz1 hz2 hz3 hi2 hy1 hy2 hy3
  have HO := Lib.hid (show w1.drew.heap[m]? = some o from (HB.out.block m lm).trans ho)
  have HUP := Lib.hid hup
  clear ho hup
  have LM := Lib.hid (show m < w1.drew.heap.size from Nat.lt_of_lt_of_le lm HB.out.size)
  have LS := Lib.hid (show s < w1.drew.heap.size from Nat.lt_of_lt_of_le ls HB.out.size)
  have LD := Lib.hid (show bd < w1.drew.heap.size from Nat.lt_of_lt_of_le lbd HB.out.size)
  have LB := Lib.hid (show bl < w1.drew.heap.size from Nat.lt_of_lt_of_le lbl HB.out.size)
  have LQ := Lib.hid (show w.heap.size < w1.drew.heap.size from World.block_lt_of_cell? w1 _ e0)
  have NS := Lib.hid (show s ≠ bl from N1.out)
  have NQ := Lib.hid (show w.heap.size ≠ bl by omega)
  have ND := Lib.hid (show bd ≠ bl from Ne.symm N4.out)
  have NB := Lib.hid (show bd ≠ bl from Ne.symm N4.out)
  have NV := Lib.hid (show s ≠ bl ∧ s ≠ bd from ⟨N1.out, N2.out⟩)
  have Z0 := Lib.hid (show w1.drew.cell? ⟨s, 0, none⟩ = _ from c0')
  have ZZ1 := Lib.hid (show w1.drew.cell? ⟨s, 1, none⟩ = _ from c1')
  have ZZ2 := Lib.hid (show w1.drew.cell? ⟨s, 2, none⟩ = _ from c2')
  have YY0 := Lib.hid (show w1.drew.cell? ⟨w.heap.size, 0, none⟩ = some (.int .i64 k) from e0)
  have YY1 := Lib.hid (show w1.drew.cell? ⟨w.heap.size, 1, none⟩ = some (.int .i64 n) from e1)
  have YY2 := Lib.hid (show w1.drew.cell? ⟨w.heap.size, 2, none⟩ = some (.int .i64 t) from e2)
  have YY3 := Lib.hid (show w1.drew.cell? ⟨w.heap.size, 3, none⟩ = some (.int .i64 f) from e3)
  have YY4 := Lib.hid (show w1.drew.cell? ⟨w.heap.size, 4, none⟩ = some (.int .i64 j) from e4)
  have ZD := Lib.hid (show w1.drew.cell? ⟨bd, j, none⟩ = _ from cd')
  have Z6 := Lib.hid (show w1.drew.heap[s]? = _ from BLK.out)
  have OLL := Lib.hid (show w1.drew.ownsRow _ _ _ _ _ _ from OL1.out)
  have ODD := Lib.hid (show w1.drew.ownsRow _ _ _ _ _ _ from OD1.out)
  have HB2 := Lib.hid HB.out.drew
  clear e0 e1 e2 e3 e4 c0' c1' c2' c3' cd' BLK OL1 OD1 HB
  generalize w1.drew = w2 at *
  have LL := Lib.hid hl
  clear hl
  generalize hq0 : w.heap.size = q0 at *
  have T0 : Turned [bl] w2 w2.drew := ⟨rfl, rfl, rfl, Nat.le_refl _, fun _ _ _ => rfl⟩
  have OL0 : w2.drew.ownsRow _ _ _ _ _ _ := OLL.out
  have OD0 := ODD.out
  have z0 := Z0.out
  have z1 := ZZ1.out
  have y0 := YY0.out
  have y1 := YY1.out
  have y2 := YY2.out
  have y3 := YY3.out
  have y4 := YY4.out
  have zd := ZD.out
  have z6 := Z6.out
  refine start_ (n := 30) (S := fun w' => w'.cell? ⟨s, 0, none⟩ = some (.slice (some ⟨bl, 0, none⟩) L cl) ∧ w'.cell? ⟨s, 1, none⟩ = some (.slice (some ⟨bd, 0, none⟩) L cd) ∧ w'.cell? ⟨q0, 0, none⟩ = some (.int .i64 k) ∧ w'.cell? ⟨q0, 1, none⟩ = some (.int .i64 n) ∧ w'.cell? ⟨q0, 2, none⟩ = some (.int .i64 t) ∧ w'.cell? ⟨q0, 3, none⟩ = some (.int .i64 f) ∧ w'.cell? ⟨q0, 4, none⟩ = some (.int .i64 j) ∧ w'.cell? ⟨bd, j, none⟩ = some (.int .i64 d)) (ds := [23, 26, 29]) #[false, false, false, false, false, false, false, false, false, false, false, false, false, false, false, false, false, false, false, false, false, false, false, false, false, false, false, false, false, false] (by kernel_rfl) rfl rfl ⟨z0, z1, y0, y1, y2, y3, y4, zd⟩ (fun hHeld => ?_)
  refine pure_ (i := 0) (N := some 61) (v := ?_) (a' := ?_) #[true, false, false, false, false, false, false, false, false, false, false, false, false, false, false, false, false, false, false, false, false, false, false, false, false, false, false, false, false, false] rfl rfl (by kernel_rfl) (fun _ _ _ h => h) (Or.inl ⟨by rfl, ?_⟩) ?_ ?_
  rotate_left
  · intro w'
    go_simp
    with_reducible rfl
  rotate_left
  · simp only [Act.put, List.setIfInBounds_toArray, List.set_cons_zero, List.set_cons_succ, i64_w, i32_w]
    rfl
  refine pure_ (i := 1) (N := some 62) (v := ?_) (a' := ?_) #[true, true, false, false, false, false, false, false, false, false, false, false, false, false, false, false, false, false, false, false, false, false, false, false, false, false, false, false, false, false] rfl rfl (by kernel_rfl) (fun _ _ _ h => h) (Or.inl ⟨by rfl, ?_⟩) ?_ ?_
  rotate_left
  · intro w'
    go_simp
    with_reducible rfl
  rotate_left
  · simp only [Act.put, List.setIfInBounds_toArray, List.set_cons_zero, List.set_cons_succ, i64_w, i32_w]
    rfl
  refine pure_ (i := 2) (N := some 63) (v := ?_) (a' := ?_) #[true, true, true, false, false, false, false, false, false, false, false, false, false, false, false, false, false, false, false, false, false, false, false, false, false, false, false, false, false, false] rfl rfl (by kernel_rfl) (fun _ _ _ h => h) (Or.inl ⟨by rfl, ?_⟩) ?_ ?_
  rotate_left
  · intro w'
    go_simp
    with_reducible rfl
  rotate_left
  · simp only [Act.put, List.setIfInBounds_toArray, List.set_cons_zero, List.set_cons_succ, i64_w, i32_w]
    rfl
  refine pure_ (i := 3) (N := some 64) (v := ?_) (a' := ?_) #[true, true, true, true, false, false, false, false, false, false, false, false, false, false, false, false, false, false, false, false, false, false, false, false, false, false, false, false, false, false] rfl rfl (by kernel_rfl) (fun _ _ _ h => h) (Or.inl ⟨by rfl, ?_⟩) ?_ ?_
  rotate_left
  · intro w'
    go_simp
    with_reducible rfl
  rotate_left
  · simp only [Act.put, List.setIfInBounds_toArray, List.set_cons_zero, List.set_cons_succ, i64_w, i32_w]
    rfl
  refine pure_ (i := 4) (N := some 65) (v := ?_) (a' := ?_) #[true, true, true, true, true, false, false, false, false, false, false, false, false, false, false, false, false, false, false, false, false, false, false, false, false, false, false, false, false, false] rfl rfl (by kernel_rfl) (fun _ _ _ h => h) (Or.inl ⟨by rfl, ?_⟩) ?_ ?_
  rotate_left
  · intro w'
    go_simp
    with_reducible rfl
  rotate_left
  · simp only [Act.put, List.setIfInBounds_toArray, List.set_cons_zero, List.set_cons_succ, i64_w, i32_w]
    rfl
  refine pure_ (i := 9) (N := some 70) (v := ?_) (a' := ?_) #[true, true, true, true, true, false, false, false, false, true, false, false, false, false, false, false, false, false, false, false, false, false, false, false, false, false, false, false, false, false] rfl rfl (by kernel_rfl) (fun _ _ _ h => h) (Or.inl ⟨by rfl, ?_⟩) ?_ ?_
  rotate_left
  · intro w'
    go_simp
    with_reducible rfl
  rotate_left
  · simp only [Act.put, List.setIfInBounds_toArray, List.set_cons_zero, List.set_cons_succ, i64_w, i32_w]
    rfl
  refine pure_ (i := 10) (N := some 71) (v := ?_) (a' := ?_) #[true, true, true, true, true, false, false, false, false, true, true, false, false, false, false, false, false, false, false, false, false, false, false, false, false, false, false, false, false, false] rfl rfl (by kernel_rfl) (fun _ _ _ h => h) (Or.inl ⟨by rfl, ?_⟩) ?_ ?_
  rotate_left
  · intro w'
    go_simp
    with_reducible rfl
  rotate_left
  · simp only [Act.put, List.setIfInBounds_toArray, List.set_cons_zero, List.set_cons_succ, i64_w, i32_w]
    rfl
  refine pure_ (i := 11) (N := some 72) (v := ?_) (a' := ?_) #[true, true, true, true, true, false, false, false, false, true, true, true, false, false, false, false, false, false, false, false, false, false, false, false, false, false, false, false, false, false] rfl rfl (by kernel_rfl) (fun _ _ _ h => h) (Or.inl ⟨by rfl, ?_⟩) ?_ ?_
  rotate_left
  · intro w'
    go_simp
    with_reducible rfl
  rotate_left
  · simp only [Act.put, List.setIfInBounds_toArray, List.set_cons_zero, List.set_cons_succ, i64_w, i32_w]
    rfl
  refine pure_ (i := 13) (N := some 74) (v := ?_) (a' := ?_) #[true, true, true, true, true, false, false, false, false, true, true, true, false, true, false, false, false, false, false, false, false, false, false, false, false, false, false, false, false, false] rfl rfl (by kernel_rfl) (fun _ _ _ h => h) (Or.inl ⟨by rfl, ?_⟩) ?_ ?_
  rotate_left
  · intro w'
    go_simp
    with_reducible rfl
  rotate_left
  · simp only [Act.put, List.setIfInBounds_toArray, List.set_cons_zero, List.set_cons_succ, i64_w, i32_w]
    rfl
  refine pure_ (i := 14) (N := some 75) (v := ?_) (a' := ?_) #[true, true, true, true, true, false, false, false, false, true, true, true, false, true, true, false, false, false, false, false, false, false, false, false, false, false, false, false, false, false] rfl rfl (by kernel_rfl) (fun _ _ _ h => h) (Or.inl ⟨by rfl, ?_⟩) ?_ ?_
  rotate_left
  · intro w'
    go_simp
    with_reducible rfl
  rotate_left
  · simp only [Act.put, List.setIfInBounds_toArray, List.set_cons_zero, List.set_cons_succ, i64_w, i32_w]
    rfl
  refine pure_ (i := 15) (N := some 76) (v := ?_) (a' := ?_) #[true, true, true, true, true, false, false, false, false, true, true, true, false, true, true, true, false, false, false, false, false, false, false, false, false, false, false, false, false, false] rfl rfl (by kernel_rfl) (fun _ _ _ h => h) (Or.inl ⟨by rfl, ?_⟩) ?_ ?_
  rotate_left
  · intro w'
    go_simp
    with_reducible rfl
  rotate_left
  · simp only [Act.put, List.setIfInBounds_toArray, List.set_cons_zero, List.set_cons_succ, i64_w, i32_w]
    rfl
  refine pure_ (i := 17) (N := some 78) (v := ?_) (a' := ?_) #[true, true, true, true, true, false, false, false, false, true, true, true, false, true, true, true, false, true, false, false, false, false, false, false, false, false, false, false, false, false] rfl rfl (by kernel_rfl) (fun _ _ _ h => h) (Or.inl ⟨by rfl, ?_⟩) ?_ ?_
  rotate_left
  · intro w'
    go_simp
    with_reducible rfl
  rotate_left
  · simp only [Act.put, List.setIfInBounds_toArray, List.set_cons_zero, List.set_cons_succ, i64_w, i32_w]
    rfl
  refine take_ (i := 5) (N := some 66) (v := ?_) (a' := ?_) #[true, true, true, true, true, true, false, false, false, true, true, true, false, true, true, true, false, true, false, false, false, false, false, false, false, false, false, false, false, false] rfl rfl (by kernel_rfl) (fun _ _ _ h => h) (Or.inl ⟨by rfl, ?_⟩) hHeld ?_ ?_
  rotate_left
  · rintro w' ⟨s0, s1, s2, s3, s4, s5, s6, s7⟩
    go_simp
    with_reducible rfl
  rotate_left
  · simp only [Act.put, List.setIfInBounds_toArray, List.set_cons_zero, List.set_cons_succ, i64_w, i32_w]
    rfl
  refine take_ (i := 6) (N := some 67) (v := ?_) (a' := ?_) #[true, true, true, true, true, true, true, false, false, true, true, true, false, true, true, true, false, true, false, false, false, false, false, false, false, false, false, false, false, false] rfl rfl (by kernel_rfl) (fun _ _ _ h => h) (Or.inl ⟨by rfl, ?_⟩) hHeld ?_ ?_
  rotate_left
  · rintro w' ⟨s0, s1, s2, s3, s4, s5, s6, s7⟩
    go_simp
    with_reducible rfl
  rotate_left
  · simp only [Act.put, List.setIfInBounds_toArray, List.set_cons_zero, List.set_cons_succ, i64_w, i32_w]
    rfl
  refine take_ (i := 12) (N := some 73) (v := ?_) (a' := ?_) #[true, true, true, true, true, true, true, false, false, true, true, true, true, true, true, true, false, true, false, false, false, false, false, false, false, false, false, false, false, false] rfl rfl (by kernel_rfl) (fun _ _ _ h => h) (Or.inl ⟨by rfl, ?_⟩) hHeld ?_ ?_
  rotate_left
  · rintro w' ⟨s0, s1, s2, s3, s4, s5, s6, s7⟩
    go_simp
    with_reducible rfl
  rotate_left
  · simp only [Act.put, List.setIfInBounds_toArray, List.set_cons_zero, List.set_cons_succ, i64_w, i32_w]
    rfl
  refine take_ (i := 16) (N := some 77) (v := ?_) (a' := ?_) #[true, true, true, true, true, true, true, false, false, true, true, true, true, true, true, true, true, true, false, false, false, false, false, false, false, false, false, false, false, false] rfl rfl (by kernel_rfl) (fun _ _ _ h => h) (Or.inl ⟨by rfl, ?_⟩) hHeld ?_ ?_
  rotate_left
  · rintro w' ⟨s0, s1, s2, s3, s4, s5, s6, s7⟩
    go_simp
    with_reducible rfl
  rotate_left
  · simp only [Act.put, List.setIfInBounds_toArray, List.set_cons_zero, List.set_cons_succ, i64_w, i32_w]
    rfl
  refine take_ (i := 18) (N := some 79) (v := ?_) (a' := ?_) #[true, true, true, true, true, true, true, false, false, true, true, true, true, true, true, true, true, true, true, false, false, false, false, false, false, false, false, false, false, false] rfl rfl (by kernel_rfl) (fun _ _ _ h => h) (Or.inl ⟨by rfl, ?_⟩) hHeld ?_ ?_
  rotate_left
  · rintro w' ⟨s0, s1, s2, s3, s4, s5, s6, s7⟩
    go_simp
    with_reducible rfl
  rotate_left
  · simp only [Act.put, List.setIfInBounds_toArray, List.set_cons_zero, List.set_cons_succ, i64_w, i32_w]
    rfl
  refine pure_ (i := 19) (N := some 80) (v := ?_) (a' := ?_) #[true, true, true, true, true, true, true, false, false, true, true, true, true, true, true, true, true, true, true, true, false, false, false, false, false, false, false, false, false, false] rfl rfl (by kernel_rfl) (fun _ _ _ h => h) (Or.inl ⟨by rfl, ?_⟩) ?_ ?_
  rotate_left
  · intro w'
    go_simp
    with_reducible rfl
  rotate_left
  · simp only [Act.put, List.setIfInBounds_toArray, List.set_cons_zero, List.set_cons_succ, i64_w, i32_w]
    rfl
  refine take_ (i := 20) (N := some 81) (v := ?_) (a' := ?_) #[true, true, true, true, true, true, true, false, false, true, true, true, true, true, true, true, true, true, true, true, true, false, false, false, false, false, false, false, false, false] rfl rfl (by kernel_rfl) (fun _ _ _ h => h) (Or.inl ⟨by rfl, ?_⟩) hHeld ?_ ?_
  rotate_left
  · rintro w' ⟨s0, s1, s2, s3, s4, s5, s6, s7⟩
    go_simp
    with_reducible rfl
  rotate_left
  · simp only [Act.put, List.setIfInBounds_toArray, List.set_cons_zero, List.set_cons_succ, i64_w, i32_w]
    rfl
  refine pure_ (i := 21) (N := some 82) (v := ?_) (a' := ?_) #[true, true, true, true, true, true, true, false, false, true, true, true, true, true, true, true, true, true, true, true, true, true, false, false, false, false, false, false, false, false] rfl rfl (by kernel_rfl) (fun _ _ _ h => h) (Or.inl ⟨by rfl, ?_⟩) ?_ ?_
  rotate_left
  · intro w'
    go_simp
    with_reducible rfl
  rotate_left
  · simp only [Act.put, List.setIfInBounds_toArray, List.set_cons_zero, List.set_cons_succ, i64_w, i32_w]
    rfl
  refine join_ (σ := Nat × Nat × Nat × Nat) 7 #[true, true, true, true, true, true, true, true, true, true, true, true, true, true, true, true, true, true, true, true, true, true, true, false, false, false, false, false, false, false] (fun s => [(68, .slice (some ⟨s.1, 0, none⟩) 1 1), (69, .slice (some ⟨s.2.1, 0, none⟩) (L + 1) s.2.2.1), (83, .slice (some ⟨s.2.2.2, 0, none⟩) 1 1)]) (fun s w' => Turned [bl] w2 w' ∧ w'.ownsRow 0 33 5 (.slice (some ⟨s.2.1, 0, none⟩) (L + 1) s.2.2.1) (L + 1) (xs ++ [.int .i64 k, .int .i64 n, .int .i64 t, .int .i64 f, .int .i64 j]) ∧ w'.heap[s.2.2.2]? = some (.cells #[.int .i64 (wrap64 (d + 1))] 3 (0, 0)) ∧ (s.2.1 = bl ∨ w2.heap.size ≤ s.2.1) ∧ w2.heap.size ≤ s.2.2.2 ∧ s.2.1 ≠ s.2.2.2) ?_ ?_
  rotate_left
  · intro hCont
    refine two_ (i := 7) (j := 22) (Ni := some 68) (Nj := some 83) #[true, true, true, true, true, true, true, true, false, true, true, true, true, true, true, true, true, true, true, true, true, true, false, false, false, false, false, false, false, false] #[true, true, true, true, true, true, true, false, false, true, true, true, true, true, true, true, true, true, true, true, true, true, true, false, false, false, false, false, false, false] rfl rfl rfl rfl (by kernel_rfl) (by decide) (by decide) (fun K hK => ?_) (fun K hK => ?_)
    · skip
      refine value_ (w1 := ?_) (v := ?_) (by rfl) rfl ?_ ?_
      rotate_left 2
      · go_simp
        constructor
        · rfl
        · rfl
      refine letter_ ?_
      intro W7 hW7
      have T7 : Turned [bl] w2 W7 := by rw [hW7]; exact T0.trans (Turned.of_below (F := [bl]) ((Below.refl _ _).alloc (Nat.le_refl _) _)) (fun x hx => .inl hx)
      have B7 : W7.heap[w2.drew.heap.size]? = some (.cells #[.int .i64 k, .int .i64 n, .int .i64 t, .int .i64 f, .int .i64 j] 33 (0, 0)) := by rw [hW7]; exact heap_alloc_new _ _
      have OL7 : W7.ownsRow 0 33 5 (.slice (some ⟨bl, 0, none⟩) L cl) L xs := by rw [hW7]; exact World.ownsRow.alloc OL0 _
      clear hW7
      refine hK.out _ _ ⟨(T7.cell _ LS.out (by simpa using NS.out) z0), (T7.cell _ LS.out (by simpa using NS.out) z1), (T7.cell _ LQ.out (by simpa using NQ.out) y0), (T7.cell _ LQ.out (by simpa using NQ.out) y1), (T7.cell _ LQ.out (by simpa using NQ.out) y2), (T7.cell _ LQ.out (by simpa using NQ.out) y3), (T7.cell _ LQ.out (by simpa using NQ.out) y4), (T7.cell _ LD.out (by simpa using ND.out) zd)⟩ (fun hHeld => ?_)
      clear hK K
      refine norm_ (a' := ?_) ?_ ?_
      rotate_left
      · show Act.put _ (some 68) _ = _
        simp only [Act.put, List.setIfInBounds_toArray, List.set_cons_zero, List.set_cons_succ, i64_w, i32_w]
        rfl
      refine two_ (i := 8) (j := 22) (Ni := some 69) (Nj := some 83) #[true, true, true, true, true, true, true, true, true, true, true, true, true, true, true, true, true, true, true, true, true, true, false, false, false, false, false, false, false, false] #[true, true, true, true, true, true, true, true, false, true, true, true, true, true, true, true, true, true, true, true, true, true, true, false, false, false, false, false, false, false] rfl rfl rfl rfl (by kernel_rfl) (by decide) (by decide) (fun K hK => ?_) (fun K hK => ?_)
      · skip
        refine step_append_lies _ (by rfl) (.tmp 66) (.tmp 68) _ (by rfl) 0 33 i1 _ 5 40 Try.underlying22 I1.out Z1.out Z2.out Z3.out rfl (by omega) (.slice (some ⟨bl, 0, none⟩) L cl) L xs (by rfl) OL7 _ 1 1 [.int .i64 k, .int .i64 n, .int .i64 t, .int .i64 f, .int .i64 j] (by rfl) (by rfl) (World.news_of_block (cs := #[.int .i64 k, .int .i64 n, .int .i64 t, .int .i64 f, .int .i64 j]) (t := 33) (fr := (0, 0)) B7) (by simp [Value.oneCell']) (by omega) (by unfold maxLen; omega) (by omega) (Nat.zero_le _) _ rfl ?_
        intro g1 cap1 W8 hown1 hgrow1 hat1 hlt1
        have T8 : Turned [bl] w2 W8 := T7.trans (Turned.of_grown hgrow1) (fun x hx => .inl (by simpa using hx))
        refine hK.out _ _ ⟨(T8.cell _ LS.out (by simpa using NS.out) z0), (T8.cell _ LS.out (by simpa using NS.out) z1), (T8.cell _ LQ.out (by simpa using NQ.out) y0), (T8.cell _ LQ.out (by simpa using NQ.out) y1), (T8.cell _ LQ.out (by simpa using NQ.out) y2), (T8.cell _ LQ.out (by simpa using NQ.out) y3), (T8.cell _ LQ.out (by simpa using NQ.out) y4), (T8.cell _ LD.out (by simpa using ND.out) zd)⟩ (fun hHeld => ?_)
        clear hK K
        refine norm_ (a' := ?_) ?_ ?_
        rotate_left
        · show Act.put _ (some 69) _ = _
          simp only [Act.put, List.setIfInBounds_toArray, List.set_cons_zero, List.set_cons_succ, i64_w, i32_w]
          rfl
        refine one_ (i := 22) (N := some 83) #[true, true, true, true, true, true, true, true, true, true, true, true, true, true, true, true, true, true, true, true, true, true, true, false, false, false, false, false, false, false] rfl rfl (by kernel_rfl) (by decide) (fun K hK => ?_)
        refine value_ (w1 := ?_) (v := ?_) (by rfl) rfl ?_ ?_
        rotate_left 2
        · go_simp
          constructor
          · rfl
          · rfl
        refine letter_ ?_
        intro W22 hW22
        have T22 : Turned [bl] w2 W22 := by rw [hW22]; exact T8.trans (Turned.of_below (F := [bl]) ((Below.refl _ _).alloc (Nat.le_refl _) _)) (fun x hx => .inl hx)
        have B22 : W22.heap[W8.heap.size]? = some (.cells #[.int .i64 (wrap64 (d + 1))] 3 (0, 0)) := by rw [hW22]; exact heap_alloc_new _ _
        have ON22 : W22.ownsRow 0 33 5 (.slice (some ⟨g1, 0, none⟩) (L + 1) cap1) (L + 1) (xs ++ [.int .i64 k, .int .i64 n, .int .i64 t, .int .i64 f, .int .i64 j]) := by rw [hW22]; exact World.ownsRow.alloc hown1 _
        clear hW22
        refine hK.out _ _ ⟨(T22.cell _ LS.out (by simpa using NS.out) z0), (T22.cell _ LS.out (by simpa using NS.out) z1), (T22.cell _ LQ.out (by simpa using NQ.out) y0), (T22.cell _ LQ.out (by simpa using NQ.out) y1), (T22.cell _ LQ.out (by simpa using NQ.out) y2), (T22.cell _ LQ.out (by simpa using NQ.out) y3), (T22.cell _ LQ.out (by simpa using NQ.out) y4), (T22.cell _ LD.out (by simpa using ND.out) zd)⟩ (fun hHeld => ?_)
        clear hK K
        refine norm_ (a' := ?_) ?_ ?_
        rotate_left
        · show Act.put _ (some 83) _ = _
          simp only [Act.put, List.setIfInBounds_toArray, List.set_cons_zero, List.set_cons_succ, i64_w, i32_w]
          rfl
        exact norm_ (by simp only [putAll, Act.put, List.setIfInBounds_toArray, List.set_cons_zero, List.set_cons_succ]) (hCont (w2.heap.size, g1, cap1, W8.heap.size) _ ⟨T22, ON22, B22, (hat1.elim (fun h => .inl (Option.some.inj h).symm) (fun h => .inr (by rw [h]; exact T7.size))), T8.size, (show g1 ≠ W8.heap.size from Nat.ne_of_lt hlt1)⟩)
      · skip
        refine value_ (w1 := ?_) (v := ?_) (by rfl) rfl ?_ ?_
        rotate_left 2
        · go_simp
          constructor
          · rfl
          · rfl
        refine letter_ ?_
        intro W22 hW22
        have T22 : Turned [bl] w2 W22 := by rw [hW22]; exact T7.trans (Turned.of_below (F := [bl]) ((Below.refl _ _).alloc (Nat.le_refl _) _)) (fun x hx => .inl hx)
        have B22 : W22.heap[W7.heap.size]? = some (.cells #[.int .i64 (wrap64 (d + 1))] 3 (0, 0)) := by rw [hW22]; exact heap_alloc_new _ _
        have OL22 : W22.ownsRow 0 33 5 (.slice (some ⟨bl, 0, none⟩) L cl) L xs := by rw [hW22]; exact World.ownsRow.alloc OL7 _
        have C22 : W22.heap[w2.drew.heap.size]? = some (.cells #[.int .i64 k, .int .i64 n, .int .i64 t, .int .i64 f, .int .i64 j] 33 (0, 0)) := by rw [hW22]; exact blk_alloc B7 _
        clear hW22
        refine hK.out _ _ ⟨(T22.cell _ LS.out (by simpa using NS.out) z0), (T22.cell _ LS.out (by simpa using NS.out) z1), (T22.cell _ LQ.out (by simpa using NQ.out) y0), (T22.cell _ LQ.out (by simpa using NQ.out) y1), (T22.cell _ LQ.out (by simpa using NQ.out) y2), (T22.cell _ LQ.out (by simpa using NQ.out) y3), (T22.cell _ LQ.out (by simpa using NQ.out) y4), (T22.cell _ LD.out (by simpa using ND.out) zd)⟩ (fun hHeld => ?_)
        clear hK K
        refine norm_ (a' := ?_) ?_ ?_
        rotate_left
        · show Act.put _ (some 83) _ = _
          simp only [Act.put, List.setIfInBounds_toArray, List.set_cons_zero, List.set_cons_succ, i64_w, i32_w]
          rfl
        refine one_ (i := 8) (N := some 69) #[true, true, true, true, true, true, true, true, true, true, true, true, true, true, true, true, true, true, true, true, true, true, true, false, false, false, false, false, false, false] rfl rfl (by kernel_rfl) (by decide) (fun K hK => ?_)
        refine step_append_lies _ (by rfl) (.tmp 66) (.tmp 68) _ (by rfl) 0 33 i1 _ 5 40 Try.underlying22 I1.out Z1.out Z2.out Z3.out rfl (by omega) (.slice (some ⟨bl, 0, none⟩) L cl) L xs (by rfl) OL22 _ 1 1 [.int .i64 k, .int .i64 n, .int .i64 t, .int .i64 f, .int .i64 j] (by rfl) (by rfl) (World.news_of_block (cs := #[.int .i64 k, .int .i64 n, .int .i64 t, .int .i64 f, .int .i64 j]) (t := 33) (fr := (0, 0)) C22) (by simp [Value.oneCell']) (by omega) (by unfold maxLen; omega) (by omega) (Nat.zero_le _) _ rfl ?_
        intro g1 cap1 W8 hown1 hgrow1 hat1 hlt1
        have T8 : Turned [bl] w2 W8 := T22.trans (Turned.of_grown hgrow1) (fun x hx => .inl (by simpa using hx))
        have B8 : W8.heap[W7.heap.size]? = some (.cells #[.int .i64 (wrap64 (d + 1))] 3 (0, 0)) := (hgrow1.block _ (lt_of_blk B22) (fun h => by have e : W7.heap.size = bl := Option.some.inj h; have := LB.out; have := T7.size; omega)).trans B22
        refine hK.out _ _ ⟨(T8.cell _ LS.out (by simpa using NS.out) z0), (T8.cell _ LS.out (by simpa using NS.out) z1), (T8.cell _ LQ.out (by simpa using NQ.out) y0), (T8.cell _ LQ.out (by simpa using NQ.out) y1), (T8.cell _ LQ.out (by simpa using NQ.out) y2), (T8.cell _ LQ.out (by simpa using NQ.out) y3), (T8.cell _ LQ.out (by simpa using NQ.out) y4), (T8.cell _ LD.out (by simpa using ND.out) zd)⟩ (fun hHeld => ?_)
        clear hK K
        refine norm_ (a' := ?_) ?_ ?_
        rotate_left
        · show Act.put _ (some 69) _ = _
          simp only [Act.put, List.setIfInBounds_toArray, List.set_cons_zero, List.set_cons_succ, i64_w, i32_w]
          rfl
        exact norm_ (by simp only [putAll, Act.put, List.setIfInBounds_toArray, List.set_cons_zero, List.set_cons_succ]) (hCont (w2.heap.size, g1, cap1, W7.heap.size) _ ⟨T8, hown1, B8, (hat1.elim (fun h => .inl (Option.some.inj h).symm) (fun h => .inr (by rw [h]; exact T22.size))), T7.size, (show g1 ≠ W7.heap.size from hat1.elim (fun h => by have e : bl = g1 := Option.some.inj h; have := T7.size; have := LB.out; omega) (fun h => by have := lt_of_blk B22; omega))⟩)
    · skip
      refine value_ (w1 := ?_) (v := ?_) (by rfl) rfl ?_ ?_
      rotate_left 2
      · go_simp
        constructor
        · rfl
        · rfl
      refine letter_ ?_
      intro W22 hW22
      have T22 : Turned [bl] w2 W22 := by rw [hW22]; exact T0.trans (Turned.of_below (F := [bl]) ((Below.refl _ _).alloc (Nat.le_refl _) _)) (fun x hx => .inl hx)
      have B22 : W22.heap[w2.drew.heap.size]? = some (.cells #[.int .i64 (wrap64 (d + 1))] 3 (0, 0)) := by rw [hW22]; exact heap_alloc_new _ _
      have OL22 : W22.ownsRow 0 33 5 (.slice (some ⟨bl, 0, none⟩) L cl) L xs := by rw [hW22]; exact World.ownsRow.alloc OL0 _
      clear hW22
      refine hK.out _ _ ⟨(T22.cell _ LS.out (by simpa using NS.out) z0), (T22.cell _ LS.out (by simpa using NS.out) z1), (T22.cell _ LQ.out (by simpa using NQ.out) y0), (T22.cell _ LQ.out (by simpa using NQ.out) y1), (T22.cell _ LQ.out (by simpa using NQ.out) y2), (T22.cell _ LQ.out (by simpa using NQ.out) y3), (T22.cell _ LQ.out (by simpa using NQ.out) y4), (T22.cell _ LD.out (by simpa using ND.out) zd)⟩ (fun hHeld => ?_)
      clear hK K
      refine norm_ (a' := ?_) ?_ ?_
      rotate_left
      · show Act.put _ (some 83) _ = _
        simp only [Act.put, List.setIfInBounds_toArray, List.set_cons_zero, List.set_cons_succ, i64_w, i32_w]
        rfl
      refine one_ (i := 7) (N := some 68) #[true, true, true, true, true, true, true, true, false, true, true, true, true, true, true, true, true, true, true, true, true, true, true, false, false, false, false, false, false, false] rfl rfl (by kernel_rfl) (by decide) (fun K hK => ?_)
      refine value_ (w1 := ?_) (v := ?_) (by rfl) rfl ?_ ?_
      rotate_left 2
      · go_simp
        constructor
        · rfl
        · rfl
      refine letter_ ?_
      intro W7 hW7
      have T7 : Turned [bl] w2 W7 := by rw [hW7]; exact T22.trans (Turned.of_below (F := [bl]) ((Below.refl _ _).alloc (Nat.le_refl _) _)) (fun x hx => .inl hx)
      have B7 : W7.heap[W22.heap.size]? = some (.cells #[.int .i64 k, .int .i64 n, .int .i64 t, .int .i64 f, .int .i64 j] 33 (0, 0)) := by rw [hW7]; exact heap_alloc_new _ _
      have OL7 : W7.ownsRow 0 33 5 (.slice (some ⟨bl, 0, none⟩) L cl) L xs := by rw [hW7]; exact World.ownsRow.alloc OL22 _
      have C7 : W7.heap[w2.drew.heap.size]? = some (.cells #[.int .i64 (wrap64 (d + 1))] 3 (0, 0)) := by rw [hW7]; exact blk_alloc B22 _
      clear hW7
      refine hK.out _ _ ⟨(T7.cell _ LS.out (by simpa using NS.out) z0), (T7.cell _ LS.out (by simpa using NS.out) z1), (T7.cell _ LQ.out (by simpa using NQ.out) y0), (T7.cell _ LQ.out (by simpa using NQ.out) y1), (T7.cell _ LQ.out (by simpa using NQ.out) y2), (T7.cell _ LQ.out (by simpa using NQ.out) y3), (T7.cell _ LQ.out (by simpa using NQ.out) y4), (T7.cell _ LD.out (by simpa using ND.out) zd)⟩ (fun hHeld => ?_)
      clear hK K
      refine norm_ (a' := ?_) ?_ ?_
      rotate_left
      · show Act.put _ (some 68) _ = _
        simp only [Act.put, List.setIfInBounds_toArray, List.set_cons_zero, List.set_cons_succ, i64_w, i32_w]
        rfl
      refine one_ (i := 8) (N := some 69) #[true, true, true, true, true, true, true, true, true, true, true, true, true, true, true, true, true, true, true, true, true, true, true, false, false, false, false, false, false, false] rfl rfl (by kernel_rfl) (by decide) (fun K hK => ?_)
      refine step_append_lies _ (by rfl) (.tmp 66) (.tmp 68) _ (by rfl) 0 33 i1 _ 5 40 Try.underlying22 I1.out Z1.out Z2.out Z3.out rfl (by omega) (.slice (some ⟨bl, 0, none⟩) L cl) L xs (by rfl) OL7 _ 1 1 [.int .i64 k, .int .i64 n, .int .i64 t, .int .i64 f, .int .i64 j] (by rfl) (by rfl) (World.news_of_block (cs := #[.int .i64 k, .int .i64 n, .int .i64 t, .int .i64 f, .int .i64 j]) (t := 33) (fr := (0, 0)) B7) (by simp [Value.oneCell']) (by omega) (by unfold maxLen; omega) (by omega) (Nat.zero_le _) _ rfl ?_
      intro g1 cap1 W8 hown1 hgrow1 hat1 hlt1
      have T8 : Turned [bl] w2 W8 := T7.trans (Turned.of_grown hgrow1) (fun x hx => .inl (by simpa using hx))
      have B8 : W8.heap[w2.drew.heap.size]? = some (.cells #[.int .i64 (wrap64 (d + 1))] 3 (0, 0)) := (hgrow1.block _ (lt_of_blk C7) (fun h => by have e : w2.heap.size = bl := Option.some.inj h; have := LB.out; omega)).trans C7
      refine hK.out _ _ ⟨(T8.cell _ LS.out (by simpa using NS.out) z0), (T8.cell _ LS.out (by simpa using NS.out) z1), (T8.cell _ LQ.out (by simpa using NQ.out) y0), (T8.cell _ LQ.out (by simpa using NQ.out) y1), (T8.cell _ LQ.out (by simpa using NQ.out) y2), (T8.cell _ LQ.out (by simpa using NQ.out) y3), (T8.cell _ LQ.out (by simpa using NQ.out) y4), (T8.cell _ LD.out (by simpa using ND.out) zd)⟩ (fun hHeld => ?_)
      clear hK K
      refine norm_ (a' := ?_) ?_ ?_
      rotate_left
      · show Act.put _ (some 69) _ = _
        simp only [Act.put, List.setIfInBounds_toArray, List.set_cons_zero, List.set_cons_succ, i64_w, i32_w]
        rfl
      exact norm_ (by simp only [putAll, Act.put, List.setIfInBounds_toArray, List.set_cons_zero, List.set_cons_succ]) (hCont (W22.heap.size, g1, cap1, w2.heap.size) _ ⟨T8, hown1, B8, (hat1.elim (fun h => .inl (Option.some.inj h).symm) (fun h => .inr (by rw [h]; exact T7.size))), Nat.le_refl _, (show g1 ≠ w2.heap.size from hat1.elim (fun h => by have e : bl = g1 := Option.some.inj h; have := LB.out; omega) (fun h => by have : w2.heap.size < W7.heap.size := lt_of_blk C7; omega))⟩)
  rintro ⟨b1, g1, cap1, b2⟩ W ⟨TW, ow, cw, a1, a2, a3⟩
  have hHeld : True := trivial
  have OD' := ownsRow_turned TW OD0 (by simpa using NB.out)
  refine norm_ (a' := ?_) ?_ ?_
  rotate_left
  · simp only [putAll, Act.put, List.setIfInBounds_toArray, List.set_cons_zero, List.set_cons_succ]
    rfl
  refine last_ (i := 23) (N := some 84) #[true, true, true, true, true, true, true, true, true, true, true, true, true, true, true, true, true, true, true, true, true, true, true, true, false, false, false, false, false, false] rfl rfl (by kernel_rfl) (by decide) (fun K hK => ?_)
  refine step_append_lies _ (by rfl) (.tmp 73) (.tmp 83) _ (by rfl) 0 3 i2 _ 1 8 Try.underlying48 I2.out Y1.out Y2.out Y3.out rfl (by omega) (.slice (some ⟨bd, 0, none⟩) L cd) L ys (by rfl) OD' _ 1 1 [.int .i64 (wrap64 (d + 1))] (by rfl) (by rfl) (World.news_of_block (cs := #[.int .i64 (wrap64 (d + 1))]) (t := 3) (fr := (0, 0)) cw) (by simp [Value.oneCell']) (by omega) (by unfold maxLen; omega) (by omega) (Nat.zero_le _) _ rfl ?_
  intro g2 cap2 V hown2 hgrow2 hat2 hlt2
  have TV : Turned [bl, bd] w2 V := (TW.wider (G := [bl, bd]) (by simp)).trans (Turned.of_grown hgrow2) (fun x hx => .inl (by simp [Value.ownBlock] at hx; simp [hx]))
  have hblk := TV.keeps z6 (by simpa using NV.out)
  have v0 := blk_cell hblk 0 _ rfl
  have v1 := blk_cell hblk 1 _ rfl
  have v2 := blk_free hblk 0
  have v3 := blk_free hblk 1
  refine hK.out _ _ ?_
  clear hK K
  refine norm_ (a' := ?_) ?_ ?_
  rotate_left
  · show Act.put _ (some 84) _ = _
    simp only [Act.put, List.setIfInBounds_toArray, List.set_cons_zero, List.set_cons_succ, i64_w, i32_w]
    rfl
  refine pure_ (i := 24) (N := some 85) (v := ?_) (a' := ?_) #[true, true, true, true, true, true, true, true, true, true, true, true, true, true, true, true, true, true, true, true, true, true, true, true, true, false, false, false, false, false] rfl rfl (by kernel_rfl) (fun _ _ _ h => h) (Or.inl ⟨by rfl, ?_⟩) ?_ ?_
  rotate_left
  · intro w'
    go_simp
    with_reducible rfl
  rotate_left
  · simp only [Act.put, List.setIfInBounds_toArray, List.set_cons_zero, List.set_cons_succ, i64_w, i32_w]
    rfl
  refine pure_ (i := 25) (N := some 86) (v := ?_) (a' := ?_) #[true, true, true, true, true, true, true, true, true, true, true, true, true, true, true, true, true, true, true, true, true, true, true, true, true, true, false, false, false, false] rfl rfl (by kernel_rfl) (fun _ _ _ h => h) (Or.inl ⟨by rfl, ?_⟩) ?_ ?_
  rotate_left
  · intro w'
    go_simp
    with_reducible rfl
  rotate_left
  · simp only [Act.put, List.setIfInBounds_toArray, List.set_cons_zero, List.set_cons_succ, i64_w, i32_w]
    rfl
  refine last_ (i := 26) (N := none) #[true, true, true, true, true, true, true, true, true, true, true, true, true, true, true, true, true, true, true, true, true, true, true, true, true, true, true, false, false, false] rfl rfl (by kernel_rfl) (by decide) (fun K hK => ?_)
  refine skip_ (w1 := ?_) (by rfl) rfl ?_ ?_
  rotate_left
  · go_simp
    rfl
  refine letter_ ?_
  intro V1 hV1
  have v1' : V1.cell? ⟨s, 1, none⟩ = some (.slice (some ⟨bd, 0, none⟩) L cd) := by rw [hV1, World.cell?_setCell_other _ _ _ _ (by simp)]; exact v1
  have v3' : V1.frozen? ⟨s, 1, none⟩ = false := by rw [hV1]; simpa using v3
  refine hK.out _ _ ?_
  clear hK K
  refine pure_ (i := 27) (N := some 87) (v := ?_) (a' := ?_) #[true, true, true, true, true, true, true, true, true, true, true, true, true, true, true, true, true, true, true, true, true, true, true, true, true, true, true, true, false, false] rfl rfl (by kernel_rfl) (fun _ _ _ h => h) (Or.inl ⟨by rfl, ?_⟩) ?_ ?_
  rotate_left
  · intro w'
    go_simp
    with_reducible rfl
  rotate_left
  · simp only [Act.put, List.setIfInBounds_toArray, List.set_cons_zero, List.set_cons_succ, i64_w, i32_w]
    rfl
  refine pure_ (i := 28) (N := some 88) (v := ?_) (a' := ?_) #[true, true, true, true, true, true, true, true, true, true, true, true, true, true, true, true, true, true, true, true, true, true, true, true, true, true, true, true, true, false] rfl rfl (by kernel_rfl) (fun _ _ _ h => h) (Or.inl ⟨by rfl, ?_⟩) ?_ ?_
  rotate_left
  · intro w'
    go_simp
    with_reducible rfl
  rotate_left
  · simp only [Act.put, List.setIfInBounds_toArray, List.set_cons_zero, List.set_cons_succ, i64_w, i32_w]
    rfl
  refine last_ (i := 29) (N := none) #[true, true, true, true, true, true, true, true, true, true, true, true, true, true, true, true, true, true, true, true, true, true, true, true, true, true, true, true, true, true] rfl rfl (by kernel_rfl) (by decide) (fun K hK => ?_)
  refine skip_ (w1 := ?_) (by rfl) rfl ?_ ?_
  rotate_left
  · go_simp
    rfl
  refine letter_ ?_
  intro V2 hV2
  refine hK.out _ _ ?_
  clear hK K
  refine done_ (by kernel_rfl) ?_
  obtain ⟨p1, p2, p3, p4, p5, p6, p7, p8, p9, p10, p11⟩ := behind TW TV hgrow2 ow hown2 a1 hat2 LS.out LB.out LD.out LM.out N1.out N2.out N3.out N4.out N5.out N6.out hblk HO.out V2 hV2
  have P := Lib.hid (And.intro p2 (And.intro p3 (And.intro p6 (And.intro p7 (And.intro p8 (And.intro p9 (And.intro p10 p11)))))))
  have A1 := Lib.hid a1
  have P5 := Lib.hid p5
  have P1 := Lib.hid p1
  have P4 := Lib.hid p4
  have x2 := blk_cell p1 2 _ rfl
  have NQ2 : q0 ∉ [s, bl, bd] := by simp; omega
  have x3 := p5.cell ⟨q0, 0, none⟩ LQ.out NQ2 YY0.out
  have x4 := p5.cell ⟨q0, 1, none⟩ LQ.out NQ2 YY1.out
  have x5 := p5.cell ⟨q0, 2, none⟩ LQ.out NQ2 YY2.out
  have x6 := p5.cell ⟨q0, 3, none⟩ LQ.out NQ2 YY3.out
  have x7 := p5.cell ⟨q0, 4, none⟩ LQ.out NQ2 YY4.out
  have hup := HUP.out V2.drew p4
  clear p1 p2 p3 p4 p5 p6 p7 p8 p9 p10 p11 hV2 v1' v3' hV1 v0 v1 v2 v3 hblk TV hlt2 hat2 hgrow2 hown2 OD' a1 a2 a3 cw ow TW NQ2 z0 z1 y0 y1 y2 y3 y4 zd z6 OD0 OL0 T0 HUP V1
  go_wp2
  refine start_ (n := 7) (S := fun w' => w'.cell? ⟨s, 2, none⟩ = some (.map (some m)) ∧ w'.cell? ⟨q0, 0, none⟩ = some (.int .i64 k) ∧ w'.cell? ⟨q0, 1, none⟩ = some (.int .i64 n) ∧ w'.cell? ⟨q0, 2, none⟩ = some (.int .i64 t) ∧ w'.cell? ⟨q0, 3, none⟩ = some (.int .i64 f) ∧ w'.cell? ⟨q0, 4, none⟩ = some (.int .i64 j)) (ds := [6]) #[false, false, false, false, false, false, false] (by kernel_rfl) rfl rfl ⟨x2, x3, x4, x5, x6, x7⟩ (fun hHeld => ?_)
  refine pure_ (i := 0) (N := some 89) (v := ?_) (a' := ?_) #[true, false, false, false, false, false, false] rfl rfl (by kernel_rfl) (fun _ _ _ h => h) (Or.inl ⟨by rfl, ?_⟩) ?_ ?_
  rotate_left
  · intro w'
    go_simp
    with_reducible rfl
  rotate_left
  · simp only [Act.put, List.setIfInBounds_toArray, List.set_cons_zero, List.set_cons_succ, i64_w, i32_w]
    rfl
  refine pure_ (i := 1) (N := some 90) (v := ?_) (a' := ?_) #[true, true, false, false, false, false, false] rfl rfl (by kernel_rfl) (fun _ _ _ h => h) (Or.inl ⟨by rfl, ?_⟩) ?_ ?_
  rotate_left
  · intro w'
    go_simp
    with_reducible rfl
  rotate_left
  · simp only [Act.put, List.setIfInBounds_toArray, List.set_cons_zero, List.set_cons_succ, i64_w, i32_w]
    rfl
  refine pure_ (i := 2) (N := some 91) (v := ?_) (a' := ?_) #[true, true, true, false, false, false, false] rfl rfl (by kernel_rfl) (fun _ _ _ h => h) (Or.inl ⟨by rfl, ?_⟩) ?_ ?_
  rotate_left
  · intro w'
    go_simp
    with_reducible rfl
  rotate_left
  · simp only [Act.put, List.setIfInBounds_toArray, List.set_cons_zero, List.set_cons_succ, i64_w, i32_w]
    rfl
  refine pure_ (i := 5) (N := some 94) (v := ?_) (a' := ?_) #[true, true, true, false, false, true, false] rfl rfl (by kernel_rfl) (fun _ _ _ h => h) (Or.inl ⟨by rfl, ?_⟩) ?_ ?_
  rotate_left
  · intro w'
    go_simp
    with_reducible rfl
  rotate_left
  · simp only [Act.put, List.setIfInBounds_toArray, List.set_cons_zero, List.set_cons_succ, i64_w, i32_w]
    rfl
  refine take_ (i := 3) (N := some 92) (v := ?_) (a' := ?_) #[true, true, true, true, false, true, false] rfl rfl (by kernel_rfl) (fun _ _ _ h => h) (Or.inl ⟨by rfl, ?_⟩) hHeld ?_ ?_
  rotate_left
  · rintro w' ⟨s0, s1, s2, s3, s4, s5⟩
    go_simp
    with_reducible rfl
  rotate_left
  · simp only [Act.put, List.setIfInBounds_toArray, List.set_cons_zero, List.set_cons_succ, i64_w, i32_w]
    rfl
  refine take_ (i := 4) (N := some 93) (v := ?_) (a' := ?_) #[true, true, true, true, true, true, false] rfl rfl (by kernel_rfl) (fun _ _ _ h => h) (Or.inl ⟨by rfl, ?_⟩) hHeld ?_ ?_
  rotate_left
  · rintro w' ⟨s0, s1, s2, s3, s4, s5⟩
    go_simp
    with_reducible rfl
  rotate_left
  · simp only [Act.put, List.setIfInBounds_toArray, List.set_cons_zero, List.set_cons_succ, i64_w, i32_w]
    rfl
  refine last_ (i := 6) (N := none) #[true, true, true, true, true, true, true] rfl rfl (by kernel_rfl) (by decide) (fun K hK => ?_)
  refine skip_ (w1 := ?_) (by rfl) rfl ?_ ?_
  rotate_left
  · go_simp
    rfl
  refine letter_ ?_
  intro V3 hV3
  refine hK.out _ _ ?_
  clear hK K
  refine done_ (by kernel_rfl) ?_
  go_wp2
  go_ret2
  refine ⟨rfl, g1, cap1, g2, cap2, ?_⟩
  have TM := Turned.block_set (o' := o') P4.out
  have dr : Turned [] V2 V2.drew := ⟨rfl, rfl, rfl, Nat.le_refl _, fun _ _ _ => rfl⟩
  have TM : Turned [m] V2 V3 := by rw [hV3]; exact (dr.wider (G := [m]) (fun x hx => by simp at hx)).trans (Turned.block_set (w := V2.drew) (o := o) P4.out) (fun x hx => .inl hx)
  have M3 : V3.heap[m]? = some o' := by rw [hV3]; exact block_set_at (w := V2.drew) (o := o) P4.out
  obtain ⟨p2, p3, p6, p7, p8, p9, p10, p11⟩ := P.out
  have hq := HB2.out.size
  have TZ : Turned [s, bl, bd, m] w V3 := by
    refine ((Turned.of_below (F := [s, bl, bd, m]) (by rw [hq0]; exact HB2.out)).trans (P5.out.wider (G := [s, bl, bd, m]) ?_) (fun x hx => .inl hx)).trans TM (fun x hx => .inl ?_)
    · intro x hx
      simp at hx ⊢
      rcases hx with h | h | h <;> simp [h]
    · simp at hx
      simp [hx]
  refine ⟨TM.keeps P1.out (by simpa using N3.out), ownsRow_turned TM p2 (by simpa using p9), ownsRow_turned TM p3 (by simpa using p10), M3, TZ, p6, p7, p8, p9, p10, ?_, ?_⟩
  · rcases A1.out with h | h
    · exact .inl h
    · right; rw [hq0]; exact Nat.le_trans (by rw [← hq0]; exact hq) h
  · rcases p11 with h | h
    · exact .inl h
    · right; rw [hq0]; exact Nat.le_trans (by rw [← hq0]; exact hq) h
end Go.Proofs.Ytajflmpdpggcgaa.FPutNew
