/- LimitLeast: its walk. -/
import Derived.Test.YtijnncnglkjpgaaLLimitGrows
namespace Go.Proofs.Ytijnncnglkjpgaa.LLimitLeast
open Go.RowKit KFlt KKind KRight KLeast KScale KMeter KStep KHold KFixed KArg KOrd LLimitGrows Go.Proofs.YtijnncnglkjpgaaW.PrintWords Go.Proofs.YtijnncnglkjpgaaW.PrintLast Go.Proofs.YtijnncnglkjpgaaW.PrintMore
set_option linter.unusedVariables false
attribute [local go_sem] KKind.run_store_float
set_option linter.unusedSimpArgs false

theorem letter_ {K : Act → World → Prop} {a : Act} {w1 : World} (h : ∀ W, W = w1 → K a W) : K a w1 := h _ rfl
theorem lt_of_blk {w : World} {b : Nat} {o : Obj} (h : w.heap[b]? = some o) : b < w.heap.size := by
  rcases Nat.lt_or_ge b w.heap.size with hl | hl
  · exact hl
  · rw [Array.getElem?_eq_none hl] at h; cases h
theorem set_other {w : World} {b c i : Nat} {o : Obj} {v : Value} (h : w.heap[b]? = some o) (hn : b ≠ c) : (w.setCell ⟨c, i, none⟩ v).heap[b]? = some o := (Below.heap_setCell _ _ _ _ (by simpa using hn)).trans h
theorem less_le {a b : Nat} (ha : nan a = false) (hb : nan b = false) : leB (lessF a b) a = true ∧ leB (lessF a b) b = true ∧ (FloatKind.f64.format.order (lessF a b) (lessF b a) == some Ordering.eq) = true ∧ lessF (lessF a b) a = lessF a b ∧ nan (lessF a b) = false := by
  have e : ∀ x y, lessF x y = if lsB y x then y else x := fun _ _ => rfl
  by_cases h : key b < key a
  · have h1 : lsB b a = true := by rw [ls_key hb ha]; simp [h]
    have h2 : lsB a b = false := by rw [ls_key ha hb]; simp; omega
    have e1 : lessF a b = b := by rw [e, h1]; rfl
    have e2 : lessF b a = b := by rw [e, h2]; rfl
    rw [e1, e2]
    refine ⟨by rw [le_key hb ha]; simp; omega, by rw [le_key hb hb]; simp, by rw [f_eq hb hb]; simp, rfl, hb⟩
  · have h1 : lsB b a = false := by rw [ls_key hb ha]; simp; omega
    have e1 : lessF a b = a := by rw [e, h1]; rfl
    rw [e1]
    have h3 : lsB a a = false := by rw [ls_key ha ha]; simp
    refine ⟨by rw [le_key ha ha]; simp, by rw [le_key ha hb]; simp; omega, ?_, by rw [e, h3]; rfl, ha⟩
    by_cases g : key a < key b
    · have h2 : lsB a b = true := by rw [ls_key ha hb]; simp [g]
      have e2 : lessF b a = a := by rw [e, h2]; rfl
      rw [e2, f_eq ha ha]; simp
    · have h2 : lsB a b = false := by rw [ls_key ha hb]; simp; omega
      have e2 : lessF b a = b := by rw [e, h2]; rfl
      rw [e2, f_eq ha hb]; simp; omega
attribute [-go_sem] Go.run_eql_struct in
set_option maxRecDepth 100000 in
set_option maxHeartbeats 6400000 in
theorem w11 (a0 a1 b0 b1 : Nat) (w : World) (ha0 : a0 < 18446744073709551616) (ha1 : a1 < 18446744073709551616) (hb0 : b0 < 18446744073709551616) (hb1 : b1 < 18446744073709551616) (hRa : rightB a0 a1 = true) (hRb : rightB b0 b1 = true) :
    Calls Try.prog 7 #[.agg #[.float .f64 a0, .float .f64 a1], .agg #[.float .f64 b0, .float .f64 b1]] w fun e w' => e = .returned (.bool true) ∧ Below w.heap.size w w' := by
  have BA := Lib.hid (blk_alloc (heap_alloc_new w (.cells #[.float .f64 a0, .float .f64 a1] 24)) (.cells #[.float .f64 b0, .float .f64 b1] 24))
  have BB := Lib.hid (blk2 w (.cells #[.float .f64 a0, .float .f64 a1] 24) #[.float .f64 b0, .float .f64 b1] 24)
  have HB := Lib.hid (below2 w (.cells #[.float .f64 a0, .float .f64 a1] 24) (.cells #[.float .f64 b0, .float .f64 b1] 24))
  have c1 := Lib.hid (least_calls a0 a1 b0 b1)
  have c2 := Lib.hid (least_calls b0 b1 a0 a1)
  obtain ⟨n1, n2, _, _⟩ := right_parts hRa
  obtain ⟨n3, n4, _, _⟩ := right_parts hRb
  obtain ⟨q1, q2, q3, q4, q5⟩ := less_le n1 n3
  obtain ⟨r1, r2, r3, r4, r5⟩ := less_le n2 n4
  have hRx := less_right hRa hRb
  have e1 : (FloatKind.f64.format.order (lessF a0 b0) (lessF a0 b0) == some Ordering.eq) = true := by rw [f_eq q5 q5]; simp
  have e2 : (FloatKind.f64.format.order (lessF a1 b1) (lessF a1 b1) == some Ordering.eq) = true := by rw [f_eq r5 r5]; simp
  have hl0 := less_lt ha0 hb0
  have hl1 := less_lt ha1 hb1
  have c3 := least_calls (lessF a0 b0) (lessF a1 b1) a0 a1
  rw [q4, r4] at c3
  have c3 := Lib.hid c3
  unfold leB at q1 q2 r1 r2
  have hse := fun W => eq_budget (lessF a0 b0) (lessF a1 b1) (lessF a0 b0) (lessF a1 b1) W
  rw [e1, e2] at hse
  simp only [Bool.and_self] at hse
  have HSE := Lib.hid hse
  have E1 := Lib.hid (show _ ∧ _ ∧ _ ∧ _ ∧ _ ∧ _ from ⟨q1, q2, q3, r1, r2, r3⟩)
  clear q1 q2 q3 q4 r1 r2 r3 r4 hse e1 e2
  generalize lessF a0 b0 = l0 at *
  generalize lessF a1 b1 = l1 at *
  generalize lessF b0 a0 = k0 at *
  generalize lessF b1 a1 = k1 at *
  go_enter Try.func7, Try.ntmps7
  go_wp2
  generalize ((w.alloc (.cells #[.float .f64 a0, .float .f64 a1] 24)).alloc (.cells #[.float .f64 b0, .float .f64 b1] 24)) = w2 at *
  obtain ⟨qa, hqa⟩ : ∃ qa, w.heap.size = qa := ⟨_, rfl⟩
  rw [hqa] at BA BB HB ⊢
  have HQ := Lib.hid hqa
  clear hqa
  generalize qa + 1 = qb at *
  have x0 := blk_cell BA.out 0 (.float .f64 a0) rfl
  have x1 := blk_cell BA.out 1 (.float .f64 a1) rfl
  have y0 := blk_cell BB.out 0 (.float .f64 b0) rfl
  have y1 := blk_cell BB.out 1 (.float .f64 b1) rfl
  have lA := lt_of_blk BA.out
  have lB := lt_of_blk BB.out
  have T0 := (Below.refl w2.heap.size w2).drew
  refine start_ (n := 10) (S := fun w' => w'.cell? ⟨qa, 0, none⟩ = some (.float .f64 a0) ∧ w'.cell? ⟨qa, 1, none⟩ = some (.float .f64 a1) ∧ w'.cell? ⟨qb, 0, none⟩ = some (.float .f64 b0) ∧ w'.cell? ⟨qb, 1, none⟩ = some (.float .f64 b1)) (ds := [8, 9]) #[false, false, false, false, false, false, false, false, false, false] (by kernel_rfl) rfl rfl ⟨x0, x1, y0, y1⟩ (fun hHeld => ?_)
  refine take_ (i := 0) (N := some 7) (v := ?_) (a' := ?_) #[true, false, false, false, false, false, false, false, false, false] rfl rfl (by kernel_rfl) (fun _ _ _ h => h) (Or.inl ⟨by rfl, ?_⟩) hHeld ?_ ?_
  rotate_left
  · rintro w' ⟨s0, s1, s2, s3⟩
    go_simp
    with_reducible rfl
  rotate_left
  · simp only [Act.put, List.setIfInBounds_toArray, List.set_cons_zero, List.set_cons_succ, i64_w, i32_w]
    rfl
  refine take_ (i := 1) (N := some 8) (v := ?_) (a' := ?_) #[true, true, false, false, false, false, false, false, false, false] rfl rfl (by kernel_rfl) (fun _ _ _ h => h) (Or.inl ⟨by rfl, ?_⟩) hHeld ?_ ?_
  rotate_left
  · rintro w' ⟨s0, s1, s2, s3⟩
    go_simp
    with_reducible rfl
  rotate_left
  · simp only [Act.put, List.setIfInBounds_toArray, List.set_cons_zero, List.set_cons_succ, i64_w, i32_w]
    rfl
  refine take_ (i := 3) (N := some 10) (v := ?_) (a' := ?_) #[true, true, false, true, false, false, false, false, false, false] rfl rfl (by kernel_rfl) (fun _ _ _ h => h) (Or.inl ⟨by rfl, ?_⟩) hHeld ?_ ?_
  rotate_left
  · rintro w' ⟨s0, s1, s2, s3⟩
    go_simp
    with_reducible rfl
  rotate_left
  · simp only [Act.put, List.setIfInBounds_toArray, List.set_cons_zero, List.set_cons_succ, i64_w, i32_w]
    rfl
  refine take_ (i := 4) (N := some 11) (v := ?_) (a' := ?_) #[true, true, false, true, true, false, false, false, false, false] rfl rfl (by kernel_rfl) (fun _ _ _ h => h) (Or.inl ⟨by rfl, ?_⟩) hHeld ?_ ?_
  rotate_left
  · rintro w' ⟨s0, s1, s2, s3⟩
    go_simp
    with_reducible rfl
  rotate_left
  · simp only [Act.put, List.setIfInBounds_toArray, List.set_cons_zero, List.set_cons_succ, i64_w, i32_w]
    rfl
  refine join_ (σ := Nat × Nat) 2 #[true, true, true, true, true, true, true, true, false, false] (fun s => [(9, .agg #[.float .f64 l0, .float .f64 l1]), (12, .agg #[.float .f64 k0, .float .f64 k1]), (5, .pointer (some ⟨s.1, 0, none⟩)), (6, .pointer (some ⟨s.2, 0, none⟩))]) (fun s w' => Below w2.heap.size w2 w' ∧ w'.heap[s.1]? = some (.cells #[.float .f64 0, .float .f64 0] 24 (0, 0)) ∧ w'.heap[s.2]? = some (.cells #[.float .f64 0, .float .f64 0] 24 (0, 0)) ∧ s.1 ≠ s.2 ∧ w2.heap.size ≤ s.1 ∧ w2.heap.size ≤ s.2) ?_ ?_
  rotate_left
  · intro hCont
    refine three_ (i := 2) (j := 6) (k := 7) (Ni := some 9) (Nj := some 5) (Nk := some 6) #[true, true, true, true, true, false, false, false, false, false] #[true, true, false, true, true, false, true, false, false, false] #[true, true, false, true, true, false, false, true, false, false] rfl rfl rfl rfl rfl rfl (by kernel_rfl) (by decide) (by decide) (by decide) (fun K hK => ?_) (fun K hK => ?_) (fun K hK => ?_)
    · skip
      refine goes_ Try.func17 (by kernel_rfl) rfl #[.agg #[.float .f64 a0, .float .f64 a1], .agg #[.float .f64 b0, .float .f64 b1]] (by rfl) rfl rfl (by simp only [List.map_toArray, List.map_cons, List.map_nil]; rfl) ?_
      with_reducible refine (c1.out _).mono ?_
      rintro e W2 ⟨rfl, hb⟩
      refine ⟨_, rfl, ?_⟩
      have T2 := below_step T0 hb
      clear hb
      refine hK.out _ _ ⟨(KRight.cell_below T2 lA x0), (KRight.cell_below T2 lA x1), (KRight.cell_below T2 lB y0), (KRight.cell_below T2 lB y1)⟩ (fun hHeld => ?_)
      clear hK K
      refine norm_ (a' := ?_) ?_ ?_
      rotate_left
      · show Act.put _ (some 9) _ = _
        simp only [Act.put, List.setIfInBounds_toArray, List.set_cons_zero, List.set_cons_succ, i64_w, i32_w]
        rfl
      refine three_ (i := 5) (j := 6) (k := 7) (Ni := some 12) (Nj := some 5) (Nk := some 6) #[true, true, true, true, true, true, false, false, false, false] #[true, true, true, true, true, false, true, false, false, false] #[true, true, true, true, true, false, false, true, false, false] rfl rfl rfl rfl rfl rfl (by kernel_rfl) (by decide) (by decide) (by decide) (fun K hK => ?_) (fun K hK => ?_) (fun K hK => ?_)
      · skip
        refine goes_ Try.func17 (by kernel_rfl) rfl #[.agg #[.float .f64 b0, .float .f64 b1], .agg #[.float .f64 a0, .float .f64 a1]] (by rfl) rfl rfl (by simp only [List.map_toArray, List.map_cons, List.map_nil]; rfl) ?_
        with_reducible refine (c2.out _).mono ?_
        rintro e W5 ⟨rfl, hb⟩
        refine ⟨_, rfl, ?_⟩
        have T5 := below_step T2 hb
        clear hb
        refine hK.out _ _ ⟨(KRight.cell_below T5 lA x0), (KRight.cell_below T5 lA x1), (KRight.cell_below T5 lB y0), (KRight.cell_below T5 lB y1)⟩ (fun hHeld => ?_)
        clear hK K
        refine norm_ (a' := ?_) ?_ ?_
        rotate_left
        · show Act.put _ (some 12) _ = _
          simp only [Act.put, List.setIfInBounds_toArray, List.set_cons_zero, List.set_cons_succ, i64_w, i32_w]
          rfl
        refine two_ (i := 6) (j := 7) (Ni := some 5) (Nj := some 6) #[true, true, true, true, true, true, true, false, false, false] #[true, true, true, true, true, true, false, true, false, false] rfl rfl rfl rfl (by kernel_rfl) (by decide) (by decide) (fun K hK => ?_) (fun K hK => ?_)
        · skip
          refine value_ (w1 := ?_) (v := ?_) (by rfl) rfl ?_ ?_
          rotate_left 2
          · go_simp
            constructor
            · rfl
            · rfl
          refine letter_ ?_
          intro W6 hW
          have T6 : Below w2.heap.size w2 W6 := by rw [hW]; exact T5.alloc T5.size _
          have B6_6 : W6.heap[W5.heap.size]? = some (.cells #[.float .f64 0, .float .f64 0] 24 (0, 0)) := by rw [hW]; exact heap_alloc_new _ _
          clear hW
          refine hK.out _ _ ⟨(KRight.cell_below T6 lA x0), (KRight.cell_below T6 lA x1), (KRight.cell_below T6 lB y0), (KRight.cell_below T6 lB y1)⟩ (fun hHeld => ?_)
          clear hK K
          refine norm_ (a' := ?_) ?_ ?_
          rotate_left
          · show Act.put _ (some 5) _ = _
            simp only [Act.put, List.setIfInBounds_toArray, List.set_cons_zero, List.set_cons_succ, i64_w, i32_w]
            rfl
          refine one_ (i := 7) (N := some 6) #[true, true, true, true, true, true, true, true, false, false] rfl rfl (by kernel_rfl) (by decide) (fun K hK => ?_)
          refine value_ (w1 := ?_) (v := ?_) (by rfl) rfl ?_ ?_
          rotate_left 2
          · go_simp
            constructor
            · rfl
            · rfl
          refine letter_ ?_
          intro W7 hW
          have T7 : Below w2.heap.size w2 W7 := by rw [hW]; exact T6.alloc T6.size _
          have B7_7 : W7.heap[W6.heap.size]? = some (.cells #[.float .f64 0, .float .f64 0] 24 (0, 0)) := by rw [hW]; exact heap_alloc_new _ _
          have B6_7 : W7.heap[W5.heap.size]? = some (.cells #[.float .f64 0, .float .f64 0] 24 (0, 0)) := by rw [hW]; exact blk_alloc B6_6 _
          clear hW
          refine hK.out _ _ ⟨(KRight.cell_below T7 lA x0), (KRight.cell_below T7 lA x1), (KRight.cell_below T7 lB y0), (KRight.cell_below T7 lB y1)⟩ (fun hHeld => ?_)
          clear hK K
          refine norm_ (a' := ?_) ?_ ?_
          rotate_left
          · show Act.put _ (some 6) _ = _
            simp only [Act.put, List.setIfInBounds_toArray, List.set_cons_zero, List.set_cons_succ, i64_w, i32_w]
            rfl
          exact norm_ (by simp only [putAll, Act.put, List.setIfInBounds_toArray, List.set_cons_zero, List.set_cons_succ]) (hCont (W5.heap.size, W6.heap.size) _ ⟨T7, B6_7, B7_7, Nat.ne_of_lt (lt_of_blk B6_6), (show w2.heap.size ≤ W5.heap.size from T5.size), (show w2.heap.size ≤ W6.heap.size from T6.size)⟩)
        · skip
          refine value_ (w1 := ?_) (v := ?_) (by rfl) rfl ?_ ?_
          rotate_left 2
          · go_simp
            constructor
            · rfl
            · rfl
          refine letter_ ?_
          intro W7 hW
          have T7 : Below w2.heap.size w2 W7 := by rw [hW]; exact T5.alloc T5.size _
          have B7_7 : W7.heap[W5.heap.size]? = some (.cells #[.float .f64 0, .float .f64 0] 24 (0, 0)) := by rw [hW]; exact heap_alloc_new _ _
          clear hW
          refine hK.out _ _ ⟨(KRight.cell_below T7 lA x0), (KRight.cell_below T7 lA x1), (KRight.cell_below T7 lB y0), (KRight.cell_below T7 lB y1)⟩ (fun hHeld => ?_)
          clear hK K
          refine norm_ (a' := ?_) ?_ ?_
          rotate_left
          · show Act.put _ (some 6) _ = _
            simp only [Act.put, List.setIfInBounds_toArray, List.set_cons_zero, List.set_cons_succ, i64_w, i32_w]
            rfl
          refine one_ (i := 6) (N := some 5) #[true, true, true, true, true, true, true, true, false, false] rfl rfl (by kernel_rfl) (by decide) (fun K hK => ?_)
          refine value_ (w1 := ?_) (v := ?_) (by rfl) rfl ?_ ?_
          rotate_left 2
          · go_simp
            constructor
            · rfl
            · rfl
          refine letter_ ?_
          intro W6 hW
          have T6 : Below w2.heap.size w2 W6 := by rw [hW]; exact T7.alloc T7.size _
          have B6_6 : W6.heap[W7.heap.size]? = some (.cells #[.float .f64 0, .float .f64 0] 24 (0, 0)) := by rw [hW]; exact heap_alloc_new _ _
          have B7_6 : W6.heap[W5.heap.size]? = some (.cells #[.float .f64 0, .float .f64 0] 24 (0, 0)) := by rw [hW]; exact blk_alloc B7_7 _
          clear hW
          refine hK.out _ _ ⟨(KRight.cell_below T6 lA x0), (KRight.cell_below T6 lA x1), (KRight.cell_below T6 lB y0), (KRight.cell_below T6 lB y1)⟩ (fun hHeld => ?_)
          clear hK K
          refine norm_ (a' := ?_) ?_ ?_
          rotate_left
          · show Act.put _ (some 5) _ = _
            simp only [Act.put, List.setIfInBounds_toArray, List.set_cons_zero, List.set_cons_succ, i64_w, i32_w]
            rfl
          exact norm_ (by simp only [putAll, Act.put, List.setIfInBounds_toArray, List.set_cons_zero, List.set_cons_succ]) (hCont (W7.heap.size, W5.heap.size) _ ⟨T6, B6_6, B7_6, Nat.ne_of_gt (lt_of_blk B7_7), (show w2.heap.size ≤ W7.heap.size from T7.size), (show w2.heap.size ≤ W5.heap.size from T5.size)⟩)
      · skip
        refine value_ (w1 := ?_) (v := ?_) (by rfl) rfl ?_ ?_
        rotate_left 2
        · go_simp
          constructor
          · rfl
          · rfl
        refine letter_ ?_
        intro W6 hW
        have T6 : Below w2.heap.size w2 W6 := by rw [hW]; exact T2.alloc T2.size _
        have B6_6 : W6.heap[W2.heap.size]? = some (.cells #[.float .f64 0, .float .f64 0] 24 (0, 0)) := by rw [hW]; exact heap_alloc_new _ _
        clear hW
        refine hK.out _ _ ⟨(KRight.cell_below T6 lA x0), (KRight.cell_below T6 lA x1), (KRight.cell_below T6 lB y0), (KRight.cell_below T6 lB y1)⟩ (fun hHeld => ?_)
        clear hK K
        refine norm_ (a' := ?_) ?_ ?_
        rotate_left
        · show Act.put _ (some 5) _ = _
          simp only [Act.put, List.setIfInBounds_toArray, List.set_cons_zero, List.set_cons_succ, i64_w, i32_w]
          rfl
        refine two_ (i := 5) (j := 7) (Ni := some 12) (Nj := some 6) #[true, true, true, true, true, true, true, false, false, false] #[true, true, true, true, true, false, true, true, false, false] rfl rfl rfl rfl (by kernel_rfl) (by decide) (by decide) (fun K hK => ?_) (fun K hK => ?_)
        · skip
          refine goes_ Try.func17 (by kernel_rfl) rfl #[.agg #[.float .f64 b0, .float .f64 b1], .agg #[.float .f64 a0, .float .f64 a1]] (by rfl) rfl rfl (by simp only [List.map_toArray, List.map_cons, List.map_nil]; rfl) ?_
          with_reducible refine (c2.out _).mono ?_
          rintro e W5 ⟨rfl, hb⟩
          refine ⟨_, rfl, ?_⟩
          have T5 := below_step T6 hb
          have B6_5 := (hb.block _ (lt_of_blk B6_6)).trans B6_6
          clear hb
          refine hK.out _ _ ⟨(KRight.cell_below T5 lA x0), (KRight.cell_below T5 lA x1), (KRight.cell_below T5 lB y0), (KRight.cell_below T5 lB y1)⟩ (fun hHeld => ?_)
          clear hK K
          refine norm_ (a' := ?_) ?_ ?_
          rotate_left
          · show Act.put _ (some 12) _ = _
            simp only [Act.put, List.setIfInBounds_toArray, List.set_cons_zero, List.set_cons_succ, i64_w, i32_w]
            rfl
          refine one_ (i := 7) (N := some 6) #[true, true, true, true, true, true, true, true, false, false] rfl rfl (by kernel_rfl) (by decide) (fun K hK => ?_)
          refine value_ (w1 := ?_) (v := ?_) (by rfl) rfl ?_ ?_
          rotate_left 2
          · go_simp
            constructor
            · rfl
            · rfl
          refine letter_ ?_
          intro W7 hW
          have T7 : Below w2.heap.size w2 W7 := by rw [hW]; exact T5.alloc T5.size _
          have B7_7 : W7.heap[W5.heap.size]? = some (.cells #[.float .f64 0, .float .f64 0] 24 (0, 0)) := by rw [hW]; exact heap_alloc_new _ _
          have B6_7 : W7.heap[W2.heap.size]? = some (.cells #[.float .f64 0, .float .f64 0] 24 (0, 0)) := by rw [hW]; exact blk_alloc B6_5 _
          clear hW
          refine hK.out _ _ ⟨(KRight.cell_below T7 lA x0), (KRight.cell_below T7 lA x1), (KRight.cell_below T7 lB y0), (KRight.cell_below T7 lB y1)⟩ (fun hHeld => ?_)
          clear hK K
          refine norm_ (a' := ?_) ?_ ?_
          rotate_left
          · show Act.put _ (some 6) _ = _
            simp only [Act.put, List.setIfInBounds_toArray, List.set_cons_zero, List.set_cons_succ, i64_w, i32_w]
            rfl
          exact norm_ (by simp only [putAll, Act.put, List.setIfInBounds_toArray, List.set_cons_zero, List.set_cons_succ]) (hCont (W2.heap.size, W5.heap.size) _ ⟨T7, B6_7, B7_7, Nat.ne_of_lt (lt_of_blk B6_5), (show w2.heap.size ≤ W2.heap.size from T2.size), (show w2.heap.size ≤ W5.heap.size from T5.size)⟩)
        · skip
          refine value_ (w1 := ?_) (v := ?_) (by rfl) rfl ?_ ?_
          rotate_left 2
          · go_simp
            constructor
            · rfl
            · rfl
          refine letter_ ?_
          intro W7 hW
          have T7 : Below w2.heap.size w2 W7 := by rw [hW]; exact T6.alloc T6.size _
          have B7_7 : W7.heap[W6.heap.size]? = some (.cells #[.float .f64 0, .float .f64 0] 24 (0, 0)) := by rw [hW]; exact heap_alloc_new _ _
          have B6_7 : W7.heap[W2.heap.size]? = some (.cells #[.float .f64 0, .float .f64 0] 24 (0, 0)) := by rw [hW]; exact blk_alloc B6_6 _
          clear hW
          refine hK.out _ _ ⟨(KRight.cell_below T7 lA x0), (KRight.cell_below T7 lA x1), (KRight.cell_below T7 lB y0), (KRight.cell_below T7 lB y1)⟩ (fun hHeld => ?_)
          clear hK K
          refine norm_ (a' := ?_) ?_ ?_
          rotate_left
          · show Act.put _ (some 6) _ = _
            simp only [Act.put, List.setIfInBounds_toArray, List.set_cons_zero, List.set_cons_succ, i64_w, i32_w]
            rfl
          refine one_ (i := 5) (N := some 12) #[true, true, true, true, true, true, true, true, false, false] rfl rfl (by kernel_rfl) (by decide) (fun K hK => ?_)
          refine goes_ Try.func17 (by kernel_rfl) rfl #[.agg #[.float .f64 b0, .float .f64 b1], .agg #[.float .f64 a0, .float .f64 a1]] (by rfl) rfl rfl (by simp only [List.map_toArray, List.map_cons, List.map_nil]; rfl) ?_
          with_reducible refine (c2.out _).mono ?_
          rintro e W5 ⟨rfl, hb⟩
          refine ⟨_, rfl, ?_⟩
          have T5 := below_step T7 hb
          have B6_5 := (hb.block _ (lt_of_blk B6_7)).trans B6_7
          have B7_5 := (hb.block _ (lt_of_blk B7_7)).trans B7_7
          clear hb
          refine hK.out _ _ ⟨(KRight.cell_below T5 lA x0), (KRight.cell_below T5 lA x1), (KRight.cell_below T5 lB y0), (KRight.cell_below T5 lB y1)⟩ (fun hHeld => ?_)
          clear hK K
          refine norm_ (a' := ?_) ?_ ?_
          rotate_left
          · show Act.put _ (some 12) _ = _
            simp only [Act.put, List.setIfInBounds_toArray, List.set_cons_zero, List.set_cons_succ, i64_w, i32_w]
            rfl
          exact norm_ (by simp only [putAll, Act.put, List.setIfInBounds_toArray, List.set_cons_zero, List.set_cons_succ]) (hCont (W2.heap.size, W6.heap.size) _ ⟨T5, B6_5, B7_5, Nat.ne_of_lt (lt_of_blk B6_6), (show w2.heap.size ≤ W2.heap.size from T2.size), (show w2.heap.size ≤ W6.heap.size from T6.size)⟩)
      · skip
        refine value_ (w1 := ?_) (v := ?_) (by rfl) rfl ?_ ?_
        rotate_left 2
        · go_simp
          constructor
          · rfl
          · rfl
        refine letter_ ?_
        intro W7 hW
        have T7 : Below w2.heap.size w2 W7 := by rw [hW]; exact T2.alloc T2.size _
        have B7_7 : W7.heap[W2.heap.size]? = some (.cells #[.float .f64 0, .float .f64 0] 24 (0, 0)) := by rw [hW]; exact heap_alloc_new _ _
        clear hW
        refine hK.out _ _ ⟨(KRight.cell_below T7 lA x0), (KRight.cell_below T7 lA x1), (KRight.cell_below T7 lB y0), (KRight.cell_below T7 lB y1)⟩ (fun hHeld => ?_)
        clear hK K
        refine norm_ (a' := ?_) ?_ ?_
        rotate_left
        · show Act.put _ (some 6) _ = _
          simp only [Act.put, List.setIfInBounds_toArray, List.set_cons_zero, List.set_cons_succ, i64_w, i32_w]
          rfl
        refine two_ (i := 5) (j := 6) (Ni := some 12) (Nj := some 5) #[true, true, true, true, true, true, false, true, false, false] #[true, true, true, true, true, false, true, true, false, false] rfl rfl rfl rfl (by kernel_rfl) (by decide) (by decide) (fun K hK => ?_) (fun K hK => ?_)
        · skip
          refine goes_ Try.func17 (by kernel_rfl) rfl #[.agg #[.float .f64 b0, .float .f64 b1], .agg #[.float .f64 a0, .float .f64 a1]] (by rfl) rfl rfl (by simp only [List.map_toArray, List.map_cons, List.map_nil]; rfl) ?_
          with_reducible refine (c2.out _).mono ?_
          rintro e W5 ⟨rfl, hb⟩
          refine ⟨_, rfl, ?_⟩
          have T5 := below_step T7 hb
          have B7_5 := (hb.block _ (lt_of_blk B7_7)).trans B7_7
          clear hb
          refine hK.out _ _ ⟨(KRight.cell_below T5 lA x0), (KRight.cell_below T5 lA x1), (KRight.cell_below T5 lB y0), (KRight.cell_below T5 lB y1)⟩ (fun hHeld => ?_)
          clear hK K
          refine norm_ (a' := ?_) ?_ ?_
          rotate_left
          · show Act.put _ (some 12) _ = _
            simp only [Act.put, List.setIfInBounds_toArray, List.set_cons_zero, List.set_cons_succ, i64_w, i32_w]
            rfl
          refine one_ (i := 6) (N := some 5) #[true, true, true, true, true, true, true, true, false, false] rfl rfl (by kernel_rfl) (by decide) (fun K hK => ?_)
          refine value_ (w1 := ?_) (v := ?_) (by rfl) rfl ?_ ?_
          rotate_left 2
          · go_simp
            constructor
            · rfl
            · rfl
          refine letter_ ?_
          intro W6 hW
          have T6 : Below w2.heap.size w2 W6 := by rw [hW]; exact T5.alloc T5.size _
          have B6_6 : W6.heap[W5.heap.size]? = some (.cells #[.float .f64 0, .float .f64 0] 24 (0, 0)) := by rw [hW]; exact heap_alloc_new _ _
          have B7_6 : W6.heap[W2.heap.size]? = some (.cells #[.float .f64 0, .float .f64 0] 24 (0, 0)) := by rw [hW]; exact blk_alloc B7_5 _
          clear hW
          refine hK.out _ _ ⟨(KRight.cell_below T6 lA x0), (KRight.cell_below T6 lA x1), (KRight.cell_below T6 lB y0), (KRight.cell_below T6 lB y1)⟩ (fun hHeld => ?_)
          clear hK K
          refine norm_ (a' := ?_) ?_ ?_
          rotate_left
          · show Act.put _ (some 5) _ = _
            simp only [Act.put, List.setIfInBounds_toArray, List.set_cons_zero, List.set_cons_succ, i64_w, i32_w]
            rfl
          exact norm_ (by simp only [putAll, Act.put, List.setIfInBounds_toArray, List.set_cons_zero, List.set_cons_succ]) (hCont (W5.heap.size, W2.heap.size) _ ⟨T6, B6_6, B7_6, Nat.ne_of_gt (lt_of_blk B7_5), (show w2.heap.size ≤ W5.heap.size from T5.size), (show w2.heap.size ≤ W2.heap.size from T2.size)⟩)
        · skip
          refine value_ (w1 := ?_) (v := ?_) (by rfl) rfl ?_ ?_
          rotate_left 2
          · go_simp
            constructor
            · rfl
            · rfl
          refine letter_ ?_
          intro W6 hW
          have T6 : Below w2.heap.size w2 W6 := by rw [hW]; exact T7.alloc T7.size _
          have B6_6 : W6.heap[W7.heap.size]? = some (.cells #[.float .f64 0, .float .f64 0] 24 (0, 0)) := by rw [hW]; exact heap_alloc_new _ _
          have B7_6 : W6.heap[W2.heap.size]? = some (.cells #[.float .f64 0, .float .f64 0] 24 (0, 0)) := by rw [hW]; exact blk_alloc B7_7 _
          clear hW
          refine hK.out _ _ ⟨(KRight.cell_below T6 lA x0), (KRight.cell_below T6 lA x1), (KRight.cell_below T6 lB y0), (KRight.cell_below T6 lB y1)⟩ (fun hHeld => ?_)
          clear hK K
          refine norm_ (a' := ?_) ?_ ?_
          rotate_left
          · show Act.put _ (some 5) _ = _
            simp only [Act.put, List.setIfInBounds_toArray, List.set_cons_zero, List.set_cons_succ, i64_w, i32_w]
            rfl
          refine one_ (i := 5) (N := some 12) #[true, true, true, true, true, true, true, true, false, false] rfl rfl (by kernel_rfl) (by decide) (fun K hK => ?_)
          refine goes_ Try.func17 (by kernel_rfl) rfl #[.agg #[.float .f64 b0, .float .f64 b1], .agg #[.float .f64 a0, .float .f64 a1]] (by rfl) rfl rfl (by simp only [List.map_toArray, List.map_cons, List.map_nil]; rfl) ?_
          with_reducible refine (c2.out _).mono ?_
          rintro e W5 ⟨rfl, hb⟩
          refine ⟨_, rfl, ?_⟩
          have T5 := below_step T6 hb
          have B7_5 := (hb.block _ (lt_of_blk B7_6)).trans B7_6
          have B6_5 := (hb.block _ (lt_of_blk B6_6)).trans B6_6
          clear hb
          refine hK.out _ _ ⟨(KRight.cell_below T5 lA x0), (KRight.cell_below T5 lA x1), (KRight.cell_below T5 lB y0), (KRight.cell_below T5 lB y1)⟩ (fun hHeld => ?_)
          clear hK K
          refine norm_ (a' := ?_) ?_ ?_
          rotate_left
          · show Act.put _ (some 12) _ = _
            simp only [Act.put, List.setIfInBounds_toArray, List.set_cons_zero, List.set_cons_succ, i64_w, i32_w]
            rfl
          exact norm_ (by simp only [putAll, Act.put, List.setIfInBounds_toArray, List.set_cons_zero, List.set_cons_succ]) (hCont (W7.heap.size, W2.heap.size) _ ⟨T5, B6_5, B7_5, Nat.ne_of_gt (lt_of_blk B7_7), (show w2.heap.size ≤ W7.heap.size from T7.size), (show w2.heap.size ≤ W2.heap.size from T2.size)⟩)
    · skip
      refine value_ (w1 := ?_) (v := ?_) (by rfl) rfl ?_ ?_
      rotate_left 2
      · go_simp
        constructor
        · rfl
        · rfl
      refine letter_ ?_
      intro W6 hW
      have T6 : Below w2.heap.size w2 W6 := by rw [hW]; exact T0.alloc T0.size _
      have B6_6 : W6.heap[w2.drew.heap.size]? = some (.cells #[.float .f64 0, .float .f64 0] 24 (0, 0)) := by rw [hW]; exact heap_alloc_new _ _
      clear hW
      refine hK.out _ _ ⟨(KRight.cell_below T6 lA x0), (KRight.cell_below T6 lA x1), (KRight.cell_below T6 lB y0), (KRight.cell_below T6 lB y1)⟩ (fun hHeld => ?_)
      clear hK K
      refine norm_ (a' := ?_) ?_ ?_
      rotate_left
      · show Act.put _ (some 5) _ = _
        simp only [Act.put, List.setIfInBounds_toArray, List.set_cons_zero, List.set_cons_succ, i64_w, i32_w]
        rfl
      refine two_ (i := 2) (j := 7) (Ni := some 9) (Nj := some 6) #[true, true, true, true, true, false, true, false, false, false] #[true, true, false, true, true, false, true, true, false, false] rfl rfl rfl rfl (by kernel_rfl) (by decide) (by decide) (fun K hK => ?_) (fun K hK => ?_)
      · skip
        refine goes_ Try.func17 (by kernel_rfl) rfl #[.agg #[.float .f64 a0, .float .f64 a1], .agg #[.float .f64 b0, .float .f64 b1]] (by rfl) rfl rfl (by simp only [List.map_toArray, List.map_cons, List.map_nil]; rfl) ?_
        with_reducible refine (c1.out _).mono ?_
        rintro e W2 ⟨rfl, hb⟩
        refine ⟨_, rfl, ?_⟩
        have T2 := below_step T6 hb
        have B6_2 := (hb.block _ (lt_of_blk B6_6)).trans B6_6
        clear hb
        refine hK.out _ _ ⟨(KRight.cell_below T2 lA x0), (KRight.cell_below T2 lA x1), (KRight.cell_below T2 lB y0), (KRight.cell_below T2 lB y1)⟩ (fun hHeld => ?_)
        clear hK K
        refine norm_ (a' := ?_) ?_ ?_
        rotate_left
        · show Act.put _ (some 9) _ = _
          simp only [Act.put, List.setIfInBounds_toArray, List.set_cons_zero, List.set_cons_succ, i64_w, i32_w]
          rfl
        refine two_ (i := 5) (j := 7) (Ni := some 12) (Nj := some 6) #[true, true, true, true, true, true, true, false, false, false] #[true, true, true, true, true, false, true, true, false, false] rfl rfl rfl rfl (by kernel_rfl) (by decide) (by decide) (fun K hK => ?_) (fun K hK => ?_)
        · skip
          refine goes_ Try.func17 (by kernel_rfl) rfl #[.agg #[.float .f64 b0, .float .f64 b1], .agg #[.float .f64 a0, .float .f64 a1]] (by rfl) rfl rfl (by simp only [List.map_toArray, List.map_cons, List.map_nil]; rfl) ?_
          with_reducible refine (c2.out _).mono ?_
          rintro e W5 ⟨rfl, hb⟩
          refine ⟨_, rfl, ?_⟩
          have T5 := below_step T2 hb
          have B6_5 := (hb.block _ (lt_of_blk B6_2)).trans B6_2
          clear hb
          refine hK.out _ _ ⟨(KRight.cell_below T5 lA x0), (KRight.cell_below T5 lA x1), (KRight.cell_below T5 lB y0), (KRight.cell_below T5 lB y1)⟩ (fun hHeld => ?_)
          clear hK K
          refine norm_ (a' := ?_) ?_ ?_
          rotate_left
          · show Act.put _ (some 12) _ = _
            simp only [Act.put, List.setIfInBounds_toArray, List.set_cons_zero, List.set_cons_succ, i64_w, i32_w]
            rfl
          refine one_ (i := 7) (N := some 6) #[true, true, true, true, true, true, true, true, false, false] rfl rfl (by kernel_rfl) (by decide) (fun K hK => ?_)
          refine value_ (w1 := ?_) (v := ?_) (by rfl) rfl ?_ ?_
          rotate_left 2
          · go_simp
            constructor
            · rfl
            · rfl
          refine letter_ ?_
          intro W7 hW
          have T7 : Below w2.heap.size w2 W7 := by rw [hW]; exact T5.alloc T5.size _
          have B7_7 : W7.heap[W5.heap.size]? = some (.cells #[.float .f64 0, .float .f64 0] 24 (0, 0)) := by rw [hW]; exact heap_alloc_new _ _
          have B6_7 : W7.heap[w2.heap.size]? = some (.cells #[.float .f64 0, .float .f64 0] 24 (0, 0)) := by rw [hW]; exact blk_alloc B6_5 _
          clear hW
          refine hK.out _ _ ⟨(KRight.cell_below T7 lA x0), (KRight.cell_below T7 lA x1), (KRight.cell_below T7 lB y0), (KRight.cell_below T7 lB y1)⟩ (fun hHeld => ?_)
          clear hK K
          refine norm_ (a' := ?_) ?_ ?_
          rotate_left
          · show Act.put _ (some 6) _ = _
            simp only [Act.put, List.setIfInBounds_toArray, List.set_cons_zero, List.set_cons_succ, i64_w, i32_w]
            rfl
          exact norm_ (by simp only [putAll, Act.put, List.setIfInBounds_toArray, List.set_cons_zero, List.set_cons_succ]) (hCont (w2.heap.size, W5.heap.size) _ ⟨T7, B6_7, B7_7, Nat.ne_of_lt (lt_of_blk B6_5), (show w2.heap.size ≤ w2.heap.size from T0.size), (show w2.heap.size ≤ W5.heap.size from T5.size)⟩)
        · skip
          refine value_ (w1 := ?_) (v := ?_) (by rfl) rfl ?_ ?_
          rotate_left 2
          · go_simp
            constructor
            · rfl
            · rfl
          refine letter_ ?_
          intro W7 hW
          have T7 : Below w2.heap.size w2 W7 := by rw [hW]; exact T2.alloc T2.size _
          have B7_7 : W7.heap[W2.heap.size]? = some (.cells #[.float .f64 0, .float .f64 0] 24 (0, 0)) := by rw [hW]; exact heap_alloc_new _ _
          have B6_7 : W7.heap[w2.heap.size]? = some (.cells #[.float .f64 0, .float .f64 0] 24 (0, 0)) := by rw [hW]; exact blk_alloc B6_2 _
          clear hW
          refine hK.out _ _ ⟨(KRight.cell_below T7 lA x0), (KRight.cell_below T7 lA x1), (KRight.cell_below T7 lB y0), (KRight.cell_below T7 lB y1)⟩ (fun hHeld => ?_)
          clear hK K
          refine norm_ (a' := ?_) ?_ ?_
          rotate_left
          · show Act.put _ (some 6) _ = _
            simp only [Act.put, List.setIfInBounds_toArray, List.set_cons_zero, List.set_cons_succ, i64_w, i32_w]
            rfl
          refine one_ (i := 5) (N := some 12) #[true, true, true, true, true, true, true, true, false, false] rfl rfl (by kernel_rfl) (by decide) (fun K hK => ?_)
          refine goes_ Try.func17 (by kernel_rfl) rfl #[.agg #[.float .f64 b0, .float .f64 b1], .agg #[.float .f64 a0, .float .f64 a1]] (by rfl) rfl rfl (by simp only [List.map_toArray, List.map_cons, List.map_nil]; rfl) ?_
          with_reducible refine (c2.out _).mono ?_
          rintro e W5 ⟨rfl, hb⟩
          refine ⟨_, rfl, ?_⟩
          have T5 := below_step T7 hb
          have B6_5 := (hb.block _ (lt_of_blk B6_7)).trans B6_7
          have B7_5 := (hb.block _ (lt_of_blk B7_7)).trans B7_7
          clear hb
          refine hK.out _ _ ⟨(KRight.cell_below T5 lA x0), (KRight.cell_below T5 lA x1), (KRight.cell_below T5 lB y0), (KRight.cell_below T5 lB y1)⟩ (fun hHeld => ?_)
          clear hK K
          refine norm_ (a' := ?_) ?_ ?_
          rotate_left
          · show Act.put _ (some 12) _ = _
            simp only [Act.put, List.setIfInBounds_toArray, List.set_cons_zero, List.set_cons_succ, i64_w, i32_w]
            rfl
          exact norm_ (by simp only [putAll, Act.put, List.setIfInBounds_toArray, List.set_cons_zero, List.set_cons_succ]) (hCont (w2.heap.size, W2.heap.size) _ ⟨T5, B6_5, B7_5, Nat.ne_of_lt (lt_of_blk B6_2), (show w2.heap.size ≤ w2.heap.size from T0.size), (show w2.heap.size ≤ W2.heap.size from T2.size)⟩)
      · skip
        refine value_ (w1 := ?_) (v := ?_) (by rfl) rfl ?_ ?_
        rotate_left 2
        · go_simp
          constructor
          · rfl
          · rfl
        refine letter_ ?_
        intro W7 hW
        have T7 : Below w2.heap.size w2 W7 := by rw [hW]; exact T6.alloc T6.size _
        have B7_7 : W7.heap[W6.heap.size]? = some (.cells #[.float .f64 0, .float .f64 0] 24 (0, 0)) := by rw [hW]; exact heap_alloc_new _ _
        have B6_7 : W7.heap[w2.heap.size]? = some (.cells #[.float .f64 0, .float .f64 0] 24 (0, 0)) := by rw [hW]; exact blk_alloc B6_6 _
        clear hW
        refine hK.out _ _ ⟨(KRight.cell_below T7 lA x0), (KRight.cell_below T7 lA x1), (KRight.cell_below T7 lB y0), (KRight.cell_below T7 lB y1)⟩ (fun hHeld => ?_)
        clear hK K
        refine norm_ (a' := ?_) ?_ ?_
        rotate_left
        · show Act.put _ (some 6) _ = _
          simp only [Act.put, List.setIfInBounds_toArray, List.set_cons_zero, List.set_cons_succ, i64_w, i32_w]
          rfl
        refine one_ (i := 2) (N := some 9) #[true, true, true, true, true, false, true, true, false, false] rfl rfl (by kernel_rfl) (by decide) (fun K hK => ?_)
        refine goes_ Try.func17 (by kernel_rfl) rfl #[.agg #[.float .f64 a0, .float .f64 a1], .agg #[.float .f64 b0, .float .f64 b1]] (by rfl) rfl rfl (by simp only [List.map_toArray, List.map_cons, List.map_nil]; rfl) ?_
        with_reducible refine (c1.out _).mono ?_
        rintro e W2 ⟨rfl, hb⟩
        refine ⟨_, rfl, ?_⟩
        have T2 := below_step T7 hb
        have B6_2 := (hb.block _ (lt_of_blk B6_7)).trans B6_7
        have B7_2 := (hb.block _ (lt_of_blk B7_7)).trans B7_7
        clear hb
        refine hK.out _ _ ⟨(KRight.cell_below T2 lA x0), (KRight.cell_below T2 lA x1), (KRight.cell_below T2 lB y0), (KRight.cell_below T2 lB y1)⟩ (fun hHeld => ?_)
        clear hK K
        refine norm_ (a' := ?_) ?_ ?_
        rotate_left
        · show Act.put _ (some 9) _ = _
          simp only [Act.put, List.setIfInBounds_toArray, List.set_cons_zero, List.set_cons_succ, i64_w, i32_w]
          rfl
        refine one_ (i := 5) (N := some 12) #[true, true, true, true, true, true, true, true, false, false] rfl rfl (by kernel_rfl) (by decide) (fun K hK => ?_)
        refine goes_ Try.func17 (by kernel_rfl) rfl #[.agg #[.float .f64 b0, .float .f64 b1], .agg #[.float .f64 a0, .float .f64 a1]] (by rfl) rfl rfl (by simp only [List.map_toArray, List.map_cons, List.map_nil]; rfl) ?_
        with_reducible refine (c2.out _).mono ?_
        rintro e W5 ⟨rfl, hb⟩
        refine ⟨_, rfl, ?_⟩
        have T5 := below_step T2 hb
        have B6_5 := (hb.block _ (lt_of_blk B6_2)).trans B6_2
        have B7_5 := (hb.block _ (lt_of_blk B7_2)).trans B7_2
        clear hb
        refine hK.out _ _ ⟨(KRight.cell_below T5 lA x0), (KRight.cell_below T5 lA x1), (KRight.cell_below T5 lB y0), (KRight.cell_below T5 lB y1)⟩ (fun hHeld => ?_)
        clear hK K
        refine norm_ (a' := ?_) ?_ ?_
        rotate_left
        · show Act.put _ (some 12) _ = _
          simp only [Act.put, List.setIfInBounds_toArray, List.set_cons_zero, List.set_cons_succ, i64_w, i32_w]
          rfl
        exact norm_ (by simp only [putAll, Act.put, List.setIfInBounds_toArray, List.set_cons_zero, List.set_cons_succ]) (hCont (w2.heap.size, W6.heap.size) _ ⟨T5, B6_5, B7_5, Nat.ne_of_lt (lt_of_blk B6_6), (show w2.heap.size ≤ w2.heap.size from T0.size), (show w2.heap.size ≤ W6.heap.size from T6.size)⟩)
    · skip
      refine value_ (w1 := ?_) (v := ?_) (by rfl) rfl ?_ ?_
      rotate_left 2
      · go_simp
        constructor
        · rfl
        · rfl
      refine letter_ ?_
      intro W7 hW
      have T7 : Below w2.heap.size w2 W7 := by rw [hW]; exact T0.alloc T0.size _
      have B7_7 : W7.heap[w2.drew.heap.size]? = some (.cells #[.float .f64 0, .float .f64 0] 24 (0, 0)) := by rw [hW]; exact heap_alloc_new _ _
      clear hW
      refine hK.out _ _ ⟨(KRight.cell_below T7 lA x0), (KRight.cell_below T7 lA x1), (KRight.cell_below T7 lB y0), (KRight.cell_below T7 lB y1)⟩ (fun hHeld => ?_)
      clear hK K
      refine norm_ (a' := ?_) ?_ ?_
      rotate_left
      · show Act.put _ (some 6) _ = _
        simp only [Act.put, List.setIfInBounds_toArray, List.set_cons_zero, List.set_cons_succ, i64_w, i32_w]
        rfl
      refine two_ (i := 2) (j := 6) (Ni := some 9) (Nj := some 5) #[true, true, true, true, true, false, false, true, false, false] #[true, true, false, true, true, false, true, true, false, false] rfl rfl rfl rfl (by kernel_rfl) (by decide) (by decide) (fun K hK => ?_) (fun K hK => ?_)
      · skip
        refine goes_ Try.func17 (by kernel_rfl) rfl #[.agg #[.float .f64 a0, .float .f64 a1], .agg #[.float .f64 b0, .float .f64 b1]] (by rfl) rfl rfl (by simp only [List.map_toArray, List.map_cons, List.map_nil]; rfl) ?_
        with_reducible refine (c1.out _).mono ?_
        rintro e W2 ⟨rfl, hb⟩
        refine ⟨_, rfl, ?_⟩
        have T2 := below_step T7 hb
        have B7_2 := (hb.block _ (lt_of_blk B7_7)).trans B7_7
        clear hb
        refine hK.out _ _ ⟨(KRight.cell_below T2 lA x0), (KRight.cell_below T2 lA x1), (KRight.cell_below T2 lB y0), (KRight.cell_below T2 lB y1)⟩ (fun hHeld => ?_)
        clear hK K
        refine norm_ (a' := ?_) ?_ ?_
        rotate_left
        · show Act.put _ (some 9) _ = _
          simp only [Act.put, List.setIfInBounds_toArray, List.set_cons_zero, List.set_cons_succ, i64_w, i32_w]
          rfl
        refine two_ (i := 5) (j := 6) (Ni := some 12) (Nj := some 5) #[true, true, true, true, true, true, false, true, false, false] #[true, true, true, true, true, false, true, true, false, false] rfl rfl rfl rfl (by kernel_rfl) (by decide) (by decide) (fun K hK => ?_) (fun K hK => ?_)
        · skip
          refine goes_ Try.func17 (by kernel_rfl) rfl #[.agg #[.float .f64 b0, .float .f64 b1], .agg #[.float .f64 a0, .float .f64 a1]] (by rfl) rfl rfl (by simp only [List.map_toArray, List.map_cons, List.map_nil]; rfl) ?_
          with_reducible refine (c2.out _).mono ?_
          rintro e W5 ⟨rfl, hb⟩
          refine ⟨_, rfl, ?_⟩
          have T5 := below_step T2 hb
          have B7_5 := (hb.block _ (lt_of_blk B7_2)).trans B7_2
          clear hb
          refine hK.out _ _ ⟨(KRight.cell_below T5 lA x0), (KRight.cell_below T5 lA x1), (KRight.cell_below T5 lB y0), (KRight.cell_below T5 lB y1)⟩ (fun hHeld => ?_)
          clear hK K
          refine norm_ (a' := ?_) ?_ ?_
          rotate_left
          · show Act.put _ (some 12) _ = _
            simp only [Act.put, List.setIfInBounds_toArray, List.set_cons_zero, List.set_cons_succ, i64_w, i32_w]
            rfl
          refine one_ (i := 6) (N := some 5) #[true, true, true, true, true, true, true, true, false, false] rfl rfl (by kernel_rfl) (by decide) (fun K hK => ?_)
          refine value_ (w1 := ?_) (v := ?_) (by rfl) rfl ?_ ?_
          rotate_left 2
          · go_simp
            constructor
            · rfl
            · rfl
          refine letter_ ?_
          intro W6 hW
          have T6 : Below w2.heap.size w2 W6 := by rw [hW]; exact T5.alloc T5.size _
          have B6_6 : W6.heap[W5.heap.size]? = some (.cells #[.float .f64 0, .float .f64 0] 24 (0, 0)) := by rw [hW]; exact heap_alloc_new _ _
          have B7_6 : W6.heap[w2.heap.size]? = some (.cells #[.float .f64 0, .float .f64 0] 24 (0, 0)) := by rw [hW]; exact blk_alloc B7_5 _
          clear hW
          refine hK.out _ _ ⟨(KRight.cell_below T6 lA x0), (KRight.cell_below T6 lA x1), (KRight.cell_below T6 lB y0), (KRight.cell_below T6 lB y1)⟩ (fun hHeld => ?_)
          clear hK K
          refine norm_ (a' := ?_) ?_ ?_
          rotate_left
          · show Act.put _ (some 5) _ = _
            simp only [Act.put, List.setIfInBounds_toArray, List.set_cons_zero, List.set_cons_succ, i64_w, i32_w]
            rfl
          exact norm_ (by simp only [putAll, Act.put, List.setIfInBounds_toArray, List.set_cons_zero, List.set_cons_succ]) (hCont (W5.heap.size, w2.heap.size) _ ⟨T6, B6_6, B7_6, Nat.ne_of_gt (lt_of_blk B7_5), (show w2.heap.size ≤ W5.heap.size from T5.size), (show w2.heap.size ≤ w2.heap.size from T0.size)⟩)
        · skip
          refine value_ (w1 := ?_) (v := ?_) (by rfl) rfl ?_ ?_
          rotate_left 2
          · go_simp
            constructor
            · rfl
            · rfl
          refine letter_ ?_
          intro W6 hW
          have T6 : Below w2.heap.size w2 W6 := by rw [hW]; exact T2.alloc T2.size _
          have B6_6 : W6.heap[W2.heap.size]? = some (.cells #[.float .f64 0, .float .f64 0] 24 (0, 0)) := by rw [hW]; exact heap_alloc_new _ _
          have B7_6 : W6.heap[w2.heap.size]? = some (.cells #[.float .f64 0, .float .f64 0] 24 (0, 0)) := by rw [hW]; exact blk_alloc B7_2 _
          clear hW
          refine hK.out _ _ ⟨(KRight.cell_below T6 lA x0), (KRight.cell_below T6 lA x1), (KRight.cell_below T6 lB y0), (KRight.cell_below T6 lB y1)⟩ (fun hHeld => ?_)
          clear hK K
          refine norm_ (a' := ?_) ?_ ?_
          rotate_left
          · show Act.put _ (some 5) _ = _
            simp only [Act.put, List.setIfInBounds_toArray, List.set_cons_zero, List.set_cons_succ, i64_w, i32_w]
            rfl
          refine one_ (i := 5) (N := some 12) #[true, true, true, true, true, true, true, true, false, false] rfl rfl (by kernel_rfl) (by decide) (fun K hK => ?_)
          refine goes_ Try.func17 (by kernel_rfl) rfl #[.agg #[.float .f64 b0, .float .f64 b1], .agg #[.float .f64 a0, .float .f64 a1]] (by rfl) rfl rfl (by simp only [List.map_toArray, List.map_cons, List.map_nil]; rfl) ?_
          with_reducible refine (c2.out _).mono ?_
          rintro e W5 ⟨rfl, hb⟩
          refine ⟨_, rfl, ?_⟩
          have T5 := below_step T6 hb
          have B7_5 := (hb.block _ (lt_of_blk B7_6)).trans B7_6
          have B6_5 := (hb.block _ (lt_of_blk B6_6)).trans B6_6
          clear hb
          refine hK.out _ _ ⟨(KRight.cell_below T5 lA x0), (KRight.cell_below T5 lA x1), (KRight.cell_below T5 lB y0), (KRight.cell_below T5 lB y1)⟩ (fun hHeld => ?_)
          clear hK K
          refine norm_ (a' := ?_) ?_ ?_
          rotate_left
          · show Act.put _ (some 12) _ = _
            simp only [Act.put, List.setIfInBounds_toArray, List.set_cons_zero, List.set_cons_succ, i64_w, i32_w]
            rfl
          exact norm_ (by simp only [putAll, Act.put, List.setIfInBounds_toArray, List.set_cons_zero, List.set_cons_succ]) (hCont (W2.heap.size, w2.heap.size) _ ⟨T5, B6_5, B7_5, Nat.ne_of_gt (lt_of_blk B7_2), (show w2.heap.size ≤ W2.heap.size from T2.size), (show w2.heap.size ≤ w2.heap.size from T0.size)⟩)
      · skip
        refine value_ (w1 := ?_) (v := ?_) (by rfl) rfl ?_ ?_
        rotate_left 2
        · go_simp
          constructor
          · rfl
          · rfl
        refine letter_ ?_
        intro W6 hW
        have T6 : Below w2.heap.size w2 W6 := by rw [hW]; exact T7.alloc T7.size _
        have B6_6 : W6.heap[W7.heap.size]? = some (.cells #[.float .f64 0, .float .f64 0] 24 (0, 0)) := by rw [hW]; exact heap_alloc_new _ _
        have B7_6 : W6.heap[w2.heap.size]? = some (.cells #[.float .f64 0, .float .f64 0] 24 (0, 0)) := by rw [hW]; exact blk_alloc B7_7 _
        clear hW
        refine hK.out _ _ ⟨(KRight.cell_below T6 lA x0), (KRight.cell_below T6 lA x1), (KRight.cell_below T6 lB y0), (KRight.cell_below T6 lB y1)⟩ (fun hHeld => ?_)
        clear hK K
        refine norm_ (a' := ?_) ?_ ?_
        rotate_left
        · show Act.put _ (some 5) _ = _
          simp only [Act.put, List.setIfInBounds_toArray, List.set_cons_zero, List.set_cons_succ, i64_w, i32_w]
          rfl
        refine one_ (i := 2) (N := some 9) #[true, true, true, true, true, false, true, true, false, false] rfl rfl (by kernel_rfl) (by decide) (fun K hK => ?_)
        refine goes_ Try.func17 (by kernel_rfl) rfl #[.agg #[.float .f64 a0, .float .f64 a1], .agg #[.float .f64 b0, .float .f64 b1]] (by rfl) rfl rfl (by simp only [List.map_toArray, List.map_cons, List.map_nil]; rfl) ?_
        with_reducible refine (c1.out _).mono ?_
        rintro e W2 ⟨rfl, hb⟩
        refine ⟨_, rfl, ?_⟩
        have T2 := below_step T6 hb
        have B7_2 := (hb.block _ (lt_of_blk B7_6)).trans B7_6
        have B6_2 := (hb.block _ (lt_of_blk B6_6)).trans B6_6
        clear hb
        refine hK.out _ _ ⟨(KRight.cell_below T2 lA x0), (KRight.cell_below T2 lA x1), (KRight.cell_below T2 lB y0), (KRight.cell_below T2 lB y1)⟩ (fun hHeld => ?_)
        clear hK K
        refine norm_ (a' := ?_) ?_ ?_
        rotate_left
        · show Act.put _ (some 9) _ = _
          simp only [Act.put, List.setIfInBounds_toArray, List.set_cons_zero, List.set_cons_succ, i64_w, i32_w]
          rfl
        refine one_ (i := 5) (N := some 12) #[true, true, true, true, true, true, true, true, false, false] rfl rfl (by kernel_rfl) (by decide) (fun K hK => ?_)
        refine goes_ Try.func17 (by kernel_rfl) rfl #[.agg #[.float .f64 b0, .float .f64 b1], .agg #[.float .f64 a0, .float .f64 a1]] (by rfl) rfl rfl (by simp only [List.map_toArray, List.map_cons, List.map_nil]; rfl) ?_
        with_reducible refine (c2.out _).mono ?_
        rintro e W5 ⟨rfl, hb⟩
        refine ⟨_, rfl, ?_⟩
        have T5 := below_step T2 hb
        have B7_5 := (hb.block _ (lt_of_blk B7_2)).trans B7_2
        have B6_5 := (hb.block _ (lt_of_blk B6_2)).trans B6_2
        clear hb
        refine hK.out _ _ ⟨(KRight.cell_below T5 lA x0), (KRight.cell_below T5 lA x1), (KRight.cell_below T5 lB y0), (KRight.cell_below T5 lB y1)⟩ (fun hHeld => ?_)
        clear hK K
        refine norm_ (a' := ?_) ?_ ?_
        rotate_left
        · show Act.put _ (some 12) _ = _
          simp only [Act.put, List.setIfInBounds_toArray, List.set_cons_zero, List.set_cons_succ, i64_w, i32_w]
          rfl
        exact norm_ (by simp only [putAll, Act.put, List.setIfInBounds_toArray, List.set_cons_zero, List.set_cons_succ]) (hCont (W7.heap.size, w2.heap.size) _ ⟨T5, B6_5, B7_5, Nat.ne_of_gt (lt_of_blk B7_7), (show w2.heap.size ≤ W7.heap.size from T7.size), (show w2.heap.size ≤ w2.heap.size from T0.size)⟩)
  rintro ⟨p5, p6⟩ W ⟨TW, d5, d6, ne, g5, g6⟩
  have hHeld : True := trivial
  refine norm_ (a' := ?_) ?_ ?_
  rotate_left
  · simp only [putAll, Act.put, List.setIfInBounds_toArray, List.set_cons_zero, List.set_cons_succ]
    rfl
  refine last_ (i := 8) (N := none) #[true, true, true, true, true, true, true, true, true, false] rfl rfl (by kernel_rfl) (by decide) (fun K hK => ?_)
  obtain ⟨z0, z1, z2, z3, z4⟩ := set_two d5 (.float .f64 l0) (.float .f64 l1)
  refine skip_ (w1 := ?_) (by rfl) rfl ?_ ?_
  rotate_left
  · go_simp
    rfl
  refine letter_ ?_
  intro W8 hW8
  have d7 : W8.heap[p6]? = some (.cells #[.float .f64 0, .float .f64 0] 24 (0, 0)) := by rw [hW8]; exact set_other (set_other d6 (Ne.symm ne)) (Ne.symm ne)
  have d8 : W8.heap[p5]? = some (.cells #[.float .f64 l0, .float .f64 l1] 24 (0, 0)) := by rw [hW8]; exact z4
  have T8 : Below w2.heap.size w2 W8 := by rw [hW8]; exact below_set (below_set TW g5 _) g5 _
  clear hW8 z0 z1 z2 z3 z4
  obtain ⟨z0, z1, z2, z3, z4⟩ := set_two d7 (.float .f64 k0) (.float .f64 k1)
  refine hK.out _ _ ?_
  clear hK K
  refine last_ (i := 9) (N := none) #[true, true, true, true, true, true, true, true, true, true] rfl rfl (by kernel_rfl) (by decide) (fun K hK => ?_)
  refine skip_ (w1 := ?_) (by rfl) rfl ?_ ?_
  rotate_left
  · go_simp
    rfl
  refine letter_ ?_
  intro W9 hW9
  have d9 : W9.heap[p5]? = some (.cells #[.float .f64 l0, .float .f64 l1] 24 (0, 0)) := by rw [hW9]; exact set_other (set_other d8 ne) ne
  have d10 : W9.heap[p6]? = some (.cells #[.float .f64 k0, .float .f64 k1] 24 (0, 0)) := by rw [hW9]; exact z4
  have T9 : Below w2.heap.size w2 W9 := by rw [hW9]; exact below_set (below_set T8 g6 _) g6 _
  clear hW9 z0 z1 z2 z3 z4
  refine hK.out _ _ ?_
  clear hK K
  refine done_ (by kernel_rfl) ?_
  have D5 := Lib.hid d9
  have D6 := Lib.hid d10
  have BA := Lib.hid ((T9.block _ lA).trans BA.out)
  have BB := Lib.hid ((T9.block _ lB).trans BB.out)
  have HB : Hid (Below w.heap.size w W9) := Lib.hid (by have h1 := HB.out; rw [← HQ.out] at h1; exact below_step h1 T9)
  clear d5 d6 d7 d8 d9 d10 T8 T9 TW ne g5 g6 lA lB x0 x1 y0 y1 T0 c1 c2
  have x0 := blk_cell BA.out 0 (.float .f64 a0) rfl
  have x1 := blk_cell BA.out 1 (.float .f64 a1) rfl
  have y0 := blk_cell BB.out 0 (.float .f64 b0) rfl
  have y1 := blk_cell BB.out 1 (.float .f64 b1) rfl
  go_wp2_with fail
  refine (right_is _ _ true ha0 ha1 hRa _).mono ?_
  rintro e w10 ⟨rfl, hb⟩
  have BA := Lib.hid ((hb.block _ (lt_of_blk BA.out)).trans BA.out)
  have BB := Lib.hid ((hb.block _ (lt_of_blk BB.out)).trans BB.out)
  have D5 := Lib.hid ((hb.block _ (lt_of_blk D5.out)).trans D5.out)
  have D6 := Lib.hid ((hb.block _ (lt_of_blk D6.out)).trans D6.out)
  have HB := Lib.hid (below_step HB.out hb)
  clear hb
  clear x0 x1 y0 y1
  have x0 := blk_cell BA.out 0 (.float .f64 a0) rfl
  have x1 := blk_cell BA.out 1 (.float .f64 a1) rfl
  have y0 := blk_cell BB.out 0 (.float .f64 b0) rfl
  have y1 := blk_cell BB.out 1 (.float .f64 b1) rfl
  go_wp2_with fail
  refine (right_is _ _ true hb0 hb1 hRb _).mono ?_
  rintro e w11 ⟨rfl, hb⟩
  have BA := Lib.hid ((hb.block _ (lt_of_blk BA.out)).trans BA.out)
  have BB := Lib.hid ((hb.block _ (lt_of_blk BB.out)).trans BB.out)
  have D5 := Lib.hid ((hb.block _ (lt_of_blk D5.out)).trans D5.out)
  have D6 := Lib.hid ((hb.block _ (lt_of_blk D6.out)).trans D6.out)
  have HB := Lib.hid (below_step HB.out hb)
  clear hb
  clear x0 x1 y0 y1
  have x0 := blk_cell BA.out 0 (.float .f64 a0) rfl
  have x1 := blk_cell BA.out 1 (.float .f64 a1) rfl
  have y0 := blk_cell BB.out 0 (.float .f64 b0) rfl
  have y1 := blk_cell BB.out 1 (.float .f64 b1) rfl
  have u0 := blk_cell D5.out 0 (.float .f64 l0) rfl
  have u1 := blk_cell D5.out 1 (.float .f64 l1) rfl
  have v0 := blk_cell D6.out 0 (.float .f64 k0) rfl
  have v1 := blk_cell D6.out 1 (.float .f64 k1) rfl
  go_wp2
  obtain ⟨e1, e2, e3, e4, e5, e6⟩ := E1.out
  have hse := HSE.out
  refine start_ (n := 55) (S := fun w' => w'.cell? ⟨qa, 0, none⟩ = some (.float .f64 a0) ∧ w'.cell? ⟨qa, 1, none⟩ = some (.float .f64 a1) ∧ w'.cell? ⟨qb, 0, none⟩ = some (.float .f64 b0) ∧ w'.cell? ⟨qb, 1, none⟩ = some (.float .f64 b1) ∧ w'.cell? ⟨p5, 0, none⟩ = some (.float .f64 l0) ∧ w'.cell? ⟨p5, 1, none⟩ = some (.float .f64 l1) ∧ w'.cell? ⟨p6, 0, none⟩ = some (.float .f64 k0) ∧ w'.cell? ⟨p6, 1, none⟩ = some (.float .f64 k1)) (ds := []) #[false, false, false, false, false, false, false, false, false, false, false, false, false, false, false, false, false, false, false, false, false, false, false, false, false, false, false, false, false, false, false, false, false, false, false, false, false, false, false, false, false, false, false, false, false, false, false, false, false, false, false, false, false, false, false] (by kernel_rfl) rfl rfl ⟨x0, x1, y0, y1, u0, u1, v0, v1⟩ (fun hHeld => ?_)
  refine take_ (i := 0) (N := some 38) (v := ?_) (a' := ?_) #[true, false, false, false, false, false, false, false, false, false, false, false, false, false, false, false, false, false, false, false, false, false, false, false, false, false, false, false, false, false, false, false, false, false, false, false, false, false, false, false, false, false, false, false, false, false, false, false, false, false, false, false, false, false, false] rfl rfl (by kernel_rfl) (fun _ _ _ h => h) (Or.inl ⟨by rfl, ?_⟩) hHeld ?_ ?_
  rotate_left
  · rintro w' ⟨s0, s1, s2, s3, s4, s5, s6, s7⟩
    go_simp
    with_reducible rfl
  rotate_left
  · simp only [Act.put, List.setIfInBounds_toArray, List.set_cons_zero, List.set_cons_succ, i64_w, i32_w]
    rfl
  refine one_ (i := 1) (N := some 39) #[true, true, false, false, false, false, false, false, false, false, false, false, false, false, false, false, false, false, false, false, false, false, false, false, false, false, false, false, false, false, false, false, false, false, false, false, false, false, false, false, false, false, false, false, false, false, false, false, false, false, false, false, false, false, false] rfl rfl (by kernel_rfl) (by decide) (fun K hK => ?_)
  refine goes_ Try.func14 (by kernel_rfl) rfl #[.agg #[.float .f64 l0, .float .f64 l1]] (by rfl) rfl rfl (by simp only [List.map_toArray, List.map_cons, List.map_nil]; rfl) ?_
  with_reducible refine (right_is l0 l1 true hl0 hl1 hRx _).mono ?_
  rintro e w20 ⟨rfl, hb⟩
  refine ⟨_, rfl, ?_⟩
  have H20 := below_step ((Below.refl _ _).drew) hb
  refine hK.out _ _ ⟨(below_of hb hHeld.1), (below_of hb hHeld.2.1), (below_of hb hHeld.2.2.1), (below_of hb hHeld.2.2.2.1), (below_of hb hHeld.2.2.2.2.1), (below_of hb hHeld.2.2.2.2.2.1), (below_of hb hHeld.2.2.2.2.2.2.1), (below_of hb hHeld.2.2.2.2.2.2.2)⟩ (fun hHeld => ?_)
  clear hK K
  refine norm_ (a' := ?_) ?_ ?_
  rotate_left
  · show Act.put _ (some 39) _ = _
    simp only [Act.put, List.setIfInBounds_toArray, List.set_cons_zero, List.set_cons_succ, i64_w, i32_w]
    rfl
  refine pure_ (i := 2) (N := some 40) (v := ?_) (a' := ?_) #[true, true, true, false, false, false, false, false, false, false, false, false, false, false, false, false, false, false, false, false, false, false, false, false, false, false, false, false, false, false, false, false, false, false, false, false, false, false, false, false, false, false, false, false, false, false, false, false, false, false, false, false, false, false, false] rfl rfl (by kernel_rfl) (fun _ _ _ h => h) (Or.inl ⟨by rfl, ?_⟩) ?_ ?_
  rotate_left
  · intro w'
    go_simp
    with_reducible rfl
  rotate_left
  · simp only [Act.put, List.setIfInBounds_toArray, List.set_cons_zero, List.set_cons_succ, i64_w, i32_w]
    rfl
  refine pure_ (i := 3) (N := some 41) (v := ?_) (a' := ?_) #[true, true, true, true, false, false, false, false, false, false, false, false, false, false, false, false, false, false, false, false, false, false, false, false, false, false, false, false, false, false, false, false, false, false, false, false, false, false, false, false, false, false, false, false, false, false, false, false, false, false, false, false, false, false, false] rfl rfl (by kernel_rfl) (fun _ _ _ h => h) (Or.inl ⟨by rfl, ?_⟩) ?_ ?_
  rotate_left
  · intro w'
    go_simp
    with_reducible rfl
  rotate_left
  · simp only [Act.put, List.setIfInBounds_toArray, List.set_cons_zero, List.set_cons_succ, i64_w, i32_w]
    rfl
  refine pure_ (i := 5) (N := some 43) (v := ?_) (a' := ?_) #[true, true, true, true, false, true, false, false, false, false, false, false, false, false, false, false, false, false, false, false, false, false, false, false, false, false, false, false, false, false, false, false, false, false, false, false, false, false, false, false, false, false, false, false, false, false, false, false, false, false, false, false, false, false, false] rfl rfl (by kernel_rfl) (fun _ _ _ h => h) (Or.inl ⟨by rfl, ?_⟩) ?_ ?_
  rotate_left
  · intro w'
    go_simp
    with_reducible rfl
  rotate_left
  · simp only [Act.put, List.setIfInBounds_toArray, List.set_cons_zero, List.set_cons_succ, i64_w, i32_w]
    rfl
  refine take_ (i := 4) (N := some 42) (v := ?_) (a' := ?_) #[true, true, true, true, true, true, false, false, false, false, false, false, false, false, false, false, false, false, false, false, false, false, false, false, false, false, false, false, false, false, false, false, false, false, false, false, false, false, false, false, false, false, false, false, false, false, false, false, false, false, false, false, false, false, false] rfl rfl (by kernel_rfl) (fun _ _ _ h => h) (Or.inl ⟨by rfl, ?_⟩) hHeld ?_ ?_
  rotate_left
  · rintro w' ⟨s0, s1, s2, s3, s4, s5, s6, s7⟩
    go_simp
    with_reducible rfl
  rotate_left
  · simp only [Act.put, List.setIfInBounds_toArray, List.set_cons_zero, List.set_cons_succ, i64_w, i32_w]
    rfl
  refine take_ (i := 6) (N := some 44) (v := ?_) (a' := ?_) #[true, true, true, true, true, true, true, false, false, false, false, false, false, false, false, false, false, false, false, false, false, false, false, false, false, false, false, false, false, false, false, false, false, false, false, false, false, false, false, false, false, false, false, false, false, false, false, false, false, false, false, false, false, false, false] rfl rfl (by kernel_rfl) (fun _ _ _ h => h) (Or.inl ⟨by rfl, ?_⟩) hHeld ?_ ?_
  rotate_left
  · rintro w' ⟨s0, s1, s2, s3, s4, s5, s6, s7⟩
    go_simp
    with_reducible rfl
  rotate_left
  · simp only [Act.put, List.setIfInBounds_toArray, List.set_cons_zero, List.set_cons_succ, i64_w, i32_w]
    rfl
  refine pure_ (i := 7) (N := some 45) (v := ?_) (a' := ?_) #[true, true, true, true, true, true, true, true, false, false, false, false, false, false, false, false, false, false, false, false, false, false, false, false, false, false, false, false, false, false, false, false, false, false, false, false, false, false, false, false, false, false, false, false, false, false, false, false, false, false, false, false, false, false, false] rfl rfl (by kernel_rfl) (fun _ _ _ h => h) (Or.inl ⟨by rfl, ?_⟩) ?_ ?_
  rotate_left
  · intro w'
    go_simp
    with_reducible rfl
  rotate_left
  · simp only [Act.put, List.setIfInBounds_toArray, List.set_cons_zero, List.set_cons_succ, i64_w, i32_w]
    rfl
  refine pure_ (i := 8) (N := some 46) (v := ?_) (a' := ?_) #[true, true, true, true, true, true, true, true, true, false, false, false, false, false, false, false, false, false, false, false, false, false, false, false, false, false, false, false, false, false, false, false, false, false, false, false, false, false, false, false, false, false, false, false, false, false, false, false, false, false, false, false, false, false, false] rfl rfl (by kernel_rfl) (fun _ _ _ h => h) (Or.inl ⟨by rfl, ?_⟩) ?_ ?_
  rotate_left
  · intro w'
    go_simp
    with_reducible rfl
  rotate_left
  · simp only [Act.put, List.setIfInBounds_toArray, List.set_cons_zero, List.set_cons_succ, i64_w, i32_w]
    rfl
  refine pure_ (i := 9) (N := some 47) (v := ?_) (a' := ?_) #[true, true, true, true, true, true, true, true, true, true, false, false, false, false, false, false, false, false, false, false, false, false, false, false, false, false, false, false, false, false, false, false, false, false, false, false, false, false, false, false, false, false, false, false, false, false, false, false, false, false, false, false, false, false, false] rfl rfl (by kernel_rfl) (fun _ _ _ h => h) (Or.inl ⟨by rfl, ?_⟩) ?_ ?_
  rotate_left
  · intro w'
    go_simp
    with_reducible rfl
  rotate_left
  · simp only [Act.put, List.setIfInBounds_toArray, List.set_cons_zero, List.set_cons_succ, i64_w, i32_w]
    rfl
  refine pure_ (i := 10) (N := some 48) (v := ?_) (a' := ?_) #[true, true, true, true, true, true, true, true, true, true, true, false, false, false, false, false, false, false, false, false, false, false, false, false, false, false, false, false, false, false, false, false, false, false, false, false, false, false, false, false, false, false, false, false, false, false, false, false, false, false, false, false, false, false, false] rfl rfl (by kernel_rfl) (fun _ _ _ h => h) (Or.inl ⟨by rfl, ?_⟩) ?_ ?_
  rotate_left
  · intro w'
    go_simp
    with_reducible rfl
  rotate_left
  · simp only [Act.put, List.setIfInBounds_toArray, List.set_cons_zero, List.set_cons_succ, i64_w, i32_w]
    rfl
  refine pure_ (i := 12) (N := some 50) (v := ?_) (a' := ?_) #[true, true, true, true, true, true, true, true, true, true, true, false, true, false, false, false, false, false, false, false, false, false, false, false, false, false, false, false, false, false, false, false, false, false, false, false, false, false, false, false, false, false, false, false, false, false, false, false, false, false, false, false, false, false, false] rfl rfl (by kernel_rfl) (fun _ _ _ h => h) (Or.inl ⟨by rfl, ?_⟩) ?_ ?_
  rotate_left
  · intro w'
    go_simp
    with_reducible rfl
  rotate_left
  · simp only [Act.put, List.setIfInBounds_toArray, List.set_cons_zero, List.set_cons_succ, i64_w, i32_w]
    rfl
  refine take_ (i := 11) (N := some 49) (v := ?_) (a' := ?_) #[true, true, true, true, true, true, true, true, true, true, true, true, true, false, false, false, false, false, false, false, false, false, false, false, false, false, false, false, false, false, false, false, false, false, false, false, false, false, false, false, false, false, false, false, false, false, false, false, false, false, false, false, false, false, false] rfl rfl (by kernel_rfl) (fun _ _ _ h => h) (Or.inl ⟨by rfl, ?_⟩) hHeld ?_ ?_
  rotate_left
  · rintro w' ⟨s0, s1, s2, s3, s4, s5, s6, s7⟩
    go_simp
    with_reducible rfl
  rotate_left
  · simp only [Act.put, List.setIfInBounds_toArray, List.set_cons_zero, List.set_cons_succ, i64_w, i32_w]
    rfl
  refine take_ (i := 13) (N := some 51) (v := ?_) (a' := ?_) #[true, true, true, true, true, true, true, true, true, true, true, true, true, true, false, false, false, false, false, false, false, false, false, false, false, false, false, false, false, false, false, false, false, false, false, false, false, false, false, false, false, false, false, false, false, false, false, false, false, false, false, false, false, false, false] rfl rfl (by kernel_rfl) (fun _ _ _ h => h) (Or.inl ⟨by rfl, ?_⟩) hHeld ?_ ?_
  rotate_left
  · rintro w' ⟨s0, s1, s2, s3, s4, s5, s6, s7⟩
    go_simp
    with_reducible rfl
  rotate_left
  · simp only [Act.put, List.setIfInBounds_toArray, List.set_cons_zero, List.set_cons_succ, i64_w, i32_w]
    rfl
  refine pure_ (i := 14) (N := some 52) (v := ?_) (a' := ?_) #[true, true, true, true, true, true, true, true, true, true, true, true, true, true, true, false, false, false, false, false, false, false, false, false, false, false, false, false, false, false, false, false, false, false, false, false, false, false, false, false, false, false, false, false, false, false, false, false, false, false, false, false, false, false, false] rfl rfl (by kernel_rfl) (fun _ _ _ h => h) (Or.inl ⟨by rfl, ?_⟩) ?_ ?_
  rotate_left
  · intro w'
    go_simp
    with_reducible rfl
  rotate_left
  · simp only [Act.put, List.setIfInBounds_toArray, List.set_cons_zero, List.set_cons_succ, i64_w, i32_w]
    rfl
  refine pure_ (i := 15) (N := some 53) (v := ?_) (a' := ?_) #[true, true, true, true, true, true, true, true, true, true, true, true, true, true, true, true, false, false, false, false, false, false, false, false, false, false, false, false, false, false, false, false, false, false, false, false, false, false, false, false, false, false, false, false, false, false, false, false, false, false, false, false, false, false, false] rfl rfl (by kernel_rfl) (fun _ _ _ h => h) (Or.inl ⟨by rfl, ?_⟩) ?_ ?_
  rotate_left
  · intro w'
    go_simp
    with_reducible rfl
  rotate_left
  · simp only [Act.put, List.setIfInBounds_toArray, List.set_cons_zero, List.set_cons_succ, i64_w, i32_w]
    rfl
  refine pure_ (i := 16) (N := some 54) (v := ?_) (a' := ?_) #[true, true, true, true, true, true, true, true, true, true, true, true, true, true, true, true, true, false, false, false, false, false, false, false, false, false, false, false, false, false, false, false, false, false, false, false, false, false, false, false, false, false, false, false, false, false, false, false, false, false, false, false, false, false, false] rfl rfl (by kernel_rfl) (fun _ _ _ h => h) (Or.inl ⟨by rfl, ?_⟩) ?_ ?_
  rotate_left
  · intro w'
    go_simp
    with_reducible rfl
  rotate_left
  · simp only [Act.put, List.setIfInBounds_toArray, List.set_cons_zero, List.set_cons_succ, i64_w, i32_w]
    rfl
  refine pure_ (i := 17) (N := some 55) (v := ?_) (a' := ?_) #[true, true, true, true, true, true, true, true, true, true, true, true, true, true, true, true, true, true, false, false, false, false, false, false, false, false, false, false, false, false, false, false, false, false, false, false, false, false, false, false, false, false, false, false, false, false, false, false, false, false, false, false, false, false, false] rfl rfl (by kernel_rfl) (fun _ _ _ h => h) (Or.inl ⟨by rfl, ?_⟩) ?_ ?_
  rotate_left
  · intro w'
    go_simp
    with_reducible rfl
  rotate_left
  · simp only [Act.put, List.setIfInBounds_toArray, List.set_cons_zero, List.set_cons_succ, i64_w, i32_w]
    rfl
  refine pure_ (i := 19) (N := some 57) (v := ?_) (a' := ?_) #[true, true, true, true, true, true, true, true, true, true, true, true, true, true, true, true, true, true, false, true, false, false, false, false, false, false, false, false, false, false, false, false, false, false, false, false, false, false, false, false, false, false, false, false, false, false, false, false, false, false, false, false, false, false, false] rfl rfl (by kernel_rfl) (fun _ _ _ h => h) (Or.inl ⟨by rfl, ?_⟩) ?_ ?_
  rotate_left
  · intro w'
    go_simp
    with_reducible rfl
  rotate_left
  · simp only [Act.put, List.setIfInBounds_toArray, List.set_cons_zero, List.set_cons_succ, i64_w, i32_w]
    rfl
  refine take_ (i := 18) (N := some 56) (v := ?_) (a' := ?_) #[true, true, true, true, true, true, true, true, true, true, true, true, true, true, true, true, true, true, true, true, false, false, false, false, false, false, false, false, false, false, false, false, false, false, false, false, false, false, false, false, false, false, false, false, false, false, false, false, false, false, false, false, false, false, false] rfl rfl (by kernel_rfl) (fun _ _ _ h => h) (Or.inl ⟨by rfl, ?_⟩) hHeld ?_ ?_
  rotate_left
  · rintro w' ⟨s0, s1, s2, s3, s4, s5, s6, s7⟩
    go_simp
    with_reducible rfl
  rotate_left
  · simp only [Act.put, List.setIfInBounds_toArray, List.set_cons_zero, List.set_cons_succ, i64_w, i32_w]
    rfl
  refine take_ (i := 20) (N := some 58) (v := ?_) (a' := ?_) #[true, true, true, true, true, true, true, true, true, true, true, true, true, true, true, true, true, true, true, true, true, false, false, false, false, false, false, false, false, false, false, false, false, false, false, false, false, false, false, false, false, false, false, false, false, false, false, false, false, false, false, false, false, false, false] rfl rfl (by kernel_rfl) (fun _ _ _ h => h) (Or.inl ⟨by rfl, ?_⟩) hHeld ?_ ?_
  rotate_left
  · rintro w' ⟨s0, s1, s2, s3, s4, s5, s6, s7⟩
    go_simp
    with_reducible rfl
  rotate_left
  · simp only [Act.put, List.setIfInBounds_toArray, List.set_cons_zero, List.set_cons_succ, i64_w, i32_w]
    rfl
  refine pure_ (i := 21) (N := some 59) (v := ?_) (a' := ?_) #[true, true, true, true, true, true, true, true, true, true, true, true, true, true, true, true, true, true, true, true, true, true, false, false, false, false, false, false, false, false, false, false, false, false, false, false, false, false, false, false, false, false, false, false, false, false, false, false, false, false, false, false, false, false, false] rfl rfl (by kernel_rfl) (fun _ _ _ h => h) (Or.inl ⟨by rfl, ?_⟩) ?_ ?_
  rotate_left
  · intro w'
    go_simp
    with_reducible rfl
  rotate_left
  · simp only [Act.put, List.setIfInBounds_toArray, List.set_cons_zero, List.set_cons_succ, i64_w, i32_w]
    rfl
  refine pure_ (i := 22) (N := some 60) (v := ?_) (a' := ?_) #[true, true, true, true, true, true, true, true, true, true, true, true, true, true, true, true, true, true, true, true, true, true, true, false, false, false, false, false, false, false, false, false, false, false, false, false, false, false, false, false, false, false, false, false, false, false, false, false, false, false, false, false, false, false, false] rfl rfl (by kernel_rfl) (fun _ _ _ h => h) (Or.inl ⟨by rfl, ?_⟩) ?_ ?_
  rotate_left
  · intro w'
    go_simp
    with_reducible rfl
  rotate_left
  · simp only [Act.put, List.setIfInBounds_toArray, List.set_cons_zero, List.set_cons_succ, i64_w, i32_w]
    rfl
  refine pure_ (i := 23) (N := some 61) (v := ?_) (a' := ?_) #[true, true, true, true, true, true, true, true, true, true, true, true, true, true, true, true, true, true, true, true, true, true, true, true, false, false, false, false, false, false, false, false, false, false, false, false, false, false, false, false, false, false, false, false, false, false, false, false, false, false, false, false, false, false, false] rfl rfl (by kernel_rfl) (fun _ _ _ h => h) (Or.inl ⟨by rfl, ?_⟩) ?_ ?_
  rotate_left
  · intro w'
    go_simp
    with_reducible rfl
  rotate_left
  · simp only [Act.put, List.setIfInBounds_toArray, List.set_cons_zero, List.set_cons_succ, i64_w, i32_w]
    rfl
  refine pure_ (i := 24) (N := some 62) (v := ?_) (a' := ?_) #[true, true, true, true, true, true, true, true, true, true, true, true, true, true, true, true, true, true, true, true, true, true, true, true, true, false, false, false, false, false, false, false, false, false, false, false, false, false, false, false, false, false, false, false, false, false, false, false, false, false, false, false, false, false, false] rfl rfl (by kernel_rfl) (fun _ _ _ h => h) (Or.inl ⟨by rfl, ?_⟩) ?_ ?_
  rotate_left
  · intro w'
    go_simp
    with_reducible rfl
  rotate_left
  · simp only [Act.put, List.setIfInBounds_toArray, List.set_cons_zero, List.set_cons_succ, i64_w, i32_w]
    rfl
  refine pure_ (i := 26) (N := some 64) (v := ?_) (a' := ?_) #[true, true, true, true, true, true, true, true, true, true, true, true, true, true, true, true, true, true, true, true, true, true, true, true, true, false, true, false, false, false, false, false, false, false, false, false, false, false, false, false, false, false, false, false, false, false, false, false, false, false, false, false, false, false, false] rfl rfl (by kernel_rfl) (fun _ _ _ h => h) (Or.inl ⟨by rfl, ?_⟩) ?_ ?_
  rotate_left
  · intro w'
    go_simp
    with_reducible rfl
  rotate_left
  · simp only [Act.put, List.setIfInBounds_toArray, List.set_cons_zero, List.set_cons_succ, i64_w, i32_w]
    rfl
  refine take_ (i := 25) (N := some 63) (v := ?_) (a' := ?_) #[true, true, true, true, true, true, true, true, true, true, true, true, true, true, true, true, true, true, true, true, true, true, true, true, true, true, true, false, false, false, false, false, false, false, false, false, false, false, false, false, false, false, false, false, false, false, false, false, false, false, false, false, false, false, false] rfl rfl (by kernel_rfl) (fun _ _ _ h => h) (Or.inl ⟨by rfl, ?_⟩) hHeld ?_ ?_
  rotate_left
  · rintro w' ⟨s0, s1, s2, s3, s4, s5, s6, s7⟩
    go_simp
    with_reducible rfl
  rotate_left
  · simp only [Act.put, List.setIfInBounds_toArray, List.set_cons_zero, List.set_cons_succ, i64_w, i32_w]
    rfl
  refine take_ (i := 27) (N := some 65) (v := ?_) (a' := ?_) #[true, true, true, true, true, true, true, true, true, true, true, true, true, true, true, true, true, true, true, true, true, true, true, true, true, true, true, true, false, false, false, false, false, false, false, false, false, false, false, false, false, false, false, false, false, false, false, false, false, false, false, false, false, false, false] rfl rfl (by kernel_rfl) (fun _ _ _ h => h) (Or.inl ⟨by rfl, ?_⟩) hHeld ?_ ?_
  rotate_left
  · rintro w' ⟨s0, s1, s2, s3, s4, s5, s6, s7⟩
    go_simp
    with_reducible rfl
  rotate_left
  · simp only [Act.put, List.setIfInBounds_toArray, List.set_cons_zero, List.set_cons_succ, i64_w, i32_w]
    rfl
  refine pure_ (i := 28) (N := some 66) (v := ?_) (a' := ?_) #[true, true, true, true, true, true, true, true, true, true, true, true, true, true, true, true, true, true, true, true, true, true, true, true, true, true, true, true, true, false, false, false, false, false, false, false, false, false, false, false, false, false, false, false, false, false, false, false, false, false, false, false, false, false, false] rfl rfl (by kernel_rfl) (fun _ _ _ h => h) (Or.inl ⟨by rfl, ?_⟩) ?_ ?_
  rotate_left
  · intro w'
    go_simp
    with_reducible rfl
  rotate_left
  · simp only [Act.put, List.setIfInBounds_toArray, List.set_cons_zero, List.set_cons_succ, i64_w, i32_w]
    rfl
  refine pure_ (i := 29) (N := some 67) (v := ?_) (a' := ?_) #[true, true, true, true, true, true, true, true, true, true, true, true, true, true, true, true, true, true, true, true, true, true, true, true, true, true, true, true, true, true, false, false, false, false, false, false, false, false, false, false, false, false, false, false, false, false, false, false, false, false, false, false, false, false, false] rfl rfl (by kernel_rfl) (fun _ _ _ h => h) (Or.inl ⟨by rfl, ?_⟩) ?_ ?_
  rotate_left
  · intro w'
    go_simp
    with_reducible rfl
  rotate_left
  · simp only [Act.put, List.setIfInBounds_toArray, List.set_cons_zero, List.set_cons_succ, i64_w, i32_w]
    rfl
  refine pure_ (i := 30) (N := some 68) (v := ?_) (a' := ?_) #[true, true, true, true, true, true, true, true, true, true, true, true, true, true, true, true, true, true, true, true, true, true, true, true, true, true, true, true, true, true, true, false, false, false, false, false, false, false, false, false, false, false, false, false, false, false, false, false, false, false, false, false, false, false, false] rfl rfl (by kernel_rfl) (fun _ _ _ h => h) (Or.inl ⟨by rfl, ?_⟩) ?_ ?_
  rotate_left
  · intro w'
    go_simp
    with_reducible rfl
  rotate_left
  · simp only [Act.put, List.setIfInBounds_toArray, List.set_cons_zero, List.set_cons_succ, i64_w, i32_w]
    rfl
  refine pure_ (i := 31) (N := some 69) (v := ?_) (a' := ?_) #[true, true, true, true, true, true, true, true, true, true, true, true, true, true, true, true, true, true, true, true, true, true, true, true, true, true, true, true, true, true, true, true, false, false, false, false, false, false, false, false, false, false, false, false, false, false, false, false, false, false, false, false, false, false, false] rfl rfl (by kernel_rfl) (fun _ _ _ h => h) (Or.inl ⟨by rfl, ?_⟩) ?_ ?_
  rotate_left
  · intro w'
    go_simp
    with_reducible rfl
  rotate_left
  · simp only [Act.put, List.setIfInBounds_toArray, List.set_cons_zero, List.set_cons_succ, i64_w, i32_w]
    rfl
  refine pure_ (i := 33) (N := some 71) (v := ?_) (a' := ?_) #[true, true, true, true, true, true, true, true, true, true, true, true, true, true, true, true, true, true, true, true, true, true, true, true, true, true, true, true, true, true, true, true, false, true, false, false, false, false, false, false, false, false, false, false, false, false, false, false, false, false, false, false, false, false, false] rfl rfl (by kernel_rfl) (fun _ _ _ h => h) (Or.inl ⟨by rfl, ?_⟩) ?_ ?_
  rotate_left
  · intro w'
    go_simp
    with_reducible rfl
  rotate_left
  · simp only [Act.put, List.setIfInBounds_toArray, List.set_cons_zero, List.set_cons_succ, i64_w, i32_w]
    rfl
  refine take_ (i := 32) (N := some 70) (v := ?_) (a' := ?_) #[true, true, true, true, true, true, true, true, true, true, true, true, true, true, true, true, true, true, true, true, true, true, true, true, true, true, true, true, true, true, true, true, true, true, false, false, false, false, false, false, false, false, false, false, false, false, false, false, false, false, false, false, false, false, false] rfl rfl (by kernel_rfl) (fun _ _ _ h => h) (Or.inl ⟨by rfl, ?_⟩) hHeld ?_ ?_
  rotate_left
  · rintro w' ⟨s0, s1, s2, s3, s4, s5, s6, s7⟩
    go_simp
    with_reducible rfl
  rotate_left
  · simp only [Act.put, List.setIfInBounds_toArray, List.set_cons_zero, List.set_cons_succ, i64_w, i32_w]
    rfl
  refine take_ (i := 34) (N := some 72) (v := ?_) (a' := ?_) #[true, true, true, true, true, true, true, true, true, true, true, true, true, true, true, true, true, true, true, true, true, true, true, true, true, true, true, true, true, true, true, true, true, true, true, false, false, false, false, false, false, false, false, false, false, false, false, false, false, false, false, false, false, false, false] rfl rfl (by kernel_rfl) (fun _ _ _ h => h) (Or.inl ⟨by rfl, ?_⟩) hHeld ?_ ?_
  rotate_left
  · rintro w' ⟨s0, s1, s2, s3, s4, s5, s6, s7⟩
    go_simp
    with_reducible rfl
  rotate_left
  · simp only [Act.put, List.setIfInBounds_toArray, List.set_cons_zero, List.set_cons_succ, i64_w, i32_w]
    rfl
  refine pure_ (i := 35) (N := some 73) (v := ?_) (a' := ?_) #[true, true, true, true, true, true, true, true, true, true, true, true, true, true, true, true, true, true, true, true, true, true, true, true, true, true, true, true, true, true, true, true, true, true, true, true, false, false, false, false, false, false, false, false, false, false, false, false, false, false, false, false, false, false, false] rfl rfl (by kernel_rfl) (fun _ _ _ h => h) (Or.inl ⟨by rfl, ?_⟩) ?_ ?_
  rotate_left
  · intro w'
    go_simp
    with_reducible rfl
  rotate_left
  · simp only [Act.put, List.setIfInBounds_toArray, List.set_cons_zero, List.set_cons_succ, i64_w, i32_w]
    rfl
  refine pure_ (i := 36) (N := some 74) (v := ?_) (a' := ?_) #[true, true, true, true, true, true, true, true, true, true, true, true, true, true, true, true, true, true, true, true, true, true, true, true, true, true, true, true, true, true, true, true, true, true, true, true, true, false, false, false, false, false, false, false, false, false, false, false, false, false, false, false, false, false, false] rfl rfl (by kernel_rfl) (fun _ _ _ h => h) (Or.inl ⟨by rfl, ?_⟩) ?_ ?_
  rotate_left
  · intro w'
    go_simp
    with_reducible rfl
  rotate_left
  · simp only [Act.put, List.setIfInBounds_toArray, List.set_cons_zero, List.set_cons_succ, i64_w, i32_w]
    rfl
  refine pure_ (i := 37) (N := some 75) (v := ?_) (a' := ?_) #[true, true, true, true, true, true, true, true, true, true, true, true, true, true, true, true, true, true, true, true, true, true, true, true, true, true, true, true, true, true, true, true, true, true, true, true, true, true, false, false, false, false, false, false, false, false, false, false, false, false, false, false, false, false, false] rfl rfl (by kernel_rfl) (fun _ _ _ h => h) (Or.inl ⟨by rfl, ?_⟩) ?_ ?_
  rotate_left
  · intro w'
    go_simp
    with_reducible rfl
  rotate_left
  · simp only [Act.put, List.setIfInBounds_toArray, List.set_cons_zero, List.set_cons_succ, i64_w, i32_w]
    rfl
  refine pure_ (i := 38) (N := some 76) (v := ?_) (a' := ?_) #[true, true, true, true, true, true, true, true, true, true, true, true, true, true, true, true, true, true, true, true, true, true, true, true, true, true, true, true, true, true, true, true, true, true, true, true, true, true, true, false, false, false, false, false, false, false, false, false, false, false, false, false, false, false, false] rfl rfl (by kernel_rfl) (fun _ _ _ h => h) (Or.inl ⟨by rfl, ?_⟩) ?_ ?_
  rotate_left
  · intro w'
    go_simp
    with_reducible rfl
  rotate_left
  · simp only [Act.put, List.setIfInBounds_toArray, List.set_cons_zero, List.set_cons_succ, i64_w, i32_w]
    rfl
  refine pure_ (i := 40) (N := some 78) (v := ?_) (a' := ?_) #[true, true, true, true, true, true, true, true, true, true, true, true, true, true, true, true, true, true, true, true, true, true, true, true, true, true, true, true, true, true, true, true, true, true, true, true, true, true, true, false, true, false, false, false, false, false, false, false, false, false, false, false, false, false, false] rfl rfl (by kernel_rfl) (fun _ _ _ h => h) (Or.inl ⟨by rfl, ?_⟩) ?_ ?_
  rotate_left
  · intro w'
    go_simp
    with_reducible rfl
  rotate_left
  · simp only [Act.put, List.setIfInBounds_toArray, List.set_cons_zero, List.set_cons_succ, i64_w, i32_w]
    rfl
  refine take_ (i := 39) (N := some 77) (v := ?_) (a' := ?_) #[true, true, true, true, true, true, true, true, true, true, true, true, true, true, true, true, true, true, true, true, true, true, true, true, true, true, true, true, true, true, true, true, true, true, true, true, true, true, true, true, true, false, false, false, false, false, false, false, false, false, false, false, false, false, false] rfl rfl (by kernel_rfl) (fun _ _ _ h => h) (Or.inl ⟨by rfl, ?_⟩) hHeld ?_ ?_
  rotate_left
  · rintro w' ⟨s0, s1, s2, s3, s4, s5, s6, s7⟩
    go_simp
    with_reducible rfl
  rotate_left
  · simp only [Act.put, List.setIfInBounds_toArray, List.set_cons_zero, List.set_cons_succ, i64_w, i32_w]
    rfl
  refine take_ (i := 41) (N := some 79) (v := ?_) (a' := ?_) #[true, true, true, true, true, true, true, true, true, true, true, true, true, true, true, true, true, true, true, true, true, true, true, true, true, true, true, true, true, true, true, true, true, true, true, true, true, true, true, true, true, true, false, false, false, false, false, false, false, false, false, false, false, false, false] rfl rfl (by kernel_rfl) (fun _ _ _ h => h) (Or.inl ⟨by rfl, ?_⟩) hHeld ?_ ?_
  rotate_left
  · rintro w' ⟨s0, s1, s2, s3, s4, s5, s6, s7⟩
    go_simp
    with_reducible rfl
  rotate_left
  · simp only [Act.put, List.setIfInBounds_toArray, List.set_cons_zero, List.set_cons_succ, i64_w, i32_w]
    rfl
  refine pure_ (i := 42) (N := some 80) (v := ?_) (a' := ?_) #[true, true, true, true, true, true, true, true, true, true, true, true, true, true, true, true, true, true, true, true, true, true, true, true, true, true, true, true, true, true, true, true, true, true, true, true, true, true, true, true, true, true, true, false, false, false, false, false, false, false, false, false, false, false, false] rfl rfl (by kernel_rfl) (fun _ _ _ h => h) (Or.inl ⟨by rfl, ?_⟩) ?_ ?_
  rotate_left
  · intro w'
    go_simp
    with_reducible rfl
  rotate_left
  · simp only [Act.put, List.setIfInBounds_toArray, List.set_cons_zero, List.set_cons_succ, i64_w, i32_w]
    rfl
  refine pure_ (i := 43) (N := some 81) (v := ?_) (a' := ?_) #[true, true, true, true, true, true, true, true, true, true, true, true, true, true, true, true, true, true, true, true, true, true, true, true, true, true, true, true, true, true, true, true, true, true, true, true, true, true, true, true, true, true, true, true, false, false, false, false, false, false, false, false, false, false, false] rfl rfl (by kernel_rfl) (fun _ _ _ h => h) (Or.inl ⟨by rfl, ?_⟩) ?_ ?_
  rotate_left
  · intro w'
    go_simp
    with_reducible rfl
  rotate_left
  · simp only [Act.put, List.setIfInBounds_toArray, List.set_cons_zero, List.set_cons_succ, i64_w, i32_w]
    rfl
  refine pure_ (i := 44) (N := some 82) (v := ?_) (a' := ?_) #[true, true, true, true, true, true, true, true, true, true, true, true, true, true, true, true, true, true, true, true, true, true, true, true, true, true, true, true, true, true, true, true, true, true, true, true, true, true, true, true, true, true, true, true, true, false, false, false, false, false, false, false, false, false, false] rfl rfl (by kernel_rfl) (fun _ _ _ h => h) (Or.inl ⟨by rfl, ?_⟩) ?_ ?_
  rotate_left
  · intro w'
    go_simp
    with_reducible rfl
  rotate_left
  · simp only [Act.put, List.setIfInBounds_toArray, List.set_cons_zero, List.set_cons_succ, i64_w, i32_w]
    rfl
  refine take_ (i := 45) (N := some 83) (v := ?_) (a' := ?_) #[true, true, true, true, true, true, true, true, true, true, true, true, true, true, true, true, true, true, true, true, true, true, true, true, true, true, true, true, true, true, true, true, true, true, true, true, true, true, true, true, true, true, true, true, true, true, false, false, false, false, false, false, false, false, false] rfl rfl (by kernel_rfl) (fun _ _ _ h => h) (Or.inl ⟨by rfl, ?_⟩) hHeld ?_ ?_
  rotate_left
  · rintro w' ⟨s0, s1, s2, s3, s4, s5, s6, s7⟩
    go_simp
    with_reducible rfl
  rotate_left
  · simp only [Act.put, List.setIfInBounds_toArray, List.set_cons_zero, List.set_cons_succ, i64_w, i32_w]
    rfl
  refine take_ (i := 46) (N := some 84) (v := ?_) (a' := ?_) #[true, true, true, true, true, true, true, true, true, true, true, true, true, true, true, true, true, true, true, true, true, true, true, true, true, true, true, true, true, true, true, true, true, true, true, true, true, true, true, true, true, true, true, true, true, true, true, false, false, false, false, false, false, false, false] rfl rfl (by kernel_rfl) (fun _ _ _ h => h) (Or.inl ⟨by rfl, ?_⟩) hHeld ?_ ?_
  rotate_left
  · rintro w' ⟨s0, s1, s2, s3, s4, s5, s6, s7⟩
    go_simp
    with_reducible rfl
  rotate_left
  · simp only [Act.put, List.setIfInBounds_toArray, List.set_cons_zero, List.set_cons_succ, i64_w, i32_w]
    rfl
  refine take_ (i := 48) (N := some 86) (v := ?_) (a' := ?_) #[true, true, true, true, true, true, true, true, true, true, true, true, true, true, true, true, true, true, true, true, true, true, true, true, true, true, true, true, true, true, true, true, true, true, true, true, true, true, true, true, true, true, true, true, true, true, true, false, true, false, false, false, false, false, false] rfl rfl (by kernel_rfl) (fun _ _ _ h => h) (Or.inl ⟨by rfl, ?_⟩) hHeld ?_ ?_
  rotate_left
  · rintro w' ⟨s0, s1, s2, s3, s4, s5, s6, s7⟩
    go_simp
    with_reducible rfl
  rotate_left
  · simp only [Act.put, List.setIfInBounds_toArray, List.set_cons_zero, List.set_cons_succ, i64_w, i32_w]
    rfl
  refine one_ (i := 47) (N := some 85) #[true, true, true, true, true, true, true, true, true, true, true, true, true, true, true, true, true, true, true, true, true, true, true, true, true, true, true, true, true, true, true, true, true, true, true, true, true, true, true, true, true, true, true, true, true, true, true, true, true, false, false, false, false, false, false] rfl rfl (by kernel_rfl) (by decide) (fun K hK => ?_)
  refine goes_ Try.func17 (by kernel_rfl) rfl #[.agg #[.float .f64 l0, .float .f64 l1], .agg #[.float .f64 a0, .float .f64 a1]] (by rfl) rfl rfl (by simp only [List.map_toArray, List.map_cons, List.map_nil]; rfl) ?_
  with_reducible refine (c3.out _).mono ?_
  rintro e w21 ⟨rfl, hb⟩
  refine ⟨_, rfl, ?_⟩
  have H21 := below_step H20 hb
  refine hK.out _ _ ⟨(below_of hb hHeld.1), (below_of hb hHeld.2.1), (below_of hb hHeld.2.2.1), (below_of hb hHeld.2.2.2.1), (below_of hb hHeld.2.2.2.2.1), (below_of hb hHeld.2.2.2.2.2.1), (below_of hb hHeld.2.2.2.2.2.2.1), (below_of hb hHeld.2.2.2.2.2.2.2)⟩ (fun hHeld => ?_)
  clear hK K
  refine norm_ (a' := ?_) ?_ ?_
  rotate_left
  · show Act.put _ (some 85) _ = _
    simp only [Act.put, List.setIfInBounds_toArray, List.set_cons_zero, List.set_cons_succ, i64_w, i32_w]
    rfl
  refine pure_ (i := 49) (N := some 87) (v := ?_) (a' := ?_) #[true, true, true, true, true, true, true, true, true, true, true, true, true, true, true, true, true, true, true, true, true, true, true, true, true, true, true, true, true, true, true, true, true, true, true, true, true, true, true, true, true, true, true, true, true, true, true, true, true, true, false, false, false, false, false] rfl rfl (by kernel_rfl) (fun _ _ _ h => h) (Or.inl ⟨by rfl, ?_⟩) ?_ ?_
  rotate_left
  · intro w'
    go_simp
    with_reducible rfl
  rotate_left
  · simp only [Act.put, List.setIfInBounds_toArray, List.set_cons_zero, List.set_cons_succ, i64_w, i32_w]
    rfl
  refine pure_ (i := 50) (N := some 88) (v := ?_) (a' := ?_) #[true, true, true, true, true, true, true, true, true, true, true, true, true, true, true, true, true, true, true, true, true, true, true, true, true, true, true, true, true, true, true, true, true, true, true, true, true, true, true, true, true, true, true, true, true, true, true, true, true, true, true, false, false, false, false] rfl rfl (by kernel_rfl) (fun _ _ _ h => h) (Or.inl ⟨by rfl, ?_⟩) ?_ ?_
  rotate_left
  · intro w'
    go_simp
    with_reducible rfl
  rotate_left
  · simp only [Act.put, List.setIfInBounds_toArray, List.set_cons_zero, List.set_cons_succ, i64_w, i32_w]
    rfl
  refine pure_ (i := 51) (N := some 89) (v := ?_) (a' := ?_) #[true, true, true, true, true, true, true, true, true, true, true, true, true, true, true, true, true, true, true, true, true, true, true, true, true, true, true, true, true, true, true, true, true, true, true, true, true, true, true, true, true, true, true, true, true, true, true, true, true, true, true, true, false, false, false] rfl rfl (by kernel_rfl) (fun _ _ _ h => h) (Or.inl ⟨by rfl, ?_⟩) ?_ ?_
  rotate_left
  · intro w'
    go_simp
    with_reducible rfl
  rotate_left
  · simp only [Act.put, List.setIfInBounds_toArray, List.set_cons_zero, List.set_cons_succ, i64_w, i32_w]
    rfl
  refine one_ (i := 52) (N := some 90) #[true, true, true, true, true, true, true, true, true, true, true, true, true, true, true, true, true, true, true, true, true, true, true, true, true, true, true, true, true, true, true, true, true, true, true, true, true, true, true, true, true, true, true, true, true, true, true, true, true, true, true, true, true, false, false] rfl rfl (by kernel_rfl) (by decide) (fun K hK => ?_)
  refine goes_ Try.func19 (by kernel_rfl) rfl #[] (by rfl) rfl rfl (by simp) ?_
  with_reducible refine (fixed_calls _).mono ?_
  rintro e w22 ⟨rfl, hb⟩
  refine ⟨_, rfl, ?_⟩
  have H22 := below_step H21 hb
  refine hK.out _ _ ⟨(below_of hb hHeld.1), (below_of hb hHeld.2.1), (below_of hb hHeld.2.2.1), (below_of hb hHeld.2.2.2.1), (below_of hb hHeld.2.2.2.2.1), (below_of hb hHeld.2.2.2.2.2.1), (below_of hb hHeld.2.2.2.2.2.2.1), (below_of hb hHeld.2.2.2.2.2.2.2)⟩ (fun hHeld => ?_)
  clear hK K
  refine norm_ (a' := ?_) ?_ ?_
  rotate_left
  · show Act.put _ (some 90) _ = _
    simp only [Act.put, List.setIfInBounds_toArray, List.set_cons_zero, List.set_cons_succ, i64_w, i32_w]
    rfl
  refine pure_ (i := 53) (N := some 91) (v := ?_) (a' := ?_) #[true, true, true, true, true, true, true, true, true, true, true, true, true, true, true, true, true, true, true, true, true, true, true, true, true, true, true, true, true, true, true, true, true, true, true, true, true, true, true, true, true, true, true, true, true, true, true, true, true, true, true, true, true, true, false] rfl rfl (by kernel_rfl) (fun _ _ _ h => h) (Or.inl ⟨by rfl, ?_⟩) ?_ ?_
  rotate_left
  · intro w'
    go_simp
    with_reducible rfl
  rotate_left
  · simp only [Act.put, List.setIfInBounds_toArray, List.set_cons_zero, List.set_cons_succ, i64_w, i32_w]
    rfl
  refine pure_ (i := 54) (N := some 4) (v := ?_) (a' := ?_) #[true, true, true, true, true, true, true, true, true, true, true, true, true, true, true, true, true, true, true, true, true, true, true, true, true, true, true, true, true, true, true, true, true, true, true, true, true, true, true, true, true, true, true, true, true, true, true, true, true, true, true, true, true, true, true] rfl rfl (by kernel_rfl) (fun _ _ _ h => h) (Or.inl ⟨by rfl, ?_⟩) ?_ ?_
  rotate_left
  · intro w'
    go_simp
    with_reducible rfl
  rotate_left
  · simp only [Act.put, List.setIfInBounds_toArray, List.set_cons_zero, List.set_cons_succ, i64_w, i32_w]
    rfl
  refine done_ (by kernel_rfl) ?_
  go_wp2
  go_ret
  exact ⟨rfl, below_step HB.out H22⟩
set_option maxRecDepth 100000 in
set_option maxHeartbeats 6400000 in
theorem w10 (a0 a1 b0 b1 : Nat) (w : World) (ha0 : a0 < 18446744073709551616) (ha1 : a1 < 18446744073709551616) (hb0 : b0 < 18446744073709551616) (hb1 : b1 < 18446744073709551616) (hRa : rightB a0 a1 = true) (hRb : rightB b0 b1 = false) :
    Calls Try.prog 7 #[.agg #[.float .f64 a0, .float .f64 a1], .agg #[.float .f64 b0, .float .f64 b1]] w fun e w' => e = .returned (.bool true) ∧ Below w.heap.size w w' := by
  have BA := Lib.hid (blk_alloc (heap_alloc_new w (.cells #[.float .f64 a0, .float .f64 a1] 24)) (.cells #[.float .f64 b0, .float .f64 b1] 24))
  have BB := Lib.hid (blk2 w (.cells #[.float .f64 a0, .float .f64 a1] 24) #[.float .f64 b0, .float .f64 b1] 24)
  have HB := Lib.hid (below2 w (.cells #[.float .f64 a0, .float .f64 a1] 24) (.cells #[.float .f64 b0, .float .f64 b1] 24))
  have c1 := Lib.hid (least_calls a0 a1 b0 b1)
  have c2 := Lib.hid (least_calls b0 b1 a0 a1)
  generalize lessF a0 b0 = l0 at *
  generalize lessF a1 b1 = l1 at *
  generalize lessF b0 a0 = k0 at *
  generalize lessF b1 a1 = k1 at *
  go_enter Try.func7, Try.ntmps7
  go_wp2
  generalize ((w.alloc (.cells #[.float .f64 a0, .float .f64 a1] 24)).alloc (.cells #[.float .f64 b0, .float .f64 b1] 24)) = w2 at *
  obtain ⟨qa, hqa⟩ : ∃ qa, w.heap.size = qa := ⟨_, rfl⟩
  rw [hqa] at BA BB HB ⊢
  have HQ := Lib.hid hqa
  clear hqa
  generalize qa + 1 = qb at *
  have x0 := blk_cell BA.out 0 (.float .f64 a0) rfl
  have x1 := blk_cell BA.out 1 (.float .f64 a1) rfl
  have y0 := blk_cell BB.out 0 (.float .f64 b0) rfl
  have y1 := blk_cell BB.out 1 (.float .f64 b1) rfl
  have lA := lt_of_blk BA.out
  have lB := lt_of_blk BB.out
  have T0 := (Below.refl w2.heap.size w2).drew
  refine start_ (n := 10) (S := fun w' => w'.cell? ⟨qa, 0, none⟩ = some (.float .f64 a0) ∧ w'.cell? ⟨qa, 1, none⟩ = some (.float .f64 a1) ∧ w'.cell? ⟨qb, 0, none⟩ = some (.float .f64 b0) ∧ w'.cell? ⟨qb, 1, none⟩ = some (.float .f64 b1)) (ds := [8, 9]) #[false, false, false, false, false, false, false, false, false, false] (by kernel_rfl) rfl rfl ⟨x0, x1, y0, y1⟩ (fun hHeld => ?_)
  refine take_ (i := 0) (N := some 7) (v := ?_) (a' := ?_) #[true, false, false, false, false, false, false, false, false, false] rfl rfl (by kernel_rfl) (fun _ _ _ h => h) (Or.inl ⟨by rfl, ?_⟩) hHeld ?_ ?_
  rotate_left
  · rintro w' ⟨s0, s1, s2, s3⟩
    go_simp
    with_reducible rfl
  rotate_left
  · simp only [Act.put, List.setIfInBounds_toArray, List.set_cons_zero, List.set_cons_succ, i64_w, i32_w]
    rfl
  refine take_ (i := 1) (N := some 8) (v := ?_) (a' := ?_) #[true, true, false, false, false, false, false, false, false, false] rfl rfl (by kernel_rfl) (fun _ _ _ h => h) (Or.inl ⟨by rfl, ?_⟩) hHeld ?_ ?_
  rotate_left
  · rintro w' ⟨s0, s1, s2, s3⟩
    go_simp
    with_reducible rfl
  rotate_left
  · simp only [Act.put, List.setIfInBounds_toArray, List.set_cons_zero, List.set_cons_succ, i64_w, i32_w]
    rfl
  refine take_ (i := 3) (N := some 10) (v := ?_) (a' := ?_) #[true, true, false, true, false, false, false, false, false, false] rfl rfl (by kernel_rfl) (fun _ _ _ h => h) (Or.inl ⟨by rfl, ?_⟩) hHeld ?_ ?_
  rotate_left
  · rintro w' ⟨s0, s1, s2, s3⟩
    go_simp
    with_reducible rfl
  rotate_left
  · simp only [Act.put, List.setIfInBounds_toArray, List.set_cons_zero, List.set_cons_succ, i64_w, i32_w]
    rfl
  refine take_ (i := 4) (N := some 11) (v := ?_) (a' := ?_) #[true, true, false, true, true, false, false, false, false, false] rfl rfl (by kernel_rfl) (fun _ _ _ h => h) (Or.inl ⟨by rfl, ?_⟩) hHeld ?_ ?_
  rotate_left
  · rintro w' ⟨s0, s1, s2, s3⟩
    go_simp
    with_reducible rfl
  rotate_left
  · simp only [Act.put, List.setIfInBounds_toArray, List.set_cons_zero, List.set_cons_succ, i64_w, i32_w]
    rfl
  refine join_ (σ := Nat × Nat) 2 #[true, true, true, true, true, true, true, true, false, false] (fun s => [(9, .agg #[.float .f64 l0, .float .f64 l1]), (12, .agg #[.float .f64 k0, .float .f64 k1]), (5, .pointer (some ⟨s.1, 0, none⟩)), (6, .pointer (some ⟨s.2, 0, none⟩))]) (fun s w' => Below w2.heap.size w2 w' ∧ w'.heap[s.1]? = some (.cells #[.float .f64 0, .float .f64 0] 24 (0, 0)) ∧ w'.heap[s.2]? = some (.cells #[.float .f64 0, .float .f64 0] 24 (0, 0)) ∧ s.1 ≠ s.2 ∧ w2.heap.size ≤ s.1 ∧ w2.heap.size ≤ s.2) ?_ ?_
  rotate_left
  · intro hCont
    refine three_ (i := 2) (j := 6) (k := 7) (Ni := some 9) (Nj := some 5) (Nk := some 6) #[true, true, true, true, true, false, false, false, false, false] #[true, true, false, true, true, false, true, false, false, false] #[true, true, false, true, true, false, false, true, false, false] rfl rfl rfl rfl rfl rfl (by kernel_rfl) (by decide) (by decide) (by decide) (fun K hK => ?_) (fun K hK => ?_) (fun K hK => ?_)
    · skip
      refine goes_ Try.func17 (by kernel_rfl) rfl #[.agg #[.float .f64 a0, .float .f64 a1], .agg #[.float .f64 b0, .float .f64 b1]] (by rfl) rfl rfl (by simp only [List.map_toArray, List.map_cons, List.map_nil]; rfl) ?_
      with_reducible refine (c1.out _).mono ?_
      rintro e W2 ⟨rfl, hb⟩
      refine ⟨_, rfl, ?_⟩
      have T2 := below_step T0 hb
      clear hb
      refine hK.out _ _ ⟨(KRight.cell_below T2 lA x0), (KRight.cell_below T2 lA x1), (KRight.cell_below T2 lB y0), (KRight.cell_below T2 lB y1)⟩ (fun hHeld => ?_)
      clear hK K
      refine norm_ (a' := ?_) ?_ ?_
      rotate_left
      · show Act.put _ (some 9) _ = _
        simp only [Act.put, List.setIfInBounds_toArray, List.set_cons_zero, List.set_cons_succ, i64_w, i32_w]
        rfl
      refine three_ (i := 5) (j := 6) (k := 7) (Ni := some 12) (Nj := some 5) (Nk := some 6) #[true, true, true, true, true, true, false, false, false, false] #[true, true, true, true, true, false, true, false, false, false] #[true, true, true, true, true, false, false, true, false, false] rfl rfl rfl rfl rfl rfl (by kernel_rfl) (by decide) (by decide) (by decide) (fun K hK => ?_) (fun K hK => ?_) (fun K hK => ?_)
      · skip
        refine goes_ Try.func17 (by kernel_rfl) rfl #[.agg #[.float .f64 b0, .float .f64 b1], .agg #[.float .f64 a0, .float .f64 a1]] (by rfl) rfl rfl (by simp only [List.map_toArray, List.map_cons, List.map_nil]; rfl) ?_
        with_reducible refine (c2.out _).mono ?_
        rintro e W5 ⟨rfl, hb⟩
        refine ⟨_, rfl, ?_⟩
        have T5 := below_step T2 hb
        clear hb
        refine hK.out _ _ ⟨(KRight.cell_below T5 lA x0), (KRight.cell_below T5 lA x1), (KRight.cell_below T5 lB y0), (KRight.cell_below T5 lB y1)⟩ (fun hHeld => ?_)
        clear hK K
        refine norm_ (a' := ?_) ?_ ?_
        rotate_left
        · show Act.put _ (some 12) _ = _
          simp only [Act.put, List.setIfInBounds_toArray, List.set_cons_zero, List.set_cons_succ, i64_w, i32_w]
          rfl
        refine two_ (i := 6) (j := 7) (Ni := some 5) (Nj := some 6) #[true, true, true, true, true, true, true, false, false, false] #[true, true, true, true, true, true, false, true, false, false] rfl rfl rfl rfl (by kernel_rfl) (by decide) (by decide) (fun K hK => ?_) (fun K hK => ?_)
        · skip
          refine value_ (w1 := ?_) (v := ?_) (by rfl) rfl ?_ ?_
          rotate_left 2
          · go_simp
            constructor
            · rfl
            · rfl
          refine letter_ ?_
          intro W6 hW
          have T6 : Below w2.heap.size w2 W6 := by rw [hW]; exact T5.alloc T5.size _
          have B6_6 : W6.heap[W5.heap.size]? = some (.cells #[.float .f64 0, .float .f64 0] 24 (0, 0)) := by rw [hW]; exact heap_alloc_new _ _
          clear hW
          refine hK.out _ _ ⟨(KRight.cell_below T6 lA x0), (KRight.cell_below T6 lA x1), (KRight.cell_below T6 lB y0), (KRight.cell_below T6 lB y1)⟩ (fun hHeld => ?_)
          clear hK K
          refine norm_ (a' := ?_) ?_ ?_
          rotate_left
          · show Act.put _ (some 5) _ = _
            simp only [Act.put, List.setIfInBounds_toArray, List.set_cons_zero, List.set_cons_succ, i64_w, i32_w]
            rfl
          refine one_ (i := 7) (N := some 6) #[true, true, true, true, true, true, true, true, false, false] rfl rfl (by kernel_rfl) (by decide) (fun K hK => ?_)
          refine value_ (w1 := ?_) (v := ?_) (by rfl) rfl ?_ ?_
          rotate_left 2
          · go_simp
            constructor
            · rfl
            · rfl
          refine letter_ ?_
          intro W7 hW
          have T7 : Below w2.heap.size w2 W7 := by rw [hW]; exact T6.alloc T6.size _
          have B7_7 : W7.heap[W6.heap.size]? = some (.cells #[.float .f64 0, .float .f64 0] 24 (0, 0)) := by rw [hW]; exact heap_alloc_new _ _
          have B6_7 : W7.heap[W5.heap.size]? = some (.cells #[.float .f64 0, .float .f64 0] 24 (0, 0)) := by rw [hW]; exact blk_alloc B6_6 _
          clear hW
          refine hK.out _ _ ⟨(KRight.cell_below T7 lA x0), (KRight.cell_below T7 lA x1), (KRight.cell_below T7 lB y0), (KRight.cell_below T7 lB y1)⟩ (fun hHeld => ?_)
          clear hK K
          refine norm_ (a' := ?_) ?_ ?_
          rotate_left
          · show Act.put _ (some 6) _ = _
            simp only [Act.put, List.setIfInBounds_toArray, List.set_cons_zero, List.set_cons_succ, i64_w, i32_w]
            rfl
          exact norm_ (by simp only [putAll, Act.put, List.setIfInBounds_toArray, List.set_cons_zero, List.set_cons_succ]) (hCont (W5.heap.size, W6.heap.size) _ ⟨T7, B6_7, B7_7, Nat.ne_of_lt (lt_of_blk B6_6), (show w2.heap.size ≤ W5.heap.size from T5.size), (show w2.heap.size ≤ W6.heap.size from T6.size)⟩)
        · skip
          refine value_ (w1 := ?_) (v := ?_) (by rfl) rfl ?_ ?_
          rotate_left 2
          · go_simp
            constructor
            · rfl
            · rfl
          refine letter_ ?_
          intro W7 hW
          have T7 : Below w2.heap.size w2 W7 := by rw [hW]; exact T5.alloc T5.size _
          have B7_7 : W7.heap[W5.heap.size]? = some (.cells #[.float .f64 0, .float .f64 0] 24 (0, 0)) := by rw [hW]; exact heap_alloc_new _ _
          clear hW
          refine hK.out _ _ ⟨(KRight.cell_below T7 lA x0), (KRight.cell_below T7 lA x1), (KRight.cell_below T7 lB y0), (KRight.cell_below T7 lB y1)⟩ (fun hHeld => ?_)
          clear hK K
          refine norm_ (a' := ?_) ?_ ?_
          rotate_left
          · show Act.put _ (some 6) _ = _
            simp only [Act.put, List.setIfInBounds_toArray, List.set_cons_zero, List.set_cons_succ, i64_w, i32_w]
            rfl
          refine one_ (i := 6) (N := some 5) #[true, true, true, true, true, true, true, true, false, false] rfl rfl (by kernel_rfl) (by decide) (fun K hK => ?_)
          refine value_ (w1 := ?_) (v := ?_) (by rfl) rfl ?_ ?_
          rotate_left 2
          · go_simp
            constructor
            · rfl
            · rfl
          refine letter_ ?_
          intro W6 hW
          have T6 : Below w2.heap.size w2 W6 := by rw [hW]; exact T7.alloc T7.size _
          have B6_6 : W6.heap[W7.heap.size]? = some (.cells #[.float .f64 0, .float .f64 0] 24 (0, 0)) := by rw [hW]; exact heap_alloc_new _ _
          have B7_6 : W6.heap[W5.heap.size]? = some (.cells #[.float .f64 0, .float .f64 0] 24 (0, 0)) := by rw [hW]; exact blk_alloc B7_7 _
          clear hW
          refine hK.out _ _ ⟨(KRight.cell_below T6 lA x0), (KRight.cell_below T6 lA x1), (KRight.cell_below T6 lB y0), (KRight.cell_below T6 lB y1)⟩ (fun hHeld => ?_)
          clear hK K
          refine norm_ (a' := ?_) ?_ ?_
          rotate_left
          · show Act.put _ (some 5) _ = _
            simp only [Act.put, List.setIfInBounds_toArray, List.set_cons_zero, List.set_cons_succ, i64_w, i32_w]
            rfl
          exact norm_ (by simp only [putAll, Act.put, List.setIfInBounds_toArray, List.set_cons_zero, List.set_cons_succ]) (hCont (W7.heap.size, W5.heap.size) _ ⟨T6, B6_6, B7_6, Nat.ne_of_gt (lt_of_blk B7_7), (show w2.heap.size ≤ W7.heap.size from T7.size), (show w2.heap.size ≤ W5.heap.size from T5.size)⟩)
      · skip
        refine value_ (w1 := ?_) (v := ?_) (by rfl) rfl ?_ ?_
        rotate_left 2
        · go_simp
          constructor
          · rfl
          · rfl
        refine letter_ ?_
        intro W6 hW
        have T6 : Below w2.heap.size w2 W6 := by rw [hW]; exact T2.alloc T2.size _
        have B6_6 : W6.heap[W2.heap.size]? = some (.cells #[.float .f64 0, .float .f64 0] 24 (0, 0)) := by rw [hW]; exact heap_alloc_new _ _
        clear hW
        refine hK.out _ _ ⟨(KRight.cell_below T6 lA x0), (KRight.cell_below T6 lA x1), (KRight.cell_below T6 lB y0), (KRight.cell_below T6 lB y1)⟩ (fun hHeld => ?_)
        clear hK K
        refine norm_ (a' := ?_) ?_ ?_
        rotate_left
        · show Act.put _ (some 5) _ = _
          simp only [Act.put, List.setIfInBounds_toArray, List.set_cons_zero, List.set_cons_succ, i64_w, i32_w]
          rfl
        refine two_ (i := 5) (j := 7) (Ni := some 12) (Nj := some 6) #[true, true, true, true, true, true, true, false, false, false] #[true, true, true, true, true, false, true, true, false, false] rfl rfl rfl rfl (by kernel_rfl) (by decide) (by decide) (fun K hK => ?_) (fun K hK => ?_)
        · skip
          refine goes_ Try.func17 (by kernel_rfl) rfl #[.agg #[.float .f64 b0, .float .f64 b1], .agg #[.float .f64 a0, .float .f64 a1]] (by rfl) rfl rfl (by simp only [List.map_toArray, List.map_cons, List.map_nil]; rfl) ?_
          with_reducible refine (c2.out _).mono ?_
          rintro e W5 ⟨rfl, hb⟩
          refine ⟨_, rfl, ?_⟩
          have T5 := below_step T6 hb
          have B6_5 := (hb.block _ (lt_of_blk B6_6)).trans B6_6
          clear hb
          refine hK.out _ _ ⟨(KRight.cell_below T5 lA x0), (KRight.cell_below T5 lA x1), (KRight.cell_below T5 lB y0), (KRight.cell_below T5 lB y1)⟩ (fun hHeld => ?_)
          clear hK K
          refine norm_ (a' := ?_) ?_ ?_
          rotate_left
          · show Act.put _ (some 12) _ = _
            simp only [Act.put, List.setIfInBounds_toArray, List.set_cons_zero, List.set_cons_succ, i64_w, i32_w]
            rfl
          refine one_ (i := 7) (N := some 6) #[true, true, true, true, true, true, true, true, false, false] rfl rfl (by kernel_rfl) (by decide) (fun K hK => ?_)
          refine value_ (w1 := ?_) (v := ?_) (by rfl) rfl ?_ ?_
          rotate_left 2
          · go_simp
            constructor
            · rfl
            · rfl
          refine letter_ ?_
          intro W7 hW
          have T7 : Below w2.heap.size w2 W7 := by rw [hW]; exact T5.alloc T5.size _
          have B7_7 : W7.heap[W5.heap.size]? = some (.cells #[.float .f64 0, .float .f64 0] 24 (0, 0)) := by rw [hW]; exact heap_alloc_new _ _
          have B6_7 : W7.heap[W2.heap.size]? = some (.cells #[.float .f64 0, .float .f64 0] 24 (0, 0)) := by rw [hW]; exact blk_alloc B6_5 _
          clear hW
          refine hK.out _ _ ⟨(KRight.cell_below T7 lA x0), (KRight.cell_below T7 lA x1), (KRight.cell_below T7 lB y0), (KRight.cell_below T7 lB y1)⟩ (fun hHeld => ?_)
          clear hK K
          refine norm_ (a' := ?_) ?_ ?_
          rotate_left
          · show Act.put _ (some 6) _ = _
            simp only [Act.put, List.setIfInBounds_toArray, List.set_cons_zero, List.set_cons_succ, i64_w, i32_w]
            rfl
          exact norm_ (by simp only [putAll, Act.put, List.setIfInBounds_toArray, List.set_cons_zero, List.set_cons_succ]) (hCont (W2.heap.size, W5.heap.size) _ ⟨T7, B6_7, B7_7, Nat.ne_of_lt (lt_of_blk B6_5), (show w2.heap.size ≤ W2.heap.size from T2.size), (show w2.heap.size ≤ W5.heap.size from T5.size)⟩)
        · skip
          refine value_ (w1 := ?_) (v := ?_) (by rfl) rfl ?_ ?_
          rotate_left 2
          · go_simp
            constructor
            · rfl
            · rfl
          refine letter_ ?_
          intro W7 hW
          have T7 : Below w2.heap.size w2 W7 := by rw [hW]; exact T6.alloc T6.size _
          have B7_7 : W7.heap[W6.heap.size]? = some (.cells #[.float .f64 0, .float .f64 0] 24 (0, 0)) := by rw [hW]; exact heap_alloc_new _ _
          have B6_7 : W7.heap[W2.heap.size]? = some (.cells #[.float .f64 0, .float .f64 0] 24 (0, 0)) := by rw [hW]; exact blk_alloc B6_6 _
          clear hW
          refine hK.out _ _ ⟨(KRight.cell_below T7 lA x0), (KRight.cell_below T7 lA x1), (KRight.cell_below T7 lB y0), (KRight.cell_below T7 lB y1)⟩ (fun hHeld => ?_)
          clear hK K
          refine norm_ (a' := ?_) ?_ ?_
          rotate_left
          · show Act.put _ (some 6) _ = _
            simp only [Act.put, List.setIfInBounds_toArray, List.set_cons_zero, List.set_cons_succ, i64_w, i32_w]
            rfl
          refine one_ (i := 5) (N := some 12) #[true, true, true, true, true, true, true, true, false, false] rfl rfl (by kernel_rfl) (by decide) (fun K hK => ?_)
          refine goes_ Try.func17 (by kernel_rfl) rfl #[.agg #[.float .f64 b0, .float .f64 b1], .agg #[.float .f64 a0, .float .f64 a1]] (by rfl) rfl rfl (by simp only [List.map_toArray, List.map_cons, List.map_nil]; rfl) ?_
          with_reducible refine (c2.out _).mono ?_
          rintro e W5 ⟨rfl, hb⟩
          refine ⟨_, rfl, ?_⟩
          have T5 := below_step T7 hb
          have B6_5 := (hb.block _ (lt_of_blk B6_7)).trans B6_7
          have B7_5 := (hb.block _ (lt_of_blk B7_7)).trans B7_7
          clear hb
          refine hK.out _ _ ⟨(KRight.cell_below T5 lA x0), (KRight.cell_below T5 lA x1), (KRight.cell_below T5 lB y0), (KRight.cell_below T5 lB y1)⟩ (fun hHeld => ?_)
          clear hK K
          refine norm_ (a' := ?_) ?_ ?_
          rotate_left
          · show Act.put _ (some 12) _ = _
            simp only [Act.put, List.setIfInBounds_toArray, List.set_cons_zero, List.set_cons_succ, i64_w, i32_w]
            rfl
          exact norm_ (by simp only [putAll, Act.put, List.setIfInBounds_toArray, List.set_cons_zero, List.set_cons_succ]) (hCont (W2.heap.size, W6.heap.size) _ ⟨T5, B6_5, B7_5, Nat.ne_of_lt (lt_of_blk B6_6), (show w2.heap.size ≤ W2.heap.size from T2.size), (show w2.heap.size ≤ W6.heap.size from T6.size)⟩)
      · skip
        refine value_ (w1 := ?_) (v := ?_) (by rfl) rfl ?_ ?_
        rotate_left 2
        · go_simp
          constructor
          · rfl
          · rfl
        refine letter_ ?_
        intro W7 hW
        have T7 : Below w2.heap.size w2 W7 := by rw [hW]; exact T2.alloc T2.size _
        have B7_7 : W7.heap[W2.heap.size]? = some (.cells #[.float .f64 0, .float .f64 0] 24 (0, 0)) := by rw [hW]; exact heap_alloc_new _ _
        clear hW
        refine hK.out _ _ ⟨(KRight.cell_below T7 lA x0), (KRight.cell_below T7 lA x1), (KRight.cell_below T7 lB y0), (KRight.cell_below T7 lB y1)⟩ (fun hHeld => ?_)
        clear hK K
        refine norm_ (a' := ?_) ?_ ?_
        rotate_left
        · show Act.put _ (some 6) _ = _
          simp only [Act.put, List.setIfInBounds_toArray, List.set_cons_zero, List.set_cons_succ, i64_w, i32_w]
          rfl
        refine two_ (i := 5) (j := 6) (Ni := some 12) (Nj := some 5) #[true, true, true, true, true, true, false, true, false, false] #[true, true, true, true, true, false, true, true, false, false] rfl rfl rfl rfl (by kernel_rfl) (by decide) (by decide) (fun K hK => ?_) (fun K hK => ?_)
        · skip
          refine goes_ Try.func17 (by kernel_rfl) rfl #[.agg #[.float .f64 b0, .float .f64 b1], .agg #[.float .f64 a0, .float .f64 a1]] (by rfl) rfl rfl (by simp only [List.map_toArray, List.map_cons, List.map_nil]; rfl) ?_
          with_reducible refine (c2.out _).mono ?_
          rintro e W5 ⟨rfl, hb⟩
          refine ⟨_, rfl, ?_⟩
          have T5 := below_step T7 hb
          have B7_5 := (hb.block _ (lt_of_blk B7_7)).trans B7_7
          clear hb
          refine hK.out _ _ ⟨(KRight.cell_below T5 lA x0), (KRight.cell_below T5 lA x1), (KRight.cell_below T5 lB y0), (KRight.cell_below T5 lB y1)⟩ (fun hHeld => ?_)
          clear hK K
          refine norm_ (a' := ?_) ?_ ?_
          rotate_left
          · show Act.put _ (some 12) _ = _
            simp only [Act.put, List.setIfInBounds_toArray, List.set_cons_zero, List.set_cons_succ, i64_w, i32_w]
            rfl
          refine one_ (i := 6) (N := some 5) #[true, true, true, true, true, true, true, true, false, false] rfl rfl (by kernel_rfl) (by decide) (fun K hK => ?_)
          refine value_ (w1 := ?_) (v := ?_) (by rfl) rfl ?_ ?_
          rotate_left 2
          · go_simp
            constructor
            · rfl
            · rfl
          refine letter_ ?_
          intro W6 hW
          have T6 : Below w2.heap.size w2 W6 := by rw [hW]; exact T5.alloc T5.size _
          have B6_6 : W6.heap[W5.heap.size]? = some (.cells #[.float .f64 0, .float .f64 0] 24 (0, 0)) := by rw [hW]; exact heap_alloc_new _ _
          have B7_6 : W6.heap[W2.heap.size]? = some (.cells #[.float .f64 0, .float .f64 0] 24 (0, 0)) := by rw [hW]; exact blk_alloc B7_5 _
          clear hW
          refine hK.out _ _ ⟨(KRight.cell_below T6 lA x0), (KRight.cell_below T6 lA x1), (KRight.cell_below T6 lB y0), (KRight.cell_below T6 lB y1)⟩ (fun hHeld => ?_)
          clear hK K
          refine norm_ (a' := ?_) ?_ ?_
          rotate_left
          · show Act.put _ (some 5) _ = _
            simp only [Act.put, List.setIfInBounds_toArray, List.set_cons_zero, List.set_cons_succ, i64_w, i32_w]
            rfl
          exact norm_ (by simp only [putAll, Act.put, List.setIfInBounds_toArray, List.set_cons_zero, List.set_cons_succ]) (hCont (W5.heap.size, W2.heap.size) _ ⟨T6, B6_6, B7_6, Nat.ne_of_gt (lt_of_blk B7_5), (show w2.heap.size ≤ W5.heap.size from T5.size), (show w2.heap.size ≤ W2.heap.size from T2.size)⟩)
        · skip
          refine value_ (w1 := ?_) (v := ?_) (by rfl) rfl ?_ ?_
          rotate_left 2
          · go_simp
            constructor
            · rfl
            · rfl
          refine letter_ ?_
          intro W6 hW
          have T6 : Below w2.heap.size w2 W6 := by rw [hW]; exact T7.alloc T7.size _
          have B6_6 : W6.heap[W7.heap.size]? = some (.cells #[.float .f64 0, .float .f64 0] 24 (0, 0)) := by rw [hW]; exact heap_alloc_new _ _
          have B7_6 : W6.heap[W2.heap.size]? = some (.cells #[.float .f64 0, .float .f64 0] 24 (0, 0)) := by rw [hW]; exact blk_alloc B7_7 _
          clear hW
          refine hK.out _ _ ⟨(KRight.cell_below T6 lA x0), (KRight.cell_below T6 lA x1), (KRight.cell_below T6 lB y0), (KRight.cell_below T6 lB y1)⟩ (fun hHeld => ?_)
          clear hK K
          refine norm_ (a' := ?_) ?_ ?_
          rotate_left
          · show Act.put _ (some 5) _ = _
            simp only [Act.put, List.setIfInBounds_toArray, List.set_cons_zero, List.set_cons_succ, i64_w, i32_w]
            rfl
          refine one_ (i := 5) (N := some 12) #[true, true, true, true, true, true, true, true, false, false] rfl rfl (by kernel_rfl) (by decide) (fun K hK => ?_)
          refine goes_ Try.func17 (by kernel_rfl) rfl #[.agg #[.float .f64 b0, .float .f64 b1], .agg #[.float .f64 a0, .float .f64 a1]] (by rfl) rfl rfl (by simp only [List.map_toArray, List.map_cons, List.map_nil]; rfl) ?_
          with_reducible refine (c2.out _).mono ?_
          rintro e W5 ⟨rfl, hb⟩
          refine ⟨_, rfl, ?_⟩
          have T5 := below_step T6 hb
          have B7_5 := (hb.block _ (lt_of_blk B7_6)).trans B7_6
          have B6_5 := (hb.block _ (lt_of_blk B6_6)).trans B6_6
          clear hb
          refine hK.out _ _ ⟨(KRight.cell_below T5 lA x0), (KRight.cell_below T5 lA x1), (KRight.cell_below T5 lB y0), (KRight.cell_below T5 lB y1)⟩ (fun hHeld => ?_)
          clear hK K
          refine norm_ (a' := ?_) ?_ ?_
          rotate_left
          · show Act.put _ (some 12) _ = _
            simp only [Act.put, List.setIfInBounds_toArray, List.set_cons_zero, List.set_cons_succ, i64_w, i32_w]
            rfl
          exact norm_ (by simp only [putAll, Act.put, List.setIfInBounds_toArray, List.set_cons_zero, List.set_cons_succ]) (hCont (W7.heap.size, W2.heap.size) _ ⟨T5, B6_5, B7_5, Nat.ne_of_gt (lt_of_blk B7_7), (show w2.heap.size ≤ W7.heap.size from T7.size), (show w2.heap.size ≤ W2.heap.size from T2.size)⟩)
    · skip
      refine value_ (w1 := ?_) (v := ?_) (by rfl) rfl ?_ ?_
      rotate_left 2
      · go_simp
        constructor
        · rfl
        · rfl
      refine letter_ ?_
      intro W6 hW
      have T6 : Below w2.heap.size w2 W6 := by rw [hW]; exact T0.alloc T0.size _
      have B6_6 : W6.heap[w2.drew.heap.size]? = some (.cells #[.float .f64 0, .float .f64 0] 24 (0, 0)) := by rw [hW]; exact heap_alloc_new _ _
      clear hW
      refine hK.out _ _ ⟨(KRight.cell_below T6 lA x0), (KRight.cell_below T6 lA x1), (KRight.cell_below T6 lB y0), (KRight.cell_below T6 lB y1)⟩ (fun hHeld => ?_)
      clear hK K
      refine norm_ (a' := ?_) ?_ ?_
      rotate_left
      · show Act.put _ (some 5) _ = _
        simp only [Act.put, List.setIfInBounds_toArray, List.set_cons_zero, List.set_cons_succ, i64_w, i32_w]
        rfl
      refine two_ (i := 2) (j := 7) (Ni := some 9) (Nj := some 6) #[true, true, true, true, true, false, true, false, false, false] #[true, true, false, true, true, false, true, true, false, false] rfl rfl rfl rfl (by kernel_rfl) (by decide) (by decide) (fun K hK => ?_) (fun K hK => ?_)
      · skip
        refine goes_ Try.func17 (by kernel_rfl) rfl #[.agg #[.float .f64 a0, .float .f64 a1], .agg #[.float .f64 b0, .float .f64 b1]] (by rfl) rfl rfl (by simp only [List.map_toArray, List.map_cons, List.map_nil]; rfl) ?_
        with_reducible refine (c1.out _).mono ?_
        rintro e W2 ⟨rfl, hb⟩
        refine ⟨_, rfl, ?_⟩
        have T2 := below_step T6 hb
        have B6_2 := (hb.block _ (lt_of_blk B6_6)).trans B6_6
        clear hb
        refine hK.out _ _ ⟨(KRight.cell_below T2 lA x0), (KRight.cell_below T2 lA x1), (KRight.cell_below T2 lB y0), (KRight.cell_below T2 lB y1)⟩ (fun hHeld => ?_)
        clear hK K
        refine norm_ (a' := ?_) ?_ ?_
        rotate_left
        · show Act.put _ (some 9) _ = _
          simp only [Act.put, List.setIfInBounds_toArray, List.set_cons_zero, List.set_cons_succ, i64_w, i32_w]
          rfl
        refine two_ (i := 5) (j := 7) (Ni := some 12) (Nj := some 6) #[true, true, true, true, true, true, true, false, false, false] #[true, true, true, true, true, false, true, true, false, false] rfl rfl rfl rfl (by kernel_rfl) (by decide) (by decide) (fun K hK => ?_) (fun K hK => ?_)
        · skip
          refine goes_ Try.func17 (by kernel_rfl) rfl #[.agg #[.float .f64 b0, .float .f64 b1], .agg #[.float .f64 a0, .float .f64 a1]] (by rfl) rfl rfl (by simp only [List.map_toArray, List.map_cons, List.map_nil]; rfl) ?_
          with_reducible refine (c2.out _).mono ?_
          rintro e W5 ⟨rfl, hb⟩
          refine ⟨_, rfl, ?_⟩
          have T5 := below_step T2 hb
          have B6_5 := (hb.block _ (lt_of_blk B6_2)).trans B6_2
          clear hb
          refine hK.out _ _ ⟨(KRight.cell_below T5 lA x0), (KRight.cell_below T5 lA x1), (KRight.cell_below T5 lB y0), (KRight.cell_below T5 lB y1)⟩ (fun hHeld => ?_)
          clear hK K
          refine norm_ (a' := ?_) ?_ ?_
          rotate_left
          · show Act.put _ (some 12) _ = _
            simp only [Act.put, List.setIfInBounds_toArray, List.set_cons_zero, List.set_cons_succ, i64_w, i32_w]
            rfl
          refine one_ (i := 7) (N := some 6) #[true, true, true, true, true, true, true, true, false, false] rfl rfl (by kernel_rfl) (by decide) (fun K hK => ?_)
          refine value_ (w1 := ?_) (v := ?_) (by rfl) rfl ?_ ?_
          rotate_left 2
          · go_simp
            constructor
            · rfl
            · rfl
          refine letter_ ?_
          intro W7 hW
          have T7 : Below w2.heap.size w2 W7 := by rw [hW]; exact T5.alloc T5.size _
          have B7_7 : W7.heap[W5.heap.size]? = some (.cells #[.float .f64 0, .float .f64 0] 24 (0, 0)) := by rw [hW]; exact heap_alloc_new _ _
          have B6_7 : W7.heap[w2.heap.size]? = some (.cells #[.float .f64 0, .float .f64 0] 24 (0, 0)) := by rw [hW]; exact blk_alloc B6_5 _
          clear hW
          refine hK.out _ _ ⟨(KRight.cell_below T7 lA x0), (KRight.cell_below T7 lA x1), (KRight.cell_below T7 lB y0), (KRight.cell_below T7 lB y1)⟩ (fun hHeld => ?_)
          clear hK K
          refine norm_ (a' := ?_) ?_ ?_
          rotate_left
          · show Act.put _ (some 6) _ = _
            simp only [Act.put, List.setIfInBounds_toArray, List.set_cons_zero, List.set_cons_succ, i64_w, i32_w]
            rfl
          exact norm_ (by simp only [putAll, Act.put, List.setIfInBounds_toArray, List.set_cons_zero, List.set_cons_succ]) (hCont (w2.heap.size, W5.heap.size) _ ⟨T7, B6_7, B7_7, Nat.ne_of_lt (lt_of_blk B6_5), (show w2.heap.size ≤ w2.heap.size from T0.size), (show w2.heap.size ≤ W5.heap.size from T5.size)⟩)
        · skip
          refine value_ (w1 := ?_) (v := ?_) (by rfl) rfl ?_ ?_
          rotate_left 2
          · go_simp
            constructor
            · rfl
            · rfl
          refine letter_ ?_
          intro W7 hW
          have T7 : Below w2.heap.size w2 W7 := by rw [hW]; exact T2.alloc T2.size _
          have B7_7 : W7.heap[W2.heap.size]? = some (.cells #[.float .f64 0, .float .f64 0] 24 (0, 0)) := by rw [hW]; exact heap_alloc_new _ _
          have B6_7 : W7.heap[w2.heap.size]? = some (.cells #[.float .f64 0, .float .f64 0] 24 (0, 0)) := by rw [hW]; exact blk_alloc B6_2 _
          clear hW
          refine hK.out _ _ ⟨(KRight.cell_below T7 lA x0), (KRight.cell_below T7 lA x1), (KRight.cell_below T7 lB y0), (KRight.cell_below T7 lB y1)⟩ (fun hHeld => ?_)
          clear hK K
          refine norm_ (a' := ?_) ?_ ?_
          rotate_left
          · show Act.put _ (some 6) _ = _
            simp only [Act.put, List.setIfInBounds_toArray, List.set_cons_zero, List.set_cons_succ, i64_w, i32_w]
            rfl
          refine one_ (i := 5) (N := some 12) #[true, true, true, true, true, true, true, true, false, false] rfl rfl (by kernel_rfl) (by decide) (fun K hK => ?_)
          refine goes_ Try.func17 (by kernel_rfl) rfl #[.agg #[.float .f64 b0, .float .f64 b1], .agg #[.float .f64 a0, .float .f64 a1]] (by rfl) rfl rfl (by simp only [List.map_toArray, List.map_cons, List.map_nil]; rfl) ?_
          with_reducible refine (c2.out _).mono ?_
          rintro e W5 ⟨rfl, hb⟩
          refine ⟨_, rfl, ?_⟩
          have T5 := below_step T7 hb
          have B6_5 := (hb.block _ (lt_of_blk B6_7)).trans B6_7
          have B7_5 := (hb.block _ (lt_of_blk B7_7)).trans B7_7
          clear hb
          refine hK.out _ _ ⟨(KRight.cell_below T5 lA x0), (KRight.cell_below T5 lA x1), (KRight.cell_below T5 lB y0), (KRight.cell_below T5 lB y1)⟩ (fun hHeld => ?_)
          clear hK K
          refine norm_ (a' := ?_) ?_ ?_
          rotate_left
          · show Act.put _ (some 12) _ = _
            simp only [Act.put, List.setIfInBounds_toArray, List.set_cons_zero, List.set_cons_succ, i64_w, i32_w]
            rfl
          exact norm_ (by simp only [putAll, Act.put, List.setIfInBounds_toArray, List.set_cons_zero, List.set_cons_succ]) (hCont (w2.heap.size, W2.heap.size) _ ⟨T5, B6_5, B7_5, Nat.ne_of_lt (lt_of_blk B6_2), (show w2.heap.size ≤ w2.heap.size from T0.size), (show w2.heap.size ≤ W2.heap.size from T2.size)⟩)
      · skip
        refine value_ (w1 := ?_) (v := ?_) (by rfl) rfl ?_ ?_
        rotate_left 2
        · go_simp
          constructor
          · rfl
          · rfl
        refine letter_ ?_
        intro W7 hW
        have T7 : Below w2.heap.size w2 W7 := by rw [hW]; exact T6.alloc T6.size _
        have B7_7 : W7.heap[W6.heap.size]? = some (.cells #[.float .f64 0, .float .f64 0] 24 (0, 0)) := by rw [hW]; exact heap_alloc_new _ _
        have B6_7 : W7.heap[w2.heap.size]? = some (.cells #[.float .f64 0, .float .f64 0] 24 (0, 0)) := by rw [hW]; exact blk_alloc B6_6 _
        clear hW
        refine hK.out _ _ ⟨(KRight.cell_below T7 lA x0), (KRight.cell_below T7 lA x1), (KRight.cell_below T7 lB y0), (KRight.cell_below T7 lB y1)⟩ (fun hHeld => ?_)
        clear hK K
        refine norm_ (a' := ?_) ?_ ?_
        rotate_left
        · show Act.put _ (some 6) _ = _
          simp only [Act.put, List.setIfInBounds_toArray, List.set_cons_zero, List.set_cons_succ, i64_w, i32_w]
          rfl
        refine one_ (i := 2) (N := some 9) #[true, true, true, true, true, false, true, true, false, false] rfl rfl (by kernel_rfl) (by decide) (fun K hK => ?_)
        refine goes_ Try.func17 (by kernel_rfl) rfl #[.agg #[.float .f64 a0, .float .f64 a1], .agg #[.float .f64 b0, .float .f64 b1]] (by rfl) rfl rfl (by simp only [List.map_toArray, List.map_cons, List.map_nil]; rfl) ?_
        with_reducible refine (c1.out _).mono ?_
        rintro e W2 ⟨rfl, hb⟩
        refine ⟨_, rfl, ?_⟩
        have T2 := below_step T7 hb
        have B6_2 := (hb.block _ (lt_of_blk B6_7)).trans B6_7
        have B7_2 := (hb.block _ (lt_of_blk B7_7)).trans B7_7
        clear hb
        refine hK.out _ _ ⟨(KRight.cell_below T2 lA x0), (KRight.cell_below T2 lA x1), (KRight.cell_below T2 lB y0), (KRight.cell_below T2 lB y1)⟩ (fun hHeld => ?_)
        clear hK K
        refine norm_ (a' := ?_) ?_ ?_
        rotate_left
        · show Act.put _ (some 9) _ = _
          simp only [Act.put, List.setIfInBounds_toArray, List.set_cons_zero, List.set_cons_succ, i64_w, i32_w]
          rfl
        refine one_ (i := 5) (N := some 12) #[true, true, true, true, true, true, true, true, false, false] rfl rfl (by kernel_rfl) (by decide) (fun K hK => ?_)
        refine goes_ Try.func17 (by kernel_rfl) rfl #[.agg #[.float .f64 b0, .float .f64 b1], .agg #[.float .f64 a0, .float .f64 a1]] (by rfl) rfl rfl (by simp only [List.map_toArray, List.map_cons, List.map_nil]; rfl) ?_
        with_reducible refine (c2.out _).mono ?_
        rintro e W5 ⟨rfl, hb⟩
        refine ⟨_, rfl, ?_⟩
        have T5 := below_step T2 hb
        have B6_5 := (hb.block _ (lt_of_blk B6_2)).trans B6_2
        have B7_5 := (hb.block _ (lt_of_blk B7_2)).trans B7_2
        clear hb
        refine hK.out _ _ ⟨(KRight.cell_below T5 lA x0), (KRight.cell_below T5 lA x1), (KRight.cell_below T5 lB y0), (KRight.cell_below T5 lB y1)⟩ (fun hHeld => ?_)
        clear hK K
        refine norm_ (a' := ?_) ?_ ?_
        rotate_left
        · show Act.put _ (some 12) _ = _
          simp only [Act.put, List.setIfInBounds_toArray, List.set_cons_zero, List.set_cons_succ, i64_w, i32_w]
          rfl
        exact norm_ (by simp only [putAll, Act.put, List.setIfInBounds_toArray, List.set_cons_zero, List.set_cons_succ]) (hCont (w2.heap.size, W6.heap.size) _ ⟨T5, B6_5, B7_5, Nat.ne_of_lt (lt_of_blk B6_6), (show w2.heap.size ≤ w2.heap.size from T0.size), (show w2.heap.size ≤ W6.heap.size from T6.size)⟩)
    · skip
      refine value_ (w1 := ?_) (v := ?_) (by rfl) rfl ?_ ?_
      rotate_left 2
      · go_simp
        constructor
        · rfl
        · rfl
      refine letter_ ?_
      intro W7 hW
      have T7 : Below w2.heap.size w2 W7 := by rw [hW]; exact T0.alloc T0.size _
      have B7_7 : W7.heap[w2.drew.heap.size]? = some (.cells #[.float .f64 0, .float .f64 0] 24 (0, 0)) := by rw [hW]; exact heap_alloc_new _ _
      clear hW
      refine hK.out _ _ ⟨(KRight.cell_below T7 lA x0), (KRight.cell_below T7 lA x1), (KRight.cell_below T7 lB y0), (KRight.cell_below T7 lB y1)⟩ (fun hHeld => ?_)
      clear hK K
      refine norm_ (a' := ?_) ?_ ?_
      rotate_left
      · show Act.put _ (some 6) _ = _
        simp only [Act.put, List.setIfInBounds_toArray, List.set_cons_zero, List.set_cons_succ, i64_w, i32_w]
        rfl
      refine two_ (i := 2) (j := 6) (Ni := some 9) (Nj := some 5) #[true, true, true, true, true, false, false, true, false, false] #[true, true, false, true, true, false, true, true, false, false] rfl rfl rfl rfl (by kernel_rfl) (by decide) (by decide) (fun K hK => ?_) (fun K hK => ?_)
      · skip
        refine goes_ Try.func17 (by kernel_rfl) rfl #[.agg #[.float .f64 a0, .float .f64 a1], .agg #[.float .f64 b0, .float .f64 b1]] (by rfl) rfl rfl (by simp only [List.map_toArray, List.map_cons, List.map_nil]; rfl) ?_
        with_reducible refine (c1.out _).mono ?_
        rintro e W2 ⟨rfl, hb⟩
        refine ⟨_, rfl, ?_⟩
        have T2 := below_step T7 hb
        have B7_2 := (hb.block _ (lt_of_blk B7_7)).trans B7_7
        clear hb
        refine hK.out _ _ ⟨(KRight.cell_below T2 lA x0), (KRight.cell_below T2 lA x1), (KRight.cell_below T2 lB y0), (KRight.cell_below T2 lB y1)⟩ (fun hHeld => ?_)
        clear hK K
        refine norm_ (a' := ?_) ?_ ?_
        rotate_left
        · show Act.put _ (some 9) _ = _
          simp only [Act.put, List.setIfInBounds_toArray, List.set_cons_zero, List.set_cons_succ, i64_w, i32_w]
          rfl
        refine two_ (i := 5) (j := 6) (Ni := some 12) (Nj := some 5) #[true, true, true, true, true, true, false, true, false, false] #[true, true, true, true, true, false, true, true, false, false] rfl rfl rfl rfl (by kernel_rfl) (by decide) (by decide) (fun K hK => ?_) (fun K hK => ?_)
        · skip
          refine goes_ Try.func17 (by kernel_rfl) rfl #[.agg #[.float .f64 b0, .float .f64 b1], .agg #[.float .f64 a0, .float .f64 a1]] (by rfl) rfl rfl (by simp only [List.map_toArray, List.map_cons, List.map_nil]; rfl) ?_
          with_reducible refine (c2.out _).mono ?_
          rintro e W5 ⟨rfl, hb⟩
          refine ⟨_, rfl, ?_⟩
          have T5 := below_step T2 hb
          have B7_5 := (hb.block _ (lt_of_blk B7_2)).trans B7_2
          clear hb
          refine hK.out _ _ ⟨(KRight.cell_below T5 lA x0), (KRight.cell_below T5 lA x1), (KRight.cell_below T5 lB y0), (KRight.cell_below T5 lB y1)⟩ (fun hHeld => ?_)
          clear hK K
          refine norm_ (a' := ?_) ?_ ?_
          rotate_left
          · show Act.put _ (some 12) _ = _
            simp only [Act.put, List.setIfInBounds_toArray, List.set_cons_zero, List.set_cons_succ, i64_w, i32_w]
            rfl
          refine one_ (i := 6) (N := some 5) #[true, true, true, true, true, true, true, true, false, false] rfl rfl (by kernel_rfl) (by decide) (fun K hK => ?_)
          refine value_ (w1 := ?_) (v := ?_) (by rfl) rfl ?_ ?_
          rotate_left 2
          · go_simp
            constructor
            · rfl
            · rfl
          refine letter_ ?_
          intro W6 hW
          have T6 : Below w2.heap.size w2 W6 := by rw [hW]; exact T5.alloc T5.size _
          have B6_6 : W6.heap[W5.heap.size]? = some (.cells #[.float .f64 0, .float .f64 0] 24 (0, 0)) := by rw [hW]; exact heap_alloc_new _ _
          have B7_6 : W6.heap[w2.heap.size]? = some (.cells #[.float .f64 0, .float .f64 0] 24 (0, 0)) := by rw [hW]; exact blk_alloc B7_5 _
          clear hW
          refine hK.out _ _ ⟨(KRight.cell_below T6 lA x0), (KRight.cell_below T6 lA x1), (KRight.cell_below T6 lB y0), (KRight.cell_below T6 lB y1)⟩ (fun hHeld => ?_)
          clear hK K
          refine norm_ (a' := ?_) ?_ ?_
          rotate_left
          · show Act.put _ (some 5) _ = _
            simp only [Act.put, List.setIfInBounds_toArray, List.set_cons_zero, List.set_cons_succ, i64_w, i32_w]
            rfl
          exact norm_ (by simp only [putAll, Act.put, List.setIfInBounds_toArray, List.set_cons_zero, List.set_cons_succ]) (hCont (W5.heap.size, w2.heap.size) _ ⟨T6, B6_6, B7_6, Nat.ne_of_gt (lt_of_blk B7_5), (show w2.heap.size ≤ W5.heap.size from T5.size), (show w2.heap.size ≤ w2.heap.size from T0.size)⟩)
        · skip
          refine value_ (w1 := ?_) (v := ?_) (by rfl) rfl ?_ ?_
          rotate_left 2
          · go_simp
            constructor
            · rfl
            · rfl
          refine letter_ ?_
          intro W6 hW
          have T6 : Below w2.heap.size w2 W6 := by rw [hW]; exact T2.alloc T2.size _
          have B6_6 : W6.heap[W2.heap.size]? = some (.cells #[.float .f64 0, .float .f64 0] 24 (0, 0)) := by rw [hW]; exact heap_alloc_new _ _
          have B7_6 : W6.heap[w2.heap.size]? = some (.cells #[.float .f64 0, .float .f64 0] 24 (0, 0)) := by rw [hW]; exact blk_alloc B7_2 _
          clear hW
          refine hK.out _ _ ⟨(KRight.cell_below T6 lA x0), (KRight.cell_below T6 lA x1), (KRight.cell_below T6 lB y0), (KRight.cell_below T6 lB y1)⟩ (fun hHeld => ?_)
          clear hK K
          refine norm_ (a' := ?_) ?_ ?_
          rotate_left
          · show Act.put _ (some 5) _ = _
            simp only [Act.put, List.setIfInBounds_toArray, List.set_cons_zero, List.set_cons_succ, i64_w, i32_w]
            rfl
          refine one_ (i := 5) (N := some 12) #[true, true, true, true, true, true, true, true, false, false] rfl rfl (by kernel_rfl) (by decide) (fun K hK => ?_)
          refine goes_ Try.func17 (by kernel_rfl) rfl #[.agg #[.float .f64 b0, .float .f64 b1], .agg #[.float .f64 a0, .float .f64 a1]] (by rfl) rfl rfl (by simp only [List.map_toArray, List.map_cons, List.map_nil]; rfl) ?_
          with_reducible refine (c2.out _).mono ?_
          rintro e W5 ⟨rfl, hb⟩
          refine ⟨_, rfl, ?_⟩
          have T5 := below_step T6 hb
          have B7_5 := (hb.block _ (lt_of_blk B7_6)).trans B7_6
          have B6_5 := (hb.block _ (lt_of_blk B6_6)).trans B6_6
          clear hb
          refine hK.out _ _ ⟨(KRight.cell_below T5 lA x0), (KRight.cell_below T5 lA x1), (KRight.cell_below T5 lB y0), (KRight.cell_below T5 lB y1)⟩ (fun hHeld => ?_)
          clear hK K
          refine norm_ (a' := ?_) ?_ ?_
          rotate_left
          · show Act.put _ (some 12) _ = _
            simp only [Act.put, List.setIfInBounds_toArray, List.set_cons_zero, List.set_cons_succ, i64_w, i32_w]
            rfl
          exact norm_ (by simp only [putAll, Act.put, List.setIfInBounds_toArray, List.set_cons_zero, List.set_cons_succ]) (hCont (W2.heap.size, w2.heap.size) _ ⟨T5, B6_5, B7_5, Nat.ne_of_gt (lt_of_blk B7_2), (show w2.heap.size ≤ W2.heap.size from T2.size), (show w2.heap.size ≤ w2.heap.size from T0.size)⟩)
      · skip
        refine value_ (w1 := ?_) (v := ?_) (by rfl) rfl ?_ ?_
        rotate_left 2
        · go_simp
          constructor
          · rfl
          · rfl
        refine letter_ ?_
        intro W6 hW
        have T6 : Below w2.heap.size w2 W6 := by rw [hW]; exact T7.alloc T7.size _
        have B6_6 : W6.heap[W7.heap.size]? = some (.cells #[.float .f64 0, .float .f64 0] 24 (0, 0)) := by rw [hW]; exact heap_alloc_new _ _
        have B7_6 : W6.heap[w2.heap.size]? = some (.cells #[.float .f64 0, .float .f64 0] 24 (0, 0)) := by rw [hW]; exact blk_alloc B7_7 _
        clear hW
        refine hK.out _ _ ⟨(KRight.cell_below T6 lA x0), (KRight.cell_below T6 lA x1), (KRight.cell_below T6 lB y0), (KRight.cell_below T6 lB y1)⟩ (fun hHeld => ?_)
        clear hK K
        refine norm_ (a' := ?_) ?_ ?_
        rotate_left
        · show Act.put _ (some 5) _ = _
          simp only [Act.put, List.setIfInBounds_toArray, List.set_cons_zero, List.set_cons_succ, i64_w, i32_w]
          rfl
        refine one_ (i := 2) (N := some 9) #[true, true, true, true, true, false, true, true, false, false] rfl rfl (by kernel_rfl) (by decide) (fun K hK => ?_)
        refine goes_ Try.func17 (by kernel_rfl) rfl #[.agg #[.float .f64 a0, .float .f64 a1], .agg #[.float .f64 b0, .float .f64 b1]] (by rfl) rfl rfl (by simp only [List.map_toArray, List.map_cons, List.map_nil]; rfl) ?_
        with_reducible refine (c1.out _).mono ?_
        rintro e W2 ⟨rfl, hb⟩
        refine ⟨_, rfl, ?_⟩
        have T2 := below_step T6 hb
        have B7_2 := (hb.block _ (lt_of_blk B7_6)).trans B7_6
        have B6_2 := (hb.block _ (lt_of_blk B6_6)).trans B6_6
        clear hb
        refine hK.out _ _ ⟨(KRight.cell_below T2 lA x0), (KRight.cell_below T2 lA x1), (KRight.cell_below T2 lB y0), (KRight.cell_below T2 lB y1)⟩ (fun hHeld => ?_)
        clear hK K
        refine norm_ (a' := ?_) ?_ ?_
        rotate_left
        · show Act.put _ (some 9) _ = _
          simp only [Act.put, List.setIfInBounds_toArray, List.set_cons_zero, List.set_cons_succ, i64_w, i32_w]
          rfl
        refine one_ (i := 5) (N := some 12) #[true, true, true, true, true, true, true, true, false, false] rfl rfl (by kernel_rfl) (by decide) (fun K hK => ?_)
        refine goes_ Try.func17 (by kernel_rfl) rfl #[.agg #[.float .f64 b0, .float .f64 b1], .agg #[.float .f64 a0, .float .f64 a1]] (by rfl) rfl rfl (by simp only [List.map_toArray, List.map_cons, List.map_nil]; rfl) ?_
        with_reducible refine (c2.out _).mono ?_
        rintro e W5 ⟨rfl, hb⟩
        refine ⟨_, rfl, ?_⟩
        have T5 := below_step T2 hb
        have B7_5 := (hb.block _ (lt_of_blk B7_2)).trans B7_2
        have B6_5 := (hb.block _ (lt_of_blk B6_2)).trans B6_2
        clear hb
        refine hK.out _ _ ⟨(KRight.cell_below T5 lA x0), (KRight.cell_below T5 lA x1), (KRight.cell_below T5 lB y0), (KRight.cell_below T5 lB y1)⟩ (fun hHeld => ?_)
        clear hK K
        refine norm_ (a' := ?_) ?_ ?_
        rotate_left
        · show Act.put _ (some 12) _ = _
          simp only [Act.put, List.setIfInBounds_toArray, List.set_cons_zero, List.set_cons_succ, i64_w, i32_w]
          rfl
        exact norm_ (by simp only [putAll, Act.put, List.setIfInBounds_toArray, List.set_cons_zero, List.set_cons_succ]) (hCont (W7.heap.size, w2.heap.size) _ ⟨T5, B6_5, B7_5, Nat.ne_of_gt (lt_of_blk B7_7), (show w2.heap.size ≤ W7.heap.size from T7.size), (show w2.heap.size ≤ w2.heap.size from T0.size)⟩)
  rintro ⟨p5, p6⟩ W ⟨TW, d5, d6, ne, g5, g6⟩
  have hHeld : True := trivial
  refine norm_ (a' := ?_) ?_ ?_
  rotate_left
  · simp only [putAll, Act.put, List.setIfInBounds_toArray, List.set_cons_zero, List.set_cons_succ]
    rfl
  refine last_ (i := 8) (N := none) #[true, true, true, true, true, true, true, true, true, false] rfl rfl (by kernel_rfl) (by decide) (fun K hK => ?_)
  obtain ⟨z0, z1, z2, z3, z4⟩ := set_two d5 (.float .f64 l0) (.float .f64 l1)
  refine skip_ (w1 := ?_) (by rfl) rfl ?_ ?_
  rotate_left
  · go_simp
    rfl
  refine letter_ ?_
  intro W8 hW8
  have d7 : W8.heap[p6]? = some (.cells #[.float .f64 0, .float .f64 0] 24 (0, 0)) := by rw [hW8]; exact set_other (set_other d6 (Ne.symm ne)) (Ne.symm ne)
  have d8 : W8.heap[p5]? = some (.cells #[.float .f64 l0, .float .f64 l1] 24 (0, 0)) := by rw [hW8]; exact z4
  have T8 : Below w2.heap.size w2 W8 := by rw [hW8]; exact below_set (below_set TW g5 _) g5 _
  clear hW8 z0 z1 z2 z3 z4
  obtain ⟨z0, z1, z2, z3, z4⟩ := set_two d7 (.float .f64 k0) (.float .f64 k1)
  refine hK.out _ _ ?_
  clear hK K
  refine last_ (i := 9) (N := none) #[true, true, true, true, true, true, true, true, true, true] rfl rfl (by kernel_rfl) (by decide) (fun K hK => ?_)
  refine skip_ (w1 := ?_) (by rfl) rfl ?_ ?_
  rotate_left
  · go_simp
    rfl
  refine letter_ ?_
  intro W9 hW9
  have d9 : W9.heap[p5]? = some (.cells #[.float .f64 l0, .float .f64 l1] 24 (0, 0)) := by rw [hW9]; exact set_other (set_other d8 ne) ne
  have d10 : W9.heap[p6]? = some (.cells #[.float .f64 k0, .float .f64 k1] 24 (0, 0)) := by rw [hW9]; exact z4
  have T9 : Below w2.heap.size w2 W9 := by rw [hW9]; exact below_set (below_set T8 g6 _) g6 _
  clear hW9 z0 z1 z2 z3 z4
  refine hK.out _ _ ?_
  clear hK K
  refine done_ (by kernel_rfl) ?_
  have D5 := Lib.hid d9
  have D6 := Lib.hid d10
  have BA := Lib.hid ((T9.block _ lA).trans BA.out)
  have BB := Lib.hid ((T9.block _ lB).trans BB.out)
  have HB : Hid (Below w.heap.size w W9) := Lib.hid (by have h1 := HB.out; rw [← HQ.out] at h1; exact below_step h1 T9)
  clear d5 d6 d7 d8 d9 d10 T8 T9 TW ne g5 g6 lA lB x0 x1 y0 y1 T0 c1 c2
  have x0 := blk_cell BA.out 0 (.float .f64 a0) rfl
  have x1 := blk_cell BA.out 1 (.float .f64 a1) rfl
  have y0 := blk_cell BB.out 0 (.float .f64 b0) rfl
  have y1 := blk_cell BB.out 1 (.float .f64 b1) rfl
  go_wp2_with fail
  refine (right_is _ _ true ha0 ha1 hRa _).mono ?_
  rintro e w10 ⟨rfl, hb⟩
  have BA := Lib.hid ((hb.block _ (lt_of_blk BA.out)).trans BA.out)
  have BB := Lib.hid ((hb.block _ (lt_of_blk BB.out)).trans BB.out)
  have D5 := Lib.hid ((hb.block _ (lt_of_blk D5.out)).trans D5.out)
  have D6 := Lib.hid ((hb.block _ (lt_of_blk D6.out)).trans D6.out)
  have HB := Lib.hid (below_step HB.out hb)
  clear hb
  clear x0 x1 y0 y1
  have x0 := blk_cell BA.out 0 (.float .f64 a0) rfl
  have x1 := blk_cell BA.out 1 (.float .f64 a1) rfl
  have y0 := blk_cell BB.out 0 (.float .f64 b0) rfl
  have y1 := blk_cell BB.out 1 (.float .f64 b1) rfl
  go_wp2_with fail
  refine (right_is _ _ false hb0 hb1 hRb _).mono ?_
  rintro e w11 ⟨rfl, hb⟩
  have BA := Lib.hid ((hb.block _ (lt_of_blk BA.out)).trans BA.out)
  have BB := Lib.hid ((hb.block _ (lt_of_blk BB.out)).trans BB.out)
  have D5 := Lib.hid ((hb.block _ (lt_of_blk D5.out)).trans D5.out)
  have D6 := Lib.hid ((hb.block _ (lt_of_blk D6.out)).trans D6.out)
  have HB := Lib.hid (below_step HB.out hb)
  clear hb
  clear x0 x1 y0 y1
  have x0 := blk_cell BA.out 0 (.float .f64 a0) rfl
  have x1 := blk_cell BA.out 1 (.float .f64 a1) rfl
  have y0 := blk_cell BB.out 0 (.float .f64 b0) rfl
  have y1 := blk_cell BB.out 1 (.float .f64 b1) rfl
  go_wp2_with fail
  refine (right_is _ _ true ha0 ha1 hRa _).mono ?_
  rintro e w12 ⟨rfl, hb⟩
  have BA := Lib.hid ((hb.block _ (lt_of_blk BA.out)).trans BA.out)
  have BB := Lib.hid ((hb.block _ (lt_of_blk BB.out)).trans BB.out)
  have D5 := Lib.hid ((hb.block _ (lt_of_blk D5.out)).trans D5.out)
  have D6 := Lib.hid ((hb.block _ (lt_of_blk D6.out)).trans D6.out)
  have HB := Lib.hid (below_step HB.out hb)
  clear hb
  clear x0 x1 y0 y1
  go_wp2_with (go_at_call 19; (with_reducible refine (fixed_calls _).mono ?_); rintro e w13 ⟨rfl, hB7⟩)
  go_ret
  exact ⟨rfl, below_step HB.out hB7⟩
set_option maxRecDepth 100000 in
set_option maxHeartbeats 6400000 in
theorem w01 (a0 a1 b0 b1 : Nat) (w : World) (ha0 : a0 < 18446744073709551616) (ha1 : a1 < 18446744073709551616) (hb0 : b0 < 18446744073709551616) (hb1 : b1 < 18446744073709551616) (hRa : rightB a0 a1 = false) (hRb : rightB b0 b1 = true) :
    Calls Try.prog 7 #[.agg #[.float .f64 a0, .float .f64 a1], .agg #[.float .f64 b0, .float .f64 b1]] w fun e w' => e = .returned (.bool true) ∧ Below w.heap.size w w' := by
  have BA := Lib.hid (blk_alloc (heap_alloc_new w (.cells #[.float .f64 a0, .float .f64 a1] 24)) (.cells #[.float .f64 b0, .float .f64 b1] 24))
  have BB := Lib.hid (blk2 w (.cells #[.float .f64 a0, .float .f64 a1] 24) #[.float .f64 b0, .float .f64 b1] 24)
  have HB := Lib.hid (below2 w (.cells #[.float .f64 a0, .float .f64 a1] 24) (.cells #[.float .f64 b0, .float .f64 b1] 24))
  have c1 := Lib.hid (least_calls a0 a1 b0 b1)
  have c2 := Lib.hid (least_calls b0 b1 a0 a1)
  have hk : kd a0 < 3 ∨ kd a1 < 3 := by
    unfold rightB at hRa
    simp at hRa
    omega
  have HK := Lib.hid hk
  clear hk
  generalize lessF a0 b0 = l0 at *
  generalize lessF a1 b1 = l1 at *
  generalize lessF b0 a0 = k0 at *
  generalize lessF b1 a1 = k1 at *
  go_enter Try.func7, Try.ntmps7
  go_wp2
  generalize ((w.alloc (.cells #[.float .f64 a0, .float .f64 a1] 24)).alloc (.cells #[.float .f64 b0, .float .f64 b1] 24)) = w2 at *
  obtain ⟨qa, hqa⟩ : ∃ qa, w.heap.size = qa := ⟨_, rfl⟩
  rw [hqa] at BA BB HB ⊢
  have HQ := Lib.hid hqa
  clear hqa
  generalize qa + 1 = qb at *
  have x0 := blk_cell BA.out 0 (.float .f64 a0) rfl
  have x1 := blk_cell BA.out 1 (.float .f64 a1) rfl
  have y0 := blk_cell BB.out 0 (.float .f64 b0) rfl
  have y1 := blk_cell BB.out 1 (.float .f64 b1) rfl
  have lA := lt_of_blk BA.out
  have lB := lt_of_blk BB.out
  have T0 := (Below.refl w2.heap.size w2).drew
  refine start_ (n := 10) (S := fun w' => w'.cell? ⟨qa, 0, none⟩ = some (.float .f64 a0) ∧ w'.cell? ⟨qa, 1, none⟩ = some (.float .f64 a1) ∧ w'.cell? ⟨qb, 0, none⟩ = some (.float .f64 b0) ∧ w'.cell? ⟨qb, 1, none⟩ = some (.float .f64 b1)) (ds := [8, 9]) #[false, false, false, false, false, false, false, false, false, false] (by kernel_rfl) rfl rfl ⟨x0, x1, y0, y1⟩ (fun hHeld => ?_)
  refine take_ (i := 0) (N := some 7) (v := ?_) (a' := ?_) #[true, false, false, false, false, false, false, false, false, false] rfl rfl (by kernel_rfl) (fun _ _ _ h => h) (Or.inl ⟨by rfl, ?_⟩) hHeld ?_ ?_
  rotate_left
  · rintro w' ⟨s0, s1, s2, s3⟩
    go_simp
    with_reducible rfl
  rotate_left
  · simp only [Act.put, List.setIfInBounds_toArray, List.set_cons_zero, List.set_cons_succ, i64_w, i32_w]
    rfl
  refine take_ (i := 1) (N := some 8) (v := ?_) (a' := ?_) #[true, true, false, false, false, false, false, false, false, false] rfl rfl (by kernel_rfl) (fun _ _ _ h => h) (Or.inl ⟨by rfl, ?_⟩) hHeld ?_ ?_
  rotate_left
  · rintro w' ⟨s0, s1, s2, s3⟩
    go_simp
    with_reducible rfl
  rotate_left
  · simp only [Act.put, List.setIfInBounds_toArray, List.set_cons_zero, List.set_cons_succ, i64_w, i32_w]
    rfl
  refine take_ (i := 3) (N := some 10) (v := ?_) (a' := ?_) #[true, true, false, true, false, false, false, false, false, false] rfl rfl (by kernel_rfl) (fun _ _ _ h => h) (Or.inl ⟨by rfl, ?_⟩) hHeld ?_ ?_
  rotate_left
  · rintro w' ⟨s0, s1, s2, s3⟩
    go_simp
    with_reducible rfl
  rotate_left
  · simp only [Act.put, List.setIfInBounds_toArray, List.set_cons_zero, List.set_cons_succ, i64_w, i32_w]
    rfl
  refine take_ (i := 4) (N := some 11) (v := ?_) (a' := ?_) #[true, true, false, true, true, false, false, false, false, false] rfl rfl (by kernel_rfl) (fun _ _ _ h => h) (Or.inl ⟨by rfl, ?_⟩) hHeld ?_ ?_
  rotate_left
  · rintro w' ⟨s0, s1, s2, s3⟩
    go_simp
    with_reducible rfl
  rotate_left
  · simp only [Act.put, List.setIfInBounds_toArray, List.set_cons_zero, List.set_cons_succ, i64_w, i32_w]
    rfl
  refine join_ (σ := Nat × Nat) 2 #[true, true, true, true, true, true, true, true, false, false] (fun s => [(9, .agg #[.float .f64 l0, .float .f64 l1]), (12, .agg #[.float .f64 k0, .float .f64 k1]), (5, .pointer (some ⟨s.1, 0, none⟩)), (6, .pointer (some ⟨s.2, 0, none⟩))]) (fun s w' => Below w2.heap.size w2 w' ∧ w'.heap[s.1]? = some (.cells #[.float .f64 0, .float .f64 0] 24 (0, 0)) ∧ w'.heap[s.2]? = some (.cells #[.float .f64 0, .float .f64 0] 24 (0, 0)) ∧ s.1 ≠ s.2 ∧ w2.heap.size ≤ s.1 ∧ w2.heap.size ≤ s.2) ?_ ?_
  rotate_left
  · intro hCont
    refine three_ (i := 2) (j := 6) (k := 7) (Ni := some 9) (Nj := some 5) (Nk := some 6) #[true, true, true, true, true, false, false, false, false, false] #[true, true, false, true, true, false, true, false, false, false] #[true, true, false, true, true, false, false, true, false, false] rfl rfl rfl rfl rfl rfl (by kernel_rfl) (by decide) (by decide) (by decide) (fun K hK => ?_) (fun K hK => ?_) (fun K hK => ?_)
    · skip
      refine goes_ Try.func17 (by kernel_rfl) rfl #[.agg #[.float .f64 a0, .float .f64 a1], .agg #[.float .f64 b0, .float .f64 b1]] (by rfl) rfl rfl (by simp only [List.map_toArray, List.map_cons, List.map_nil]; rfl) ?_
      with_reducible refine (c1.out _).mono ?_
      rintro e W2 ⟨rfl, hb⟩
      refine ⟨_, rfl, ?_⟩
      have T2 := below_step T0 hb
      clear hb
      refine hK.out _ _ ⟨(KRight.cell_below T2 lA x0), (KRight.cell_below T2 lA x1), (KRight.cell_below T2 lB y0), (KRight.cell_below T2 lB y1)⟩ (fun hHeld => ?_)
      clear hK K
      refine norm_ (a' := ?_) ?_ ?_
      rotate_left
      · show Act.put _ (some 9) _ = _
        simp only [Act.put, List.setIfInBounds_toArray, List.set_cons_zero, List.set_cons_succ, i64_w, i32_w]
        rfl
      refine three_ (i := 5) (j := 6) (k := 7) (Ni := some 12) (Nj := some 5) (Nk := some 6) #[true, true, true, true, true, true, false, false, false, false] #[true, true, true, true, true, false, true, false, false, false] #[true, true, true, true, true, false, false, true, false, false] rfl rfl rfl rfl rfl rfl (by kernel_rfl) (by decide) (by decide) (by decide) (fun K hK => ?_) (fun K hK => ?_) (fun K hK => ?_)
      · skip
        refine goes_ Try.func17 (by kernel_rfl) rfl #[.agg #[.float .f64 b0, .float .f64 b1], .agg #[.float .f64 a0, .float .f64 a1]] (by rfl) rfl rfl (by simp only [List.map_toArray, List.map_cons, List.map_nil]; rfl) ?_
        with_reducible refine (c2.out _).mono ?_
        rintro e W5 ⟨rfl, hb⟩
        refine ⟨_, rfl, ?_⟩
        have T5 := below_step T2 hb
        clear hb
        refine hK.out _ _ ⟨(KRight.cell_below T5 lA x0), (KRight.cell_below T5 lA x1), (KRight.cell_below T5 lB y0), (KRight.cell_below T5 lB y1)⟩ (fun hHeld => ?_)
        clear hK K
        refine norm_ (a' := ?_) ?_ ?_
        rotate_left
        · show Act.put _ (some 12) _ = _
          simp only [Act.put, List.setIfInBounds_toArray, List.set_cons_zero, List.set_cons_succ, i64_w, i32_w]
          rfl
        refine two_ (i := 6) (j := 7) (Ni := some 5) (Nj := some 6) #[true, true, true, true, true, true, true, false, false, false] #[true, true, true, true, true, true, false, true, false, false] rfl rfl rfl rfl (by kernel_rfl) (by decide) (by decide) (fun K hK => ?_) (fun K hK => ?_)
        · skip
          refine value_ (w1 := ?_) (v := ?_) (by rfl) rfl ?_ ?_
          rotate_left 2
          · go_simp
            constructor
            · rfl
            · rfl
          refine letter_ ?_
          intro W6 hW
          have T6 : Below w2.heap.size w2 W6 := by rw [hW]; exact T5.alloc T5.size _
          have B6_6 : W6.heap[W5.heap.size]? = some (.cells #[.float .f64 0, .float .f64 0] 24 (0, 0)) := by rw [hW]; exact heap_alloc_new _ _
          clear hW
          refine hK.out _ _ ⟨(KRight.cell_below T6 lA x0), (KRight.cell_below T6 lA x1), (KRight.cell_below T6 lB y0), (KRight.cell_below T6 lB y1)⟩ (fun hHeld => ?_)
          clear hK K
          refine norm_ (a' := ?_) ?_ ?_
          rotate_left
          · show Act.put _ (some 5) _ = _
            simp only [Act.put, List.setIfInBounds_toArray, List.set_cons_zero, List.set_cons_succ, i64_w, i32_w]
            rfl
          refine one_ (i := 7) (N := some 6) #[true, true, true, true, true, true, true, true, false, false] rfl rfl (by kernel_rfl) (by decide) (fun K hK => ?_)
          refine value_ (w1 := ?_) (v := ?_) (by rfl) rfl ?_ ?_
          rotate_left 2
          · go_simp
            constructor
            · rfl
            · rfl
          refine letter_ ?_
          intro W7 hW
          have T7 : Below w2.heap.size w2 W7 := by rw [hW]; exact T6.alloc T6.size _
          have B7_7 : W7.heap[W6.heap.size]? = some (.cells #[.float .f64 0, .float .f64 0] 24 (0, 0)) := by rw [hW]; exact heap_alloc_new _ _
          have B6_7 : W7.heap[W5.heap.size]? = some (.cells #[.float .f64 0, .float .f64 0] 24 (0, 0)) := by rw [hW]; exact blk_alloc B6_6 _
          clear hW
          refine hK.out _ _ ⟨(KRight.cell_below T7 lA x0), (KRight.cell_below T7 lA x1), (KRight.cell_below T7 lB y0), (KRight.cell_below T7 lB y1)⟩ (fun hHeld => ?_)
          clear hK K
          refine norm_ (a' := ?_) ?_ ?_
          rotate_left
          · show Act.put _ (some 6) _ = _
            simp only [Act.put, List.setIfInBounds_toArray, List.set_cons_zero, List.set_cons_succ, i64_w, i32_w]
            rfl
          exact norm_ (by simp only [putAll, Act.put, List.setIfInBounds_toArray, List.set_cons_zero, List.set_cons_succ]) (hCont (W5.heap.size, W6.heap.size) _ ⟨T7, B6_7, B7_7, Nat.ne_of_lt (lt_of_blk B6_6), (show w2.heap.size ≤ W5.heap.size from T5.size), (show w2.heap.size ≤ W6.heap.size from T6.size)⟩)
        · skip
          refine value_ (w1 := ?_) (v := ?_) (by rfl) rfl ?_ ?_
          rotate_left 2
          · go_simp
            constructor
            · rfl
            · rfl
          refine letter_ ?_
          intro W7 hW
          have T7 : Below w2.heap.size w2 W7 := by rw [hW]; exact T5.alloc T5.size _
          have B7_7 : W7.heap[W5.heap.size]? = some (.cells #[.float .f64 0, .float .f64 0] 24 (0, 0)) := by rw [hW]; exact heap_alloc_new _ _
          clear hW
          refine hK.out _ _ ⟨(KRight.cell_below T7 lA x0), (KRight.cell_below T7 lA x1), (KRight.cell_below T7 lB y0), (KRight.cell_below T7 lB y1)⟩ (fun hHeld => ?_)
          clear hK K
          refine norm_ (a' := ?_) ?_ ?_
          rotate_left
          · show Act.put _ (some 6) _ = _
            simp only [Act.put, List.setIfInBounds_toArray, List.set_cons_zero, List.set_cons_succ, i64_w, i32_w]
            rfl
          refine one_ (i := 6) (N := some 5) #[true, true, true, true, true, true, true, true, false, false] rfl rfl (by kernel_rfl) (by decide) (fun K hK => ?_)
          refine value_ (w1 := ?_) (v := ?_) (by rfl) rfl ?_ ?_
          rotate_left 2
          · go_simp
            constructor
            · rfl
            · rfl
          refine letter_ ?_
          intro W6 hW
          have T6 : Below w2.heap.size w2 W6 := by rw [hW]; exact T7.alloc T7.size _
          have B6_6 : W6.heap[W7.heap.size]? = some (.cells #[.float .f64 0, .float .f64 0] 24 (0, 0)) := by rw [hW]; exact heap_alloc_new _ _
          have B7_6 : W6.heap[W5.heap.size]? = some (.cells #[.float .f64 0, .float .f64 0] 24 (0, 0)) := by rw [hW]; exact blk_alloc B7_7 _
          clear hW
          refine hK.out _ _ ⟨(KRight.cell_below T6 lA x0), (KRight.cell_below T6 lA x1), (KRight.cell_below T6 lB y0), (KRight.cell_below T6 lB y1)⟩ (fun hHeld => ?_)
          clear hK K
          refine norm_ (a' := ?_) ?_ ?_
          rotate_left
          · show Act.put _ (some 5) _ = _
            simp only [Act.put, List.setIfInBounds_toArray, List.set_cons_zero, List.set_cons_succ, i64_w, i32_w]
            rfl
          exact norm_ (by simp only [putAll, Act.put, List.setIfInBounds_toArray, List.set_cons_zero, List.set_cons_succ]) (hCont (W7.heap.size, W5.heap.size) _ ⟨T6, B6_6, B7_6, Nat.ne_of_gt (lt_of_blk B7_7), (show w2.heap.size ≤ W7.heap.size from T7.size), (show w2.heap.size ≤ W5.heap.size from T5.size)⟩)
      · skip
        refine value_ (w1 := ?_) (v := ?_) (by rfl) rfl ?_ ?_
        rotate_left 2
        · go_simp
          constructor
          · rfl
          · rfl
        refine letter_ ?_
        intro W6 hW
        have T6 : Below w2.heap.size w2 W6 := by rw [hW]; exact T2.alloc T2.size _
        have B6_6 : W6.heap[W2.heap.size]? = some (.cells #[.float .f64 0, .float .f64 0] 24 (0, 0)) := by rw [hW]; exact heap_alloc_new _ _
        clear hW
        refine hK.out _ _ ⟨(KRight.cell_below T6 lA x0), (KRight.cell_below T6 lA x1), (KRight.cell_below T6 lB y0), (KRight.cell_below T6 lB y1)⟩ (fun hHeld => ?_)
        clear hK K
        refine norm_ (a' := ?_) ?_ ?_
        rotate_left
        · show Act.put _ (some 5) _ = _
          simp only [Act.put, List.setIfInBounds_toArray, List.set_cons_zero, List.set_cons_succ, i64_w, i32_w]
          rfl
        refine two_ (i := 5) (j := 7) (Ni := some 12) (Nj := some 6) #[true, true, true, true, true, true, true, false, false, false] #[true, true, true, true, true, false, true, true, false, false] rfl rfl rfl rfl (by kernel_rfl) (by decide) (by decide) (fun K hK => ?_) (fun K hK => ?_)
        · skip
          refine goes_ Try.func17 (by kernel_rfl) rfl #[.agg #[.float .f64 b0, .float .f64 b1], .agg #[.float .f64 a0, .float .f64 a1]] (by rfl) rfl rfl (by simp only [List.map_toArray, List.map_cons, List.map_nil]; rfl) ?_
          with_reducible refine (c2.out _).mono ?_
          rintro e W5 ⟨rfl, hb⟩
          refine ⟨_, rfl, ?_⟩
          have T5 := below_step T6 hb
          have B6_5 := (hb.block _ (lt_of_blk B6_6)).trans B6_6
          clear hb
          refine hK.out _ _ ⟨(KRight.cell_below T5 lA x0), (KRight.cell_below T5 lA x1), (KRight.cell_below T5 lB y0), (KRight.cell_below T5 lB y1)⟩ (fun hHeld => ?_)
          clear hK K
          refine norm_ (a' := ?_) ?_ ?_
          rotate_left
          · show Act.put _ (some 12) _ = _
            simp only [Act.put, List.setIfInBounds_toArray, List.set_cons_zero, List.set_cons_succ, i64_w, i32_w]
            rfl
          refine one_ (i := 7) (N := some 6) #[true, true, true, true, true, true, true, true, false, false] rfl rfl (by kernel_rfl) (by decide) (fun K hK => ?_)
          refine value_ (w1 := ?_) (v := ?_) (by rfl) rfl ?_ ?_
          rotate_left 2
          · go_simp
            constructor
            · rfl
            · rfl
          refine letter_ ?_
          intro W7 hW
          have T7 : Below w2.heap.size w2 W7 := by rw [hW]; exact T5.alloc T5.size _
          have B7_7 : W7.heap[W5.heap.size]? = some (.cells #[.float .f64 0, .float .f64 0] 24 (0, 0)) := by rw [hW]; exact heap_alloc_new _ _
          have B6_7 : W7.heap[W2.heap.size]? = some (.cells #[.float .f64 0, .float .f64 0] 24 (0, 0)) := by rw [hW]; exact blk_alloc B6_5 _
          clear hW
          refine hK.out _ _ ⟨(KRight.cell_below T7 lA x0), (KRight.cell_below T7 lA x1), (KRight.cell_below T7 lB y0), (KRight.cell_below T7 lB y1)⟩ (fun hHeld => ?_)
          clear hK K
          refine norm_ (a' := ?_) ?_ ?_
          rotate_left
          · show Act.put _ (some 6) _ = _
            simp only [Act.put, List.setIfInBounds_toArray, List.set_cons_zero, List.set_cons_succ, i64_w, i32_w]
            rfl
          exact norm_ (by simp only [putAll, Act.put, List.setIfInBounds_toArray, List.set_cons_zero, List.set_cons_succ]) (hCont (W2.heap.size, W5.heap.size) _ ⟨T7, B6_7, B7_7, Nat.ne_of_lt (lt_of_blk B6_5), (show w2.heap.size ≤ W2.heap.size from T2.size), (show w2.heap.size ≤ W5.heap.size from T5.size)⟩)
        · skip
          refine value_ (w1 := ?_) (v := ?_) (by rfl) rfl ?_ ?_
          rotate_left 2
          · go_simp
            constructor
            · rfl
            · rfl
          refine letter_ ?_
          intro W7 hW
          have T7 : Below w2.heap.size w2 W7 := by rw [hW]; exact T6.alloc T6.size _
          have B7_7 : W7.heap[W6.heap.size]? = some (.cells #[.float .f64 0, .float .f64 0] 24 (0, 0)) := by rw [hW]; exact heap_alloc_new _ _
          have B6_7 : W7.heap[W2.heap.size]? = some (.cells #[.float .f64 0, .float .f64 0] 24 (0, 0)) := by rw [hW]; exact blk_alloc B6_6 _
          clear hW
          refine hK.out _ _ ⟨(KRight.cell_below T7 lA x0), (KRight.cell_below T7 lA x1), (KRight.cell_below T7 lB y0), (KRight.cell_below T7 lB y1)⟩ (fun hHeld => ?_)
          clear hK K
          refine norm_ (a' := ?_) ?_ ?_
          rotate_left
          · show Act.put _ (some 6) _ = _
            simp only [Act.put, List.setIfInBounds_toArray, List.set_cons_zero, List.set_cons_succ, i64_w, i32_w]
            rfl
          refine one_ (i := 5) (N := some 12) #[true, true, true, true, true, true, true, true, false, false] rfl rfl (by kernel_rfl) (by decide) (fun K hK => ?_)
          refine goes_ Try.func17 (by kernel_rfl) rfl #[.agg #[.float .f64 b0, .float .f64 b1], .agg #[.float .f64 a0, .float .f64 a1]] (by rfl) rfl rfl (by simp only [List.map_toArray, List.map_cons, List.map_nil]; rfl) ?_
          with_reducible refine (c2.out _).mono ?_
          rintro e W5 ⟨rfl, hb⟩
          refine ⟨_, rfl, ?_⟩
          have T5 := below_step T7 hb
          have B6_5 := (hb.block _ (lt_of_blk B6_7)).trans B6_7
          have B7_5 := (hb.block _ (lt_of_blk B7_7)).trans B7_7
          clear hb
          refine hK.out _ _ ⟨(KRight.cell_below T5 lA x0), (KRight.cell_below T5 lA x1), (KRight.cell_below T5 lB y0), (KRight.cell_below T5 lB y1)⟩ (fun hHeld => ?_)
          clear hK K
          refine norm_ (a' := ?_) ?_ ?_
          rotate_left
          · show Act.put _ (some 12) _ = _
            simp only [Act.put, List.setIfInBounds_toArray, List.set_cons_zero, List.set_cons_succ, i64_w, i32_w]
            rfl
          exact norm_ (by simp only [putAll, Act.put, List.setIfInBounds_toArray, List.set_cons_zero, List.set_cons_succ]) (hCont (W2.heap.size, W6.heap.size) _ ⟨T5, B6_5, B7_5, Nat.ne_of_lt (lt_of_blk B6_6), (show w2.heap.size ≤ W2.heap.size from T2.size), (show w2.heap.size ≤ W6.heap.size from T6.size)⟩)
      · skip
        refine value_ (w1 := ?_) (v := ?_) (by rfl) rfl ?_ ?_
        rotate_left 2
        · go_simp
          constructor
          · rfl
          · rfl
        refine letter_ ?_
        intro W7 hW
        have T7 : Below w2.heap.size w2 W7 := by rw [hW]; exact T2.alloc T2.size _
        have B7_7 : W7.heap[W2.heap.size]? = some (.cells #[.float .f64 0, .float .f64 0] 24 (0, 0)) := by rw [hW]; exact heap_alloc_new _ _
        clear hW
        refine hK.out _ _ ⟨(KRight.cell_below T7 lA x0), (KRight.cell_below T7 lA x1), (KRight.cell_below T7 lB y0), (KRight.cell_below T7 lB y1)⟩ (fun hHeld => ?_)
        clear hK K
        refine norm_ (a' := ?_) ?_ ?_
        rotate_left
        · show Act.put _ (some 6) _ = _
          simp only [Act.put, List.setIfInBounds_toArray, List.set_cons_zero, List.set_cons_succ, i64_w, i32_w]
          rfl
        refine two_ (i := 5) (j := 6) (Ni := some 12) (Nj := some 5) #[true, true, true, true, true, true, false, true, false, false] #[true, true, true, true, true, false, true, true, false, false] rfl rfl rfl rfl (by kernel_rfl) (by decide) (by decide) (fun K hK => ?_) (fun K hK => ?_)
        · skip
          refine goes_ Try.func17 (by kernel_rfl) rfl #[.agg #[.float .f64 b0, .float .f64 b1], .agg #[.float .f64 a0, .float .f64 a1]] (by rfl) rfl rfl (by simp only [List.map_toArray, List.map_cons, List.map_nil]; rfl) ?_
          with_reducible refine (c2.out _).mono ?_
          rintro e W5 ⟨rfl, hb⟩
          refine ⟨_, rfl, ?_⟩
          have T5 := below_step T7 hb
          have B7_5 := (hb.block _ (lt_of_blk B7_7)).trans B7_7
          clear hb
          refine hK.out _ _ ⟨(KRight.cell_below T5 lA x0), (KRight.cell_below T5 lA x1), (KRight.cell_below T5 lB y0), (KRight.cell_below T5 lB y1)⟩ (fun hHeld => ?_)
          clear hK K
          refine norm_ (a' := ?_) ?_ ?_
          rotate_left
          · show Act.put _ (some 12) _ = _
            simp only [Act.put, List.setIfInBounds_toArray, List.set_cons_zero, List.set_cons_succ, i64_w, i32_w]
            rfl
          refine one_ (i := 6) (N := some 5) #[true, true, true, true, true, true, true, true, false, false] rfl rfl (by kernel_rfl) (by decide) (fun K hK => ?_)
          refine value_ (w1 := ?_) (v := ?_) (by rfl) rfl ?_ ?_
          rotate_left 2
          · go_simp
            constructor
            · rfl
            · rfl
          refine letter_ ?_
          intro W6 hW
          have T6 : Below w2.heap.size w2 W6 := by rw [hW]; exact T5.alloc T5.size _
          have B6_6 : W6.heap[W5.heap.size]? = some (.cells #[.float .f64 0, .float .f64 0] 24 (0, 0)) := by rw [hW]; exact heap_alloc_new _ _
          have B7_6 : W6.heap[W2.heap.size]? = some (.cells #[.float .f64 0, .float .f64 0] 24 (0, 0)) := by rw [hW]; exact blk_alloc B7_5 _
          clear hW
          refine hK.out _ _ ⟨(KRight.cell_below T6 lA x0), (KRight.cell_below T6 lA x1), (KRight.cell_below T6 lB y0), (KRight.cell_below T6 lB y1)⟩ (fun hHeld => ?_)
          clear hK K
          refine norm_ (a' := ?_) ?_ ?_
          rotate_left
          · show Act.put _ (some 5) _ = _
            simp only [Act.put, List.setIfInBounds_toArray, List.set_cons_zero, List.set_cons_succ, i64_w, i32_w]
            rfl
          exact norm_ (by simp only [putAll, Act.put, List.setIfInBounds_toArray, List.set_cons_zero, List.set_cons_succ]) (hCont (W5.heap.size, W2.heap.size) _ ⟨T6, B6_6, B7_6, Nat.ne_of_gt (lt_of_blk B7_5), (show w2.heap.size ≤ W5.heap.size from T5.size), (show w2.heap.size ≤ W2.heap.size from T2.size)⟩)
        · skip
          refine value_ (w1 := ?_) (v := ?_) (by rfl) rfl ?_ ?_
          rotate_left 2
          · go_simp
            constructor
            · rfl
            · rfl
          refine letter_ ?_
          intro W6 hW
          have T6 : Below w2.heap.size w2 W6 := by rw [hW]; exact T7.alloc T7.size _
          have B6_6 : W6.heap[W7.heap.size]? = some (.cells #[.float .f64 0, .float .f64 0] 24 (0, 0)) := by rw [hW]; exact heap_alloc_new _ _
          have B7_6 : W6.heap[W2.heap.size]? = some (.cells #[.float .f64 0, .float .f64 0] 24 (0, 0)) := by rw [hW]; exact blk_alloc B7_7 _
          clear hW
          refine hK.out _ _ ⟨(KRight.cell_below T6 lA x0), (KRight.cell_below T6 lA x1), (KRight.cell_below T6 lB y0), (KRight.cell_below T6 lB y1)⟩ (fun hHeld => ?_)
          clear hK K
          refine norm_ (a' := ?_) ?_ ?_
          rotate_left
          · show Act.put _ (some 5) _ = _
            simp only [Act.put, List.setIfInBounds_toArray, List.set_cons_zero, List.set_cons_succ, i64_w, i32_w]
            rfl
          refine one_ (i := 5) (N := some 12) #[true, true, true, true, true, true, true, true, false, false] rfl rfl (by kernel_rfl) (by decide) (fun K hK => ?_)
          refine goes_ Try.func17 (by kernel_rfl) rfl #[.agg #[.float .f64 b0, .float .f64 b1], .agg #[.float .f64 a0, .float .f64 a1]] (by rfl) rfl rfl (by simp only [List.map_toArray, List.map_cons, List.map_nil]; rfl) ?_
          with_reducible refine (c2.out _).mono ?_
          rintro e W5 ⟨rfl, hb⟩
          refine ⟨_, rfl, ?_⟩
          have T5 := below_step T6 hb
          have B7_5 := (hb.block _ (lt_of_blk B7_6)).trans B7_6
          have B6_5 := (hb.block _ (lt_of_blk B6_6)).trans B6_6
          clear hb
          refine hK.out _ _ ⟨(KRight.cell_below T5 lA x0), (KRight.cell_below T5 lA x1), (KRight.cell_below T5 lB y0), (KRight.cell_below T5 lB y1)⟩ (fun hHeld => ?_)
          clear hK K
          refine norm_ (a' := ?_) ?_ ?_
          rotate_left
          · show Act.put _ (some 12) _ = _
            simp only [Act.put, List.setIfInBounds_toArray, List.set_cons_zero, List.set_cons_succ, i64_w, i32_w]
            rfl
          exact norm_ (by simp only [putAll, Act.put, List.setIfInBounds_toArray, List.set_cons_zero, List.set_cons_succ]) (hCont (W7.heap.size, W2.heap.size) _ ⟨T5, B6_5, B7_5, Nat.ne_of_gt (lt_of_blk B7_7), (show w2.heap.size ≤ W7.heap.size from T7.size), (show w2.heap.size ≤ W2.heap.size from T2.size)⟩)
    · skip
      refine value_ (w1 := ?_) (v := ?_) (by rfl) rfl ?_ ?_
      rotate_left 2
      · go_simp
        constructor
        · rfl
        · rfl
      refine letter_ ?_
      intro W6 hW
      have T6 : Below w2.heap.size w2 W6 := by rw [hW]; exact T0.alloc T0.size _
      have B6_6 : W6.heap[w2.drew.heap.size]? = some (.cells #[.float .f64 0, .float .f64 0] 24 (0, 0)) := by rw [hW]; exact heap_alloc_new _ _
      clear hW
      refine hK.out _ _ ⟨(KRight.cell_below T6 lA x0), (KRight.cell_below T6 lA x1), (KRight.cell_below T6 lB y0), (KRight.cell_below T6 lB y1)⟩ (fun hHeld => ?_)
      clear hK K
      refine norm_ (a' := ?_) ?_ ?_
      rotate_left
      · show Act.put _ (some 5) _ = _
        simp only [Act.put, List.setIfInBounds_toArray, List.set_cons_zero, List.set_cons_succ, i64_w, i32_w]
        rfl
      refine two_ (i := 2) (j := 7) (Ni := some 9) (Nj := some 6) #[true, true, true, true, true, false, true, false, false, false] #[true, true, false, true, true, false, true, true, false, false] rfl rfl rfl rfl (by kernel_rfl) (by decide) (by decide) (fun K hK => ?_) (fun K hK => ?_)
      · skip
        refine goes_ Try.func17 (by kernel_rfl) rfl #[.agg #[.float .f64 a0, .float .f64 a1], .agg #[.float .f64 b0, .float .f64 b1]] (by rfl) rfl rfl (by simp only [List.map_toArray, List.map_cons, List.map_nil]; rfl) ?_
        with_reducible refine (c1.out _).mono ?_
        rintro e W2 ⟨rfl, hb⟩
        refine ⟨_, rfl, ?_⟩
        have T2 := below_step T6 hb
        have B6_2 := (hb.block _ (lt_of_blk B6_6)).trans B6_6
        clear hb
        refine hK.out _ _ ⟨(KRight.cell_below T2 lA x0), (KRight.cell_below T2 lA x1), (KRight.cell_below T2 lB y0), (KRight.cell_below T2 lB y1)⟩ (fun hHeld => ?_)
        clear hK K
        refine norm_ (a' := ?_) ?_ ?_
        rotate_left
        · show Act.put _ (some 9) _ = _
          simp only [Act.put, List.setIfInBounds_toArray, List.set_cons_zero, List.set_cons_succ, i64_w, i32_w]
          rfl
        refine two_ (i := 5) (j := 7) (Ni := some 12) (Nj := some 6) #[true, true, true, true, true, true, true, false, false, false] #[true, true, true, true, true, false, true, true, false, false] rfl rfl rfl rfl (by kernel_rfl) (by decide) (by decide) (fun K hK => ?_) (fun K hK => ?_)
        · skip
          refine goes_ Try.func17 (by kernel_rfl) rfl #[.agg #[.float .f64 b0, .float .f64 b1], .agg #[.float .f64 a0, .float .f64 a1]] (by rfl) rfl rfl (by simp only [List.map_toArray, List.map_cons, List.map_nil]; rfl) ?_
          with_reducible refine (c2.out _).mono ?_
          rintro e W5 ⟨rfl, hb⟩
          refine ⟨_, rfl, ?_⟩
          have T5 := below_step T2 hb
          have B6_5 := (hb.block _ (lt_of_blk B6_2)).trans B6_2
          clear hb
          refine hK.out _ _ ⟨(KRight.cell_below T5 lA x0), (KRight.cell_below T5 lA x1), (KRight.cell_below T5 lB y0), (KRight.cell_below T5 lB y1)⟩ (fun hHeld => ?_)
          clear hK K
          refine norm_ (a' := ?_) ?_ ?_
          rotate_left
          · show Act.put _ (some 12) _ = _
            simp only [Act.put, List.setIfInBounds_toArray, List.set_cons_zero, List.set_cons_succ, i64_w, i32_w]
            rfl
          refine one_ (i := 7) (N := some 6) #[true, true, true, true, true, true, true, true, false, false] rfl rfl (by kernel_rfl) (by decide) (fun K hK => ?_)
          refine value_ (w1 := ?_) (v := ?_) (by rfl) rfl ?_ ?_
          rotate_left 2
          · go_simp
            constructor
            · rfl
            · rfl
          refine letter_ ?_
          intro W7 hW
          have T7 : Below w2.heap.size w2 W7 := by rw [hW]; exact T5.alloc T5.size _
          have B7_7 : W7.heap[W5.heap.size]? = some (.cells #[.float .f64 0, .float .f64 0] 24 (0, 0)) := by rw [hW]; exact heap_alloc_new _ _
          have B6_7 : W7.heap[w2.heap.size]? = some (.cells #[.float .f64 0, .float .f64 0] 24 (0, 0)) := by rw [hW]; exact blk_alloc B6_5 _
          clear hW
          refine hK.out _ _ ⟨(KRight.cell_below T7 lA x0), (KRight.cell_below T7 lA x1), (KRight.cell_below T7 lB y0), (KRight.cell_below T7 lB y1)⟩ (fun hHeld => ?_)
          clear hK K
          refine norm_ (a' := ?_) ?_ ?_
          rotate_left
          · show Act.put _ (some 6) _ = _
            simp only [Act.put, List.setIfInBounds_toArray, List.set_cons_zero, List.set_cons_succ, i64_w, i32_w]
            rfl
          exact norm_ (by simp only [putAll, Act.put, List.setIfInBounds_toArray, List.set_cons_zero, List.set_cons_succ]) (hCont (w2.heap.size, W5.heap.size) _ ⟨T7, B6_7, B7_7, Nat.ne_of_lt (lt_of_blk B6_5), (show w2.heap.size ≤ w2.heap.size from T0.size), (show w2.heap.size ≤ W5.heap.size from T5.size)⟩)
        · skip
          refine value_ (w1 := ?_) (v := ?_) (by rfl) rfl ?_ ?_
          rotate_left 2
          · go_simp
            constructor
            · rfl
            · rfl
          refine letter_ ?_
          intro W7 hW
          have T7 : Below w2.heap.size w2 W7 := by rw [hW]; exact T2.alloc T2.size _
          have B7_7 : W7.heap[W2.heap.size]? = some (.cells #[.float .f64 0, .float .f64 0] 24 (0, 0)) := by rw [hW]; exact heap_alloc_new _ _
          have B6_7 : W7.heap[w2.heap.size]? = some (.cells #[.float .f64 0, .float .f64 0] 24 (0, 0)) := by rw [hW]; exact blk_alloc B6_2 _
          clear hW
          refine hK.out _ _ ⟨(KRight.cell_below T7 lA x0), (KRight.cell_below T7 lA x1), (KRight.cell_below T7 lB y0), (KRight.cell_below T7 lB y1)⟩ (fun hHeld => ?_)
          clear hK K
          refine norm_ (a' := ?_) ?_ ?_
          rotate_left
          · show Act.put _ (some 6) _ = _
            simp only [Act.put, List.setIfInBounds_toArray, List.set_cons_zero, List.set_cons_succ, i64_w, i32_w]
            rfl
          refine one_ (i := 5) (N := some 12) #[true, true, true, true, true, true, true, true, false, false] rfl rfl (by kernel_rfl) (by decide) (fun K hK => ?_)
          refine goes_ Try.func17 (by kernel_rfl) rfl #[.agg #[.float .f64 b0, .float .f64 b1], .agg #[.float .f64 a0, .float .f64 a1]] (by rfl) rfl rfl (by simp only [List.map_toArray, List.map_cons, List.map_nil]; rfl) ?_
          with_reducible refine (c2.out _).mono ?_
          rintro e W5 ⟨rfl, hb⟩
          refine ⟨_, rfl, ?_⟩
          have T5 := below_step T7 hb
          have B6_5 := (hb.block _ (lt_of_blk B6_7)).trans B6_7
          have B7_5 := (hb.block _ (lt_of_blk B7_7)).trans B7_7
          clear hb
          refine hK.out _ _ ⟨(KRight.cell_below T5 lA x0), (KRight.cell_below T5 lA x1), (KRight.cell_below T5 lB y0), (KRight.cell_below T5 lB y1)⟩ (fun hHeld => ?_)
          clear hK K
          refine norm_ (a' := ?_) ?_ ?_
          rotate_left
          · show Act.put _ (some 12) _ = _
            simp only [Act.put, List.setIfInBounds_toArray, List.set_cons_zero, List.set_cons_succ, i64_w, i32_w]
            rfl
          exact norm_ (by simp only [putAll, Act.put, List.setIfInBounds_toArray, List.set_cons_zero, List.set_cons_succ]) (hCont (w2.heap.size, W2.heap.size) _ ⟨T5, B6_5, B7_5, Nat.ne_of_lt (lt_of_blk B6_2), (show w2.heap.size ≤ w2.heap.size from T0.size), (show w2.heap.size ≤ W2.heap.size from T2.size)⟩)
      · skip
        refine value_ (w1 := ?_) (v := ?_) (by rfl) rfl ?_ ?_
        rotate_left 2
        · go_simp
          constructor
          · rfl
          · rfl
        refine letter_ ?_
        intro W7 hW
        have T7 : Below w2.heap.size w2 W7 := by rw [hW]; exact T6.alloc T6.size _
        have B7_7 : W7.heap[W6.heap.size]? = some (.cells #[.float .f64 0, .float .f64 0] 24 (0, 0)) := by rw [hW]; exact heap_alloc_new _ _
        have B6_7 : W7.heap[w2.heap.size]? = some (.cells #[.float .f64 0, .float .f64 0] 24 (0, 0)) := by rw [hW]; exact blk_alloc B6_6 _
        clear hW
        refine hK.out _ _ ⟨(KRight.cell_below T7 lA x0), (KRight.cell_below T7 lA x1), (KRight.cell_below T7 lB y0), (KRight.cell_below T7 lB y1)⟩ (fun hHeld => ?_)
        clear hK K
        refine norm_ (a' := ?_) ?_ ?_
        rotate_left
        · show Act.put _ (some 6) _ = _
          simp only [Act.put, List.setIfInBounds_toArray, List.set_cons_zero, List.set_cons_succ, i64_w, i32_w]
          rfl
        refine one_ (i := 2) (N := some 9) #[true, true, true, true, true, false, true, true, false, false] rfl rfl (by kernel_rfl) (by decide) (fun K hK => ?_)
        refine goes_ Try.func17 (by kernel_rfl) rfl #[.agg #[.float .f64 a0, .float .f64 a1], .agg #[.float .f64 b0, .float .f64 b1]] (by rfl) rfl rfl (by simp only [List.map_toArray, List.map_cons, List.map_nil]; rfl) ?_
        with_reducible refine (c1.out _).mono ?_
        rintro e W2 ⟨rfl, hb⟩
        refine ⟨_, rfl, ?_⟩
        have T2 := below_step T7 hb
        have B6_2 := (hb.block _ (lt_of_blk B6_7)).trans B6_7
        have B7_2 := (hb.block _ (lt_of_blk B7_7)).trans B7_7
        clear hb
        refine hK.out _ _ ⟨(KRight.cell_below T2 lA x0), (KRight.cell_below T2 lA x1), (KRight.cell_below T2 lB y0), (KRight.cell_below T2 lB y1)⟩ (fun hHeld => ?_)
        clear hK K
        refine norm_ (a' := ?_) ?_ ?_
        rotate_left
        · show Act.put _ (some 9) _ = _
          simp only [Act.put, List.setIfInBounds_toArray, List.set_cons_zero, List.set_cons_succ, i64_w, i32_w]
          rfl
        refine one_ (i := 5) (N := some 12) #[true, true, true, true, true, true, true, true, false, false] rfl rfl (by kernel_rfl) (by decide) (fun K hK => ?_)
        refine goes_ Try.func17 (by kernel_rfl) rfl #[.agg #[.float .f64 b0, .float .f64 b1], .agg #[.float .f64 a0, .float .f64 a1]] (by rfl) rfl rfl (by simp only [List.map_toArray, List.map_cons, List.map_nil]; rfl) ?_
        with_reducible refine (c2.out _).mono ?_
        rintro e W5 ⟨rfl, hb⟩
        refine ⟨_, rfl, ?_⟩
        have T5 := below_step T2 hb
        have B6_5 := (hb.block _ (lt_of_blk B6_2)).trans B6_2
        have B7_5 := (hb.block _ (lt_of_blk B7_2)).trans B7_2
        clear hb
        refine hK.out _ _ ⟨(KRight.cell_below T5 lA x0), (KRight.cell_below T5 lA x1), (KRight.cell_below T5 lB y0), (KRight.cell_below T5 lB y1)⟩ (fun hHeld => ?_)
        clear hK K
        refine norm_ (a' := ?_) ?_ ?_
        rotate_left
        · show Act.put _ (some 12) _ = _
          simp only [Act.put, List.setIfInBounds_toArray, List.set_cons_zero, List.set_cons_succ, i64_w, i32_w]
          rfl
        exact norm_ (by simp only [putAll, Act.put, List.setIfInBounds_toArray, List.set_cons_zero, List.set_cons_succ]) (hCont (w2.heap.size, W6.heap.size) _ ⟨T5, B6_5, B7_5, Nat.ne_of_lt (lt_of_blk B6_6), (show w2.heap.size ≤ w2.heap.size from T0.size), (show w2.heap.size ≤ W6.heap.size from T6.size)⟩)
    · skip
      refine value_ (w1 := ?_) (v := ?_) (by rfl) rfl ?_ ?_
      rotate_left 2
      · go_simp
        constructor
        · rfl
        · rfl
      refine letter_ ?_
      intro W7 hW
      have T7 : Below w2.heap.size w2 W7 := by rw [hW]; exact T0.alloc T0.size _
      have B7_7 : W7.heap[w2.drew.heap.size]? = some (.cells #[.float .f64 0, .float .f64 0] 24 (0, 0)) := by rw [hW]; exact heap_alloc_new _ _
      clear hW
      refine hK.out _ _ ⟨(KRight.cell_below T7 lA x0), (KRight.cell_below T7 lA x1), (KRight.cell_below T7 lB y0), (KRight.cell_below T7 lB y1)⟩ (fun hHeld => ?_)
      clear hK K
      refine norm_ (a' := ?_) ?_ ?_
      rotate_left
      · show Act.put _ (some 6) _ = _
        simp only [Act.put, List.setIfInBounds_toArray, List.set_cons_zero, List.set_cons_succ, i64_w, i32_w]
        rfl
      refine two_ (i := 2) (j := 6) (Ni := some 9) (Nj := some 5) #[true, true, true, true, true, false, false, true, false, false] #[true, true, false, true, true, false, true, true, false, false] rfl rfl rfl rfl (by kernel_rfl) (by decide) (by decide) (fun K hK => ?_) (fun K hK => ?_)
      · skip
        refine goes_ Try.func17 (by kernel_rfl) rfl #[.agg #[.float .f64 a0, .float .f64 a1], .agg #[.float .f64 b0, .float .f64 b1]] (by rfl) rfl rfl (by simp only [List.map_toArray, List.map_cons, List.map_nil]; rfl) ?_
        with_reducible refine (c1.out _).mono ?_
        rintro e W2 ⟨rfl, hb⟩
        refine ⟨_, rfl, ?_⟩
        have T2 := below_step T7 hb
        have B7_2 := (hb.block _ (lt_of_blk B7_7)).trans B7_7
        clear hb
        refine hK.out _ _ ⟨(KRight.cell_below T2 lA x0), (KRight.cell_below T2 lA x1), (KRight.cell_below T2 lB y0), (KRight.cell_below T2 lB y1)⟩ (fun hHeld => ?_)
        clear hK K
        refine norm_ (a' := ?_) ?_ ?_
        rotate_left
        · show Act.put _ (some 9) _ = _
          simp only [Act.put, List.setIfInBounds_toArray, List.set_cons_zero, List.set_cons_succ, i64_w, i32_w]
          rfl
        refine two_ (i := 5) (j := 6) (Ni := some 12) (Nj := some 5) #[true, true, true, true, true, true, false, true, false, false] #[true, true, true, true, true, false, true, true, false, false] rfl rfl rfl rfl (by kernel_rfl) (by decide) (by decide) (fun K hK => ?_) (fun K hK => ?_)
        · skip
          refine goes_ Try.func17 (by kernel_rfl) rfl #[.agg #[.float .f64 b0, .float .f64 b1], .agg #[.float .f64 a0, .float .f64 a1]] (by rfl) rfl rfl (by simp only [List.map_toArray, List.map_cons, List.map_nil]; rfl) ?_
          with_reducible refine (c2.out _).mono ?_
          rintro e W5 ⟨rfl, hb⟩
          refine ⟨_, rfl, ?_⟩
          have T5 := below_step T2 hb
          have B7_5 := (hb.block _ (lt_of_blk B7_2)).trans B7_2
          clear hb
          refine hK.out _ _ ⟨(KRight.cell_below T5 lA x0), (KRight.cell_below T5 lA x1), (KRight.cell_below T5 lB y0), (KRight.cell_below T5 lB y1)⟩ (fun hHeld => ?_)
          clear hK K
          refine norm_ (a' := ?_) ?_ ?_
          rotate_left
          · show Act.put _ (some 12) _ = _
            simp only [Act.put, List.setIfInBounds_toArray, List.set_cons_zero, List.set_cons_succ, i64_w, i32_w]
            rfl
          refine one_ (i := 6) (N := some 5) #[true, true, true, true, true, true, true, true, false, false] rfl rfl (by kernel_rfl) (by decide) (fun K hK => ?_)
          refine value_ (w1 := ?_) (v := ?_) (by rfl) rfl ?_ ?_
          rotate_left 2
          · go_simp
            constructor
            · rfl
            · rfl
          refine letter_ ?_
          intro W6 hW
          have T6 : Below w2.heap.size w2 W6 := by rw [hW]; exact T5.alloc T5.size _
          have B6_6 : W6.heap[W5.heap.size]? = some (.cells #[.float .f64 0, .float .f64 0] 24 (0, 0)) := by rw [hW]; exact heap_alloc_new _ _
          have B7_6 : W6.heap[w2.heap.size]? = some (.cells #[.float .f64 0, .float .f64 0] 24 (0, 0)) := by rw [hW]; exact blk_alloc B7_5 _
          clear hW
          refine hK.out _ _ ⟨(KRight.cell_below T6 lA x0), (KRight.cell_below T6 lA x1), (KRight.cell_below T6 lB y0), (KRight.cell_below T6 lB y1)⟩ (fun hHeld => ?_)
          clear hK K
          refine norm_ (a' := ?_) ?_ ?_
          rotate_left
          · show Act.put _ (some 5) _ = _
            simp only [Act.put, List.setIfInBounds_toArray, List.set_cons_zero, List.set_cons_succ, i64_w, i32_w]
            rfl
          exact norm_ (by simp only [putAll, Act.put, List.setIfInBounds_toArray, List.set_cons_zero, List.set_cons_succ]) (hCont (W5.heap.size, w2.heap.size) _ ⟨T6, B6_6, B7_6, Nat.ne_of_gt (lt_of_blk B7_5), (show w2.heap.size ≤ W5.heap.size from T5.size), (show w2.heap.size ≤ w2.heap.size from T0.size)⟩)
        · skip
          refine value_ (w1 := ?_) (v := ?_) (by rfl) rfl ?_ ?_
          rotate_left 2
          · go_simp
            constructor
            · rfl
            · rfl
          refine letter_ ?_
          intro W6 hW
          have T6 : Below w2.heap.size w2 W6 := by rw [hW]; exact T2.alloc T2.size _
          have B6_6 : W6.heap[W2.heap.size]? = some (.cells #[.float .f64 0, .float .f64 0] 24 (0, 0)) := by rw [hW]; exact heap_alloc_new _ _
          have B7_6 : W6.heap[w2.heap.size]? = some (.cells #[.float .f64 0, .float .f64 0] 24 (0, 0)) := by rw [hW]; exact blk_alloc B7_2 _
          clear hW
          refine hK.out _ _ ⟨(KRight.cell_below T6 lA x0), (KRight.cell_below T6 lA x1), (KRight.cell_below T6 lB y0), (KRight.cell_below T6 lB y1)⟩ (fun hHeld => ?_)
          clear hK K
          refine norm_ (a' := ?_) ?_ ?_
          rotate_left
          · show Act.put _ (some 5) _ = _
            simp only [Act.put, List.setIfInBounds_toArray, List.set_cons_zero, List.set_cons_succ, i64_w, i32_w]
            rfl
          refine one_ (i := 5) (N := some 12) #[true, true, true, true, true, true, true, true, false, false] rfl rfl (by kernel_rfl) (by decide) (fun K hK => ?_)
          refine goes_ Try.func17 (by kernel_rfl) rfl #[.agg #[.float .f64 b0, .float .f64 b1], .agg #[.float .f64 a0, .float .f64 a1]] (by rfl) rfl rfl (by simp only [List.map_toArray, List.map_cons, List.map_nil]; rfl) ?_
          with_reducible refine (c2.out _).mono ?_
          rintro e W5 ⟨rfl, hb⟩
          refine ⟨_, rfl, ?_⟩
          have T5 := below_step T6 hb
          have B7_5 := (hb.block _ (lt_of_blk B7_6)).trans B7_6
          have B6_5 := (hb.block _ (lt_of_blk B6_6)).trans B6_6
          clear hb
          refine hK.out _ _ ⟨(KRight.cell_below T5 lA x0), (KRight.cell_below T5 lA x1), (KRight.cell_below T5 lB y0), (KRight.cell_below T5 lB y1)⟩ (fun hHeld => ?_)
          clear hK K
          refine norm_ (a' := ?_) ?_ ?_
          rotate_left
          · show Act.put _ (some 12) _ = _
            simp only [Act.put, List.setIfInBounds_toArray, List.set_cons_zero, List.set_cons_succ, i64_w, i32_w]
            rfl
          exact norm_ (by simp only [putAll, Act.put, List.setIfInBounds_toArray, List.set_cons_zero, List.set_cons_succ]) (hCont (W2.heap.size, w2.heap.size) _ ⟨T5, B6_5, B7_5, Nat.ne_of_gt (lt_of_blk B7_2), (show w2.heap.size ≤ W2.heap.size from T2.size), (show w2.heap.size ≤ w2.heap.size from T0.size)⟩)
      · skip
        refine value_ (w1 := ?_) (v := ?_) (by rfl) rfl ?_ ?_
        rotate_left 2
        · go_simp
          constructor
          · rfl
          · rfl
        refine letter_ ?_
        intro W6 hW
        have T6 : Below w2.heap.size w2 W6 := by rw [hW]; exact T7.alloc T7.size _
        have B6_6 : W6.heap[W7.heap.size]? = some (.cells #[.float .f64 0, .float .f64 0] 24 (0, 0)) := by rw [hW]; exact heap_alloc_new _ _
        have B7_6 : W6.heap[w2.heap.size]? = some (.cells #[.float .f64 0, .float .f64 0] 24 (0, 0)) := by rw [hW]; exact blk_alloc B7_7 _
        clear hW
        refine hK.out _ _ ⟨(KRight.cell_below T6 lA x0), (KRight.cell_below T6 lA x1), (KRight.cell_below T6 lB y0), (KRight.cell_below T6 lB y1)⟩ (fun hHeld => ?_)
        clear hK K
        refine norm_ (a' := ?_) ?_ ?_
        rotate_left
        · show Act.put _ (some 5) _ = _
          simp only [Act.put, List.setIfInBounds_toArray, List.set_cons_zero, List.set_cons_succ, i64_w, i32_w]
          rfl
        refine one_ (i := 2) (N := some 9) #[true, true, true, true, true, false, true, true, false, false] rfl rfl (by kernel_rfl) (by decide) (fun K hK => ?_)
        refine goes_ Try.func17 (by kernel_rfl) rfl #[.agg #[.float .f64 a0, .float .f64 a1], .agg #[.float .f64 b0, .float .f64 b1]] (by rfl) rfl rfl (by simp only [List.map_toArray, List.map_cons, List.map_nil]; rfl) ?_
        with_reducible refine (c1.out _).mono ?_
        rintro e W2 ⟨rfl, hb⟩
        refine ⟨_, rfl, ?_⟩
        have T2 := below_step T6 hb
        have B7_2 := (hb.block _ (lt_of_blk B7_6)).trans B7_6
        have B6_2 := (hb.block _ (lt_of_blk B6_6)).trans B6_6
        clear hb
        refine hK.out _ _ ⟨(KRight.cell_below T2 lA x0), (KRight.cell_below T2 lA x1), (KRight.cell_below T2 lB y0), (KRight.cell_below T2 lB y1)⟩ (fun hHeld => ?_)
        clear hK K
        refine norm_ (a' := ?_) ?_ ?_
        rotate_left
        · show Act.put _ (some 9) _ = _
          simp only [Act.put, List.setIfInBounds_toArray, List.set_cons_zero, List.set_cons_succ, i64_w, i32_w]
          rfl
        refine one_ (i := 5) (N := some 12) #[true, true, true, true, true, true, true, true, false, false] rfl rfl (by kernel_rfl) (by decide) (fun K hK => ?_)
        refine goes_ Try.func17 (by kernel_rfl) rfl #[.agg #[.float .f64 b0, .float .f64 b1], .agg #[.float .f64 a0, .float .f64 a1]] (by rfl) rfl rfl (by simp only [List.map_toArray, List.map_cons, List.map_nil]; rfl) ?_
        with_reducible refine (c2.out _).mono ?_
        rintro e W5 ⟨rfl, hb⟩
        refine ⟨_, rfl, ?_⟩
        have T5 := below_step T2 hb
        have B7_5 := (hb.block _ (lt_of_blk B7_2)).trans B7_2
        have B6_5 := (hb.block _ (lt_of_blk B6_2)).trans B6_2
        clear hb
        refine hK.out _ _ ⟨(KRight.cell_below T5 lA x0), (KRight.cell_below T5 lA x1), (KRight.cell_below T5 lB y0), (KRight.cell_below T5 lB y1)⟩ (fun hHeld => ?_)
        clear hK K
        refine norm_ (a' := ?_) ?_ ?_
        rotate_left
        · show Act.put _ (some 12) _ = _
          simp only [Act.put, List.setIfInBounds_toArray, List.set_cons_zero, List.set_cons_succ, i64_w, i32_w]
          rfl
        exact norm_ (by simp only [putAll, Act.put, List.setIfInBounds_toArray, List.set_cons_zero, List.set_cons_succ]) (hCont (W7.heap.size, w2.heap.size) _ ⟨T5, B6_5, B7_5, Nat.ne_of_gt (lt_of_blk B7_7), (show w2.heap.size ≤ W7.heap.size from T7.size), (show w2.heap.size ≤ w2.heap.size from T0.size)⟩)
  rintro ⟨p5, p6⟩ W ⟨TW, d5, d6, ne, g5, g6⟩
  have hHeld : True := trivial
  refine norm_ (a' := ?_) ?_ ?_
  rotate_left
  · simp only [putAll, Act.put, List.setIfInBounds_toArray, List.set_cons_zero, List.set_cons_succ]
    rfl
  refine last_ (i := 8) (N := none) #[true, true, true, true, true, true, true, true, true, false] rfl rfl (by kernel_rfl) (by decide) (fun K hK => ?_)
  obtain ⟨z0, z1, z2, z3, z4⟩ := set_two d5 (.float .f64 l0) (.float .f64 l1)
  refine skip_ (w1 := ?_) (by rfl) rfl ?_ ?_
  rotate_left
  · go_simp
    rfl
  refine letter_ ?_
  intro W8 hW8
  have d7 : W8.heap[p6]? = some (.cells #[.float .f64 0, .float .f64 0] 24 (0, 0)) := by rw [hW8]; exact set_other (set_other d6 (Ne.symm ne)) (Ne.symm ne)
  have d8 : W8.heap[p5]? = some (.cells #[.float .f64 l0, .float .f64 l1] 24 (0, 0)) := by rw [hW8]; exact z4
  have T8 : Below w2.heap.size w2 W8 := by rw [hW8]; exact below_set (below_set TW g5 _) g5 _
  clear hW8 z0 z1 z2 z3 z4
  obtain ⟨z0, z1, z2, z3, z4⟩ := set_two d7 (.float .f64 k0) (.float .f64 k1)
  refine hK.out _ _ ?_
  clear hK K
  refine last_ (i := 9) (N := none) #[true, true, true, true, true, true, true, true, true, true] rfl rfl (by kernel_rfl) (by decide) (fun K hK => ?_)
  refine skip_ (w1 := ?_) (by rfl) rfl ?_ ?_
  rotate_left
  · go_simp
    rfl
  refine letter_ ?_
  intro W9 hW9
  have d9 : W9.heap[p5]? = some (.cells #[.float .f64 l0, .float .f64 l1] 24 (0, 0)) := by rw [hW9]; exact set_other (set_other d8 ne) ne
  have d10 : W9.heap[p6]? = some (.cells #[.float .f64 k0, .float .f64 k1] 24 (0, 0)) := by rw [hW9]; exact z4
  have T9 : Below w2.heap.size w2 W9 := by rw [hW9]; exact below_set (below_set T8 g6 _) g6 _
  clear hW9 z0 z1 z2 z3 z4
  refine hK.out _ _ ?_
  clear hK K
  refine done_ (by kernel_rfl) ?_
  have D5 := Lib.hid d9
  have D6 := Lib.hid d10
  have BA := Lib.hid ((T9.block _ lA).trans BA.out)
  have BB := Lib.hid ((T9.block _ lB).trans BB.out)
  have HB : Hid (Below w.heap.size w W9) := Lib.hid (by have h1 := HB.out; rw [← HQ.out] at h1; exact below_step h1 T9)
  clear d5 d6 d7 d8 d9 d10 T8 T9 TW ne g5 g6 lA lB x0 x1 y0 y1 T0 c1 c2
  have x0 := blk_cell BA.out 0 (.float .f64 a0) rfl
  have x1 := blk_cell BA.out 1 (.float .f64 a1) rfl
  have y0 := blk_cell BB.out 0 (.float .f64 b0) rfl
  have y1 := blk_cell BB.out 1 (.float .f64 b1) rfl
  go_wp2_with fail
  refine (right_is _ _ false ha0 ha1 hRa _).mono ?_
  rintro e w10 ⟨rfl, hb⟩
  have BA := Lib.hid ((hb.block _ (lt_of_blk BA.out)).trans BA.out)
  have BB := Lib.hid ((hb.block _ (lt_of_blk BB.out)).trans BB.out)
  have D5 := Lib.hid ((hb.block _ (lt_of_blk D5.out)).trans D5.out)
  have D6 := Lib.hid ((hb.block _ (lt_of_blk D6.out)).trans D6.out)
  have HB := Lib.hid (below_step HB.out hb)
  clear hb
  clear x0 x1 y0 y1
  have x0 := blk_cell BA.out 0 (.float .f64 a0) rfl
  have x1 := blk_cell BA.out 1 (.float .f64 a1) rfl
  have y0 := blk_cell BB.out 0 (.float .f64 b0) rfl
  have y1 := blk_cell BB.out 1 (.float .f64 b1) rfl
  go_wp2_with fail
  refine (right_is _ _ false ha0 ha1 hRa _).mono ?_
  rintro e w12 ⟨rfl, hb⟩
  have BA := Lib.hid ((hb.block _ (lt_of_blk BA.out)).trans BA.out)
  have BB := Lib.hid ((hb.block _ (lt_of_blk BB.out)).trans BB.out)
  have D5 := Lib.hid ((hb.block _ (lt_of_blk D5.out)).trans D5.out)
  have D6 := Lib.hid ((hb.block _ (lt_of_blk D6.out)).trans D6.out)
  have HB := Lib.hid (below_step HB.out hb)
  clear hb
  clear x0 x1 y0 y1
  have x0 := blk_cell BA.out 0 (.float .f64 a0) rfl
  have x1 := blk_cell BA.out 1 (.float .f64 a1) rfl
  have y0 := blk_cell BB.out 0 (.float .f64 b0) rfl
  have y1 := blk_cell BB.out 1 (.float .f64 b1) rfl
  by_cases hk0 : kd a0 < 3
  · go_wp2_with fail
    refine (kind_calls _ ha0 _).mono ?_
    rintro e w13 ⟨rfl, h⟩
    subst w13
    go_wp2_with (go_at_call 19; (with_reducible refine (fixed_calls _).mono ?_); rintro e w13 ⟨rfl, hB7⟩)
    go_ret
    exact ⟨rfl, below_step HB.out hB7⟩
  · have hk1 : kd a1 < 3 := by have := HK.out; omega
    go_wp2_with fail
    refine (kind_calls _ ha0 _).mono ?_
    rintro e w13 ⟨rfl, h⟩
    subst w13
    go_wp2_with fail
    refine (kind_calls _ ha1 _).mono ?_
    rintro e w13 ⟨rfl, h⟩
    subst w13
    go_wp2_with (go_at_call 19; (with_reducible refine (fixed_calls _).mono ?_); rintro e w13 ⟨rfl, hB7⟩)
    go_ret
    exact ⟨rfl, below_step HB.out hB7⟩
set_option maxRecDepth 100000 in
set_option maxHeartbeats 6400000 in
theorem w00 (a0 a1 b0 b1 : Nat) (w : World) (ha0 : a0 < 18446744073709551616) (ha1 : a1 < 18446744073709551616) (hb0 : b0 < 18446744073709551616) (hb1 : b1 < 18446744073709551616) (hRa : rightB a0 a1 = false) (hRb : rightB b0 b1 = false) :
    Calls Try.prog 7 #[.agg #[.float .f64 a0, .float .f64 a1], .agg #[.float .f64 b0, .float .f64 b1]] w fun e w' => e = .returned (.bool true) ∧ Below w.heap.size w w' := by
  have BA := Lib.hid (blk_alloc (heap_alloc_new w (.cells #[.float .f64 a0, .float .f64 a1] 24)) (.cells #[.float .f64 b0, .float .f64 b1] 24))
  have BB := Lib.hid (blk2 w (.cells #[.float .f64 a0, .float .f64 a1] 24) #[.float .f64 b0, .float .f64 b1] 24)
  have HB := Lib.hid (below2 w (.cells #[.float .f64 a0, .float .f64 a1] 24) (.cells #[.float .f64 b0, .float .f64 b1] 24))
  have c1 := Lib.hid (least_calls a0 a1 b0 b1)
  have c2 := Lib.hid (least_calls b0 b1 a0 a1)
  have hk : kd a0 < 3 ∨ kd a1 < 3 := by
    unfold rightB at hRa
    simp at hRa
    omega
  have HK := Lib.hid hk
  clear hk
  generalize lessF a0 b0 = l0 at *
  generalize lessF a1 b1 = l1 at *
  generalize lessF b0 a0 = k0 at *
  generalize lessF b1 a1 = k1 at *
  go_enter Try.func7, Try.ntmps7
  go_wp2
  generalize ((w.alloc (.cells #[.float .f64 a0, .float .f64 a1] 24)).alloc (.cells #[.float .f64 b0, .float .f64 b1] 24)) = w2 at *
  obtain ⟨qa, hqa⟩ : ∃ qa, w.heap.size = qa := ⟨_, rfl⟩
  rw [hqa] at BA BB HB ⊢
  have HQ := Lib.hid hqa
  clear hqa
  generalize qa + 1 = qb at *
  have x0 := blk_cell BA.out 0 (.float .f64 a0) rfl
  have x1 := blk_cell BA.out 1 (.float .f64 a1) rfl
  have y0 := blk_cell BB.out 0 (.float .f64 b0) rfl
  have y1 := blk_cell BB.out 1 (.float .f64 b1) rfl
  have lA := lt_of_blk BA.out
  have lB := lt_of_blk BB.out
  have T0 := (Below.refl w2.heap.size w2).drew
  refine start_ (n := 10) (S := fun w' => w'.cell? ⟨qa, 0, none⟩ = some (.float .f64 a0) ∧ w'.cell? ⟨qa, 1, none⟩ = some (.float .f64 a1) ∧ w'.cell? ⟨qb, 0, none⟩ = some (.float .f64 b0) ∧ w'.cell? ⟨qb, 1, none⟩ = some (.float .f64 b1)) (ds := [8, 9]) #[false, false, false, false, false, false, false, false, false, false] (by kernel_rfl) rfl rfl ⟨x0, x1, y0, y1⟩ (fun hHeld => ?_)
  refine take_ (i := 0) (N := some 7) (v := ?_) (a' := ?_) #[true, false, false, false, false, false, false, false, false, false] rfl rfl (by kernel_rfl) (fun _ _ _ h => h) (Or.inl ⟨by rfl, ?_⟩) hHeld ?_ ?_
  rotate_left
  · rintro w' ⟨s0, s1, s2, s3⟩
    go_simp
    with_reducible rfl
  rotate_left
  · simp only [Act.put, List.setIfInBounds_toArray, List.set_cons_zero, List.set_cons_succ, i64_w, i32_w]
    rfl
  refine take_ (i := 1) (N := some 8) (v := ?_) (a' := ?_) #[true, true, false, false, false, false, false, false, false, false] rfl rfl (by kernel_rfl) (fun _ _ _ h => h) (Or.inl ⟨by rfl, ?_⟩) hHeld ?_ ?_
  rotate_left
  · rintro w' ⟨s0, s1, s2, s3⟩
    go_simp
    with_reducible rfl
  rotate_left
  · simp only [Act.put, List.setIfInBounds_toArray, List.set_cons_zero, List.set_cons_succ, i64_w, i32_w]
    rfl
  refine take_ (i := 3) (N := some 10) (v := ?_) (a' := ?_) #[true, true, false, true, false, false, false, false, false, false] rfl rfl (by kernel_rfl) (fun _ _ _ h => h) (Or.inl ⟨by rfl, ?_⟩) hHeld ?_ ?_
  rotate_left
  · rintro w' ⟨s0, s1, s2, s3⟩
    go_simp
    with_reducible rfl
  rotate_left
  · simp only [Act.put, List.setIfInBounds_toArray, List.set_cons_zero, List.set_cons_succ, i64_w, i32_w]
    rfl
  refine take_ (i := 4) (N := some 11) (v := ?_) (a' := ?_) #[true, true, false, true, true, false, false, false, false, false] rfl rfl (by kernel_rfl) (fun _ _ _ h => h) (Or.inl ⟨by rfl, ?_⟩) hHeld ?_ ?_
  rotate_left
  · rintro w' ⟨s0, s1, s2, s3⟩
    go_simp
    with_reducible rfl
  rotate_left
  · simp only [Act.put, List.setIfInBounds_toArray, List.set_cons_zero, List.set_cons_succ, i64_w, i32_w]
    rfl
  refine join_ (σ := Nat × Nat) 2 #[true, true, true, true, true, true, true, true, false, false] (fun s => [(9, .agg #[.float .f64 l0, .float .f64 l1]), (12, .agg #[.float .f64 k0, .float .f64 k1]), (5, .pointer (some ⟨s.1, 0, none⟩)), (6, .pointer (some ⟨s.2, 0, none⟩))]) (fun s w' => Below w2.heap.size w2 w' ∧ w'.heap[s.1]? = some (.cells #[.float .f64 0, .float .f64 0] 24 (0, 0)) ∧ w'.heap[s.2]? = some (.cells #[.float .f64 0, .float .f64 0] 24 (0, 0)) ∧ s.1 ≠ s.2 ∧ w2.heap.size ≤ s.1 ∧ w2.heap.size ≤ s.2) ?_ ?_
  rotate_left
  · intro hCont
    refine three_ (i := 2) (j := 6) (k := 7) (Ni := some 9) (Nj := some 5) (Nk := some 6) #[true, true, true, true, true, false, false, false, false, false] #[true, true, false, true, true, false, true, false, false, false] #[true, true, false, true, true, false, false, true, false, false] rfl rfl rfl rfl rfl rfl (by kernel_rfl) (by decide) (by decide) (by decide) (fun K hK => ?_) (fun K hK => ?_) (fun K hK => ?_)
    · skip
      refine goes_ Try.func17 (by kernel_rfl) rfl #[.agg #[.float .f64 a0, .float .f64 a1], .agg #[.float .f64 b0, .float .f64 b1]] (by rfl) rfl rfl (by simp only [List.map_toArray, List.map_cons, List.map_nil]; rfl) ?_
      with_reducible refine (c1.out _).mono ?_
      rintro e W2 ⟨rfl, hb⟩
      refine ⟨_, rfl, ?_⟩
      have T2 := below_step T0 hb
      clear hb
      refine hK.out _ _ ⟨(KRight.cell_below T2 lA x0), (KRight.cell_below T2 lA x1), (KRight.cell_below T2 lB y0), (KRight.cell_below T2 lB y1)⟩ (fun hHeld => ?_)
      clear hK K
      refine norm_ (a' := ?_) ?_ ?_
      rotate_left
      · show Act.put _ (some 9) _ = _
        simp only [Act.put, List.setIfInBounds_toArray, List.set_cons_zero, List.set_cons_succ, i64_w, i32_w]
        rfl
      refine three_ (i := 5) (j := 6) (k := 7) (Ni := some 12) (Nj := some 5) (Nk := some 6) #[true, true, true, true, true, true, false, false, false, false] #[true, true, true, true, true, false, true, false, false, false] #[true, true, true, true, true, false, false, true, false, false] rfl rfl rfl rfl rfl rfl (by kernel_rfl) (by decide) (by decide) (by decide) (fun K hK => ?_) (fun K hK => ?_) (fun K hK => ?_)
      · skip
        refine goes_ Try.func17 (by kernel_rfl) rfl #[.agg #[.float .f64 b0, .float .f64 b1], .agg #[.float .f64 a0, .float .f64 a1]] (by rfl) rfl rfl (by simp only [List.map_toArray, List.map_cons, List.map_nil]; rfl) ?_
        with_reducible refine (c2.out _).mono ?_
        rintro e W5 ⟨rfl, hb⟩
        refine ⟨_, rfl, ?_⟩
        have T5 := below_step T2 hb
        clear hb
        refine hK.out _ _ ⟨(KRight.cell_below T5 lA x0), (KRight.cell_below T5 lA x1), (KRight.cell_below T5 lB y0), (KRight.cell_below T5 lB y1)⟩ (fun hHeld => ?_)
        clear hK K
        refine norm_ (a' := ?_) ?_ ?_
        rotate_left
        · show Act.put _ (some 12) _ = _
          simp only [Act.put, List.setIfInBounds_toArray, List.set_cons_zero, List.set_cons_succ, i64_w, i32_w]
          rfl
        refine two_ (i := 6) (j := 7) (Ni := some 5) (Nj := some 6) #[true, true, true, true, true, true, true, false, false, false] #[true, true, true, true, true, true, false, true, false, false] rfl rfl rfl rfl (by kernel_rfl) (by decide) (by decide) (fun K hK => ?_) (fun K hK => ?_)
        · skip
          refine value_ (w1 := ?_) (v := ?_) (by rfl) rfl ?_ ?_
          rotate_left 2
          · go_simp
            constructor
            · rfl
            · rfl
          refine letter_ ?_
          intro W6 hW
          have T6 : Below w2.heap.size w2 W6 := by rw [hW]; exact T5.alloc T5.size _
          have B6_6 : W6.heap[W5.heap.size]? = some (.cells #[.float .f64 0, .float .f64 0] 24 (0, 0)) := by rw [hW]; exact heap_alloc_new _ _
          clear hW
          refine hK.out _ _ ⟨(KRight.cell_below T6 lA x0), (KRight.cell_below T6 lA x1), (KRight.cell_below T6 lB y0), (KRight.cell_below T6 lB y1)⟩ (fun hHeld => ?_)
          clear hK K
          refine norm_ (a' := ?_) ?_ ?_
          rotate_left
          · show Act.put _ (some 5) _ = _
            simp only [Act.put, List.setIfInBounds_toArray, List.set_cons_zero, List.set_cons_succ, i64_w, i32_w]
            rfl
          refine one_ (i := 7) (N := some 6) #[true, true, true, true, true, true, true, true, false, false] rfl rfl (by kernel_rfl) (by decide) (fun K hK => ?_)
          refine value_ (w1 := ?_) (v := ?_) (by rfl) rfl ?_ ?_
          rotate_left 2
          · go_simp
            constructor
            · rfl
            · rfl
          refine letter_ ?_
          intro W7 hW
          have T7 : Below w2.heap.size w2 W7 := by rw [hW]; exact T6.alloc T6.size _
          have B7_7 : W7.heap[W6.heap.size]? = some (.cells #[.float .f64 0, .float .f64 0] 24 (0, 0)) := by rw [hW]; exact heap_alloc_new _ _
          have B6_7 : W7.heap[W5.heap.size]? = some (.cells #[.float .f64 0, .float .f64 0] 24 (0, 0)) := by rw [hW]; exact blk_alloc B6_6 _
          clear hW
          refine hK.out _ _ ⟨(KRight.cell_below T7 lA x0), (KRight.cell_below T7 lA x1), (KRight.cell_below T7 lB y0), (KRight.cell_below T7 lB y1)⟩ (fun hHeld => ?_)
          clear hK K
          refine norm_ (a' := ?_) ?_ ?_
          rotate_left
          · show Act.put _ (some 6) _ = _
            simp only [Act.put, List.setIfInBounds_toArray, List.set_cons_zero, List.set_cons_succ, i64_w, i32_w]
            rfl
          exact norm_ (by simp only [putAll, Act.put, List.setIfInBounds_toArray, List.set_cons_zero, List.set_cons_succ]) (hCont (W5.heap.size, W6.heap.size) _ ⟨T7, B6_7, B7_7, Nat.ne_of_lt (lt_of_blk B6_6), (show w2.heap.size ≤ W5.heap.size from T5.size), (show w2.heap.size ≤ W6.heap.size from T6.size)⟩)
        · skip
          refine value_ (w1 := ?_) (v := ?_) (by rfl) rfl ?_ ?_
          rotate_left 2
          · go_simp
            constructor
            · rfl
            · rfl
          refine letter_ ?_
          intro W7 hW
          have T7 : Below w2.heap.size w2 W7 := by rw [hW]; exact T5.alloc T5.size _
          have B7_7 : W7.heap[W5.heap.size]? = some (.cells #[.float .f64 0, .float .f64 0] 24 (0, 0)) := by rw [hW]; exact heap_alloc_new _ _
          clear hW
          refine hK.out _ _ ⟨(KRight.cell_below T7 lA x0), (KRight.cell_below T7 lA x1), (KRight.cell_below T7 lB y0), (KRight.cell_below T7 lB y1)⟩ (fun hHeld => ?_)
          clear hK K
          refine norm_ (a' := ?_) ?_ ?_
          rotate_left
          · show Act.put _ (some 6) _ = _
            simp only [Act.put, List.setIfInBounds_toArray, List.set_cons_zero, List.set_cons_succ, i64_w, i32_w]
            rfl
          refine one_ (i := 6) (N := some 5) #[true, true, true, true, true, true, true, true, false, false] rfl rfl (by kernel_rfl) (by decide) (fun K hK => ?_)
          refine value_ (w1 := ?_) (v := ?_) (by rfl) rfl ?_ ?_
          rotate_left 2
          · go_simp
            constructor
            · rfl
            · rfl
          refine letter_ ?_
          intro W6 hW
          have T6 : Below w2.heap.size w2 W6 := by rw [hW]; exact T7.alloc T7.size _
          have B6_6 : W6.heap[W7.heap.size]? = some (.cells #[.float .f64 0, .float .f64 0] 24 (0, 0)) := by rw [hW]; exact heap_alloc_new _ _
          have B7_6 : W6.heap[W5.heap.size]? = some (.cells #[.float .f64 0, .float .f64 0] 24 (0, 0)) := by rw [hW]; exact blk_alloc B7_7 _
          clear hW
          refine hK.out _ _ ⟨(KRight.cell_below T6 lA x0), (KRight.cell_below T6 lA x1), (KRight.cell_below T6 lB y0), (KRight.cell_below T6 lB y1)⟩ (fun hHeld => ?_)
          clear hK K
          refine norm_ (a' := ?_) ?_ ?_
          rotate_left
          · show Act.put _ (some 5) _ = _
            simp only [Act.put, List.setIfInBounds_toArray, List.set_cons_zero, List.set_cons_succ, i64_w, i32_w]
            rfl
          exact norm_ (by simp only [putAll, Act.put, List.setIfInBounds_toArray, List.set_cons_zero, List.set_cons_succ]) (hCont (W7.heap.size, W5.heap.size) _ ⟨T6, B6_6, B7_6, Nat.ne_of_gt (lt_of_blk B7_7), (show w2.heap.size ≤ W7.heap.size from T7.size), (show w2.heap.size ≤ W5.heap.size from T5.size)⟩)
      · skip
        refine value_ (w1 := ?_) (v := ?_) (by rfl) rfl ?_ ?_
        rotate_left 2
        · go_simp
          constructor
          · rfl
          · rfl
        refine letter_ ?_
        intro W6 hW
        have T6 : Below w2.heap.size w2 W6 := by rw [hW]; exact T2.alloc T2.size _
        have B6_6 : W6.heap[W2.heap.size]? = some (.cells #[.float .f64 0, .float .f64 0] 24 (0, 0)) := by rw [hW]; exact heap_alloc_new _ _
        clear hW
        refine hK.out _ _ ⟨(KRight.cell_below T6 lA x0), (KRight.cell_below T6 lA x1), (KRight.cell_below T6 lB y0), (KRight.cell_below T6 lB y1)⟩ (fun hHeld => ?_)
        clear hK K
        refine norm_ (a' := ?_) ?_ ?_
        rotate_left
        · show Act.put _ (some 5) _ = _
          simp only [Act.put, List.setIfInBounds_toArray, List.set_cons_zero, List.set_cons_succ, i64_w, i32_w]
          rfl
        refine two_ (i := 5) (j := 7) (Ni := some 12) (Nj := some 6) #[true, true, true, true, true, true, true, false, false, false] #[true, true, true, true, true, false, true, true, false, false] rfl rfl rfl rfl (by kernel_rfl) (by decide) (by decide) (fun K hK => ?_) (fun K hK => ?_)
        · skip
          refine goes_ Try.func17 (by kernel_rfl) rfl #[.agg #[.float .f64 b0, .float .f64 b1], .agg #[.float .f64 a0, .float .f64 a1]] (by rfl) rfl rfl (by simp only [List.map_toArray, List.map_cons, List.map_nil]; rfl) ?_
          with_reducible refine (c2.out _).mono ?_
          rintro e W5 ⟨rfl, hb⟩
          refine ⟨_, rfl, ?_⟩
          have T5 := below_step T6 hb
          have B6_5 := (hb.block _ (lt_of_blk B6_6)).trans B6_6
          clear hb
          refine hK.out _ _ ⟨(KRight.cell_below T5 lA x0), (KRight.cell_below T5 lA x1), (KRight.cell_below T5 lB y0), (KRight.cell_below T5 lB y1)⟩ (fun hHeld => ?_)
          clear hK K
          refine norm_ (a' := ?_) ?_ ?_
          rotate_left
          · show Act.put _ (some 12) _ = _
            simp only [Act.put, List.setIfInBounds_toArray, List.set_cons_zero, List.set_cons_succ, i64_w, i32_w]
            rfl
          refine one_ (i := 7) (N := some 6) #[true, true, true, true, true, true, true, true, false, false] rfl rfl (by kernel_rfl) (by decide) (fun K hK => ?_)
          refine value_ (w1 := ?_) (v := ?_) (by rfl) rfl ?_ ?_
          rotate_left 2
          · go_simp
            constructor
            · rfl
            · rfl
          refine letter_ ?_
          intro W7 hW
          have T7 : Below w2.heap.size w2 W7 := by rw [hW]; exact T5.alloc T5.size _
          have B7_7 : W7.heap[W5.heap.size]? = some (.cells #[.float .f64 0, .float .f64 0] 24 (0, 0)) := by rw [hW]; exact heap_alloc_new _ _
          have B6_7 : W7.heap[W2.heap.size]? = some (.cells #[.float .f64 0, .float .f64 0] 24 (0, 0)) := by rw [hW]; exact blk_alloc B6_5 _
          clear hW
          refine hK.out _ _ ⟨(KRight.cell_below T7 lA x0), (KRight.cell_below T7 lA x1), (KRight.cell_below T7 lB y0), (KRight.cell_below T7 lB y1)⟩ (fun hHeld => ?_)
          clear hK K
          refine norm_ (a' := ?_) ?_ ?_
          rotate_left
          · show Act.put _ (some 6) _ = _
            simp only [Act.put, List.setIfInBounds_toArray, List.set_cons_zero, List.set_cons_succ, i64_w, i32_w]
            rfl
          exact norm_ (by simp only [putAll, Act.put, List.setIfInBounds_toArray, List.set_cons_zero, List.set_cons_succ]) (hCont (W2.heap.size, W5.heap.size) _ ⟨T7, B6_7, B7_7, Nat.ne_of_lt (lt_of_blk B6_5), (show w2.heap.size ≤ W2.heap.size from T2.size), (show w2.heap.size ≤ W5.heap.size from T5.size)⟩)
        · skip
          refine value_ (w1 := ?_) (v := ?_) (by rfl) rfl ?_ ?_
          rotate_left 2
          · go_simp
            constructor
            · rfl
            · rfl
          refine letter_ ?_
          intro W7 hW
          have T7 : Below w2.heap.size w2 W7 := by rw [hW]; exact T6.alloc T6.size _
          have B7_7 : W7.heap[W6.heap.size]? = some (.cells #[.float .f64 0, .float .f64 0] 24 (0, 0)) := by rw [hW]; exact heap_alloc_new _ _
          have B6_7 : W7.heap[W2.heap.size]? = some (.cells #[.float .f64 0, .float .f64 0] 24 (0, 0)) := by rw [hW]; exact blk_alloc B6_6 _
          clear hW
          refine hK.out _ _ ⟨(KRight.cell_below T7 lA x0), (KRight.cell_below T7 lA x1), (KRight.cell_below T7 lB y0), (KRight.cell_below T7 lB y1)⟩ (fun hHeld => ?_)
          clear hK K
          refine norm_ (a' := ?_) ?_ ?_
          rotate_left
          · show Act.put _ (some 6) _ = _
            simp only [Act.put, List.setIfInBounds_toArray, List.set_cons_zero, List.set_cons_succ, i64_w, i32_w]
            rfl
          refine one_ (i := 5) (N := some 12) #[true, true, true, true, true, true, true, true, false, false] rfl rfl (by kernel_rfl) (by decide) (fun K hK => ?_)
          refine goes_ Try.func17 (by kernel_rfl) rfl #[.agg #[.float .f64 b0, .float .f64 b1], .agg #[.float .f64 a0, .float .f64 a1]] (by rfl) rfl rfl (by simp only [List.map_toArray, List.map_cons, List.map_nil]; rfl) ?_
          with_reducible refine (c2.out _).mono ?_
          rintro e W5 ⟨rfl, hb⟩
          refine ⟨_, rfl, ?_⟩
          have T5 := below_step T7 hb
          have B6_5 := (hb.block _ (lt_of_blk B6_7)).trans B6_7
          have B7_5 := (hb.block _ (lt_of_blk B7_7)).trans B7_7
          clear hb
          refine hK.out _ _ ⟨(KRight.cell_below T5 lA x0), (KRight.cell_below T5 lA x1), (KRight.cell_below T5 lB y0), (KRight.cell_below T5 lB y1)⟩ (fun hHeld => ?_)
          clear hK K
          refine norm_ (a' := ?_) ?_ ?_
          rotate_left
          · show Act.put _ (some 12) _ = _
            simp only [Act.put, List.setIfInBounds_toArray, List.set_cons_zero, List.set_cons_succ, i64_w, i32_w]
            rfl
          exact norm_ (by simp only [putAll, Act.put, List.setIfInBounds_toArray, List.set_cons_zero, List.set_cons_succ]) (hCont (W2.heap.size, W6.heap.size) _ ⟨T5, B6_5, B7_5, Nat.ne_of_lt (lt_of_blk B6_6), (show w2.heap.size ≤ W2.heap.size from T2.size), (show w2.heap.size ≤ W6.heap.size from T6.size)⟩)
      · skip
        refine value_ (w1 := ?_) (v := ?_) (by rfl) rfl ?_ ?_
        rotate_left 2
        · go_simp
          constructor
          · rfl
          · rfl
        refine letter_ ?_
        intro W7 hW
        have T7 : Below w2.heap.size w2 W7 := by rw [hW]; exact T2.alloc T2.size _
        have B7_7 : W7.heap[W2.heap.size]? = some (.cells #[.float .f64 0, .float .f64 0] 24 (0, 0)) := by rw [hW]; exact heap_alloc_new _ _
        clear hW
        refine hK.out _ _ ⟨(KRight.cell_below T7 lA x0), (KRight.cell_below T7 lA x1), (KRight.cell_below T7 lB y0), (KRight.cell_below T7 lB y1)⟩ (fun hHeld => ?_)
        clear hK K
        refine norm_ (a' := ?_) ?_ ?_
        rotate_left
        · show Act.put _ (some 6) _ = _
          simp only [Act.put, List.setIfInBounds_toArray, List.set_cons_zero, List.set_cons_succ, i64_w, i32_w]
          rfl
        refine two_ (i := 5) (j := 6) (Ni := some 12) (Nj := some 5) #[true, true, true, true, true, true, false, true, false, false] #[true, true, true, true, true, false, true, true, false, false] rfl rfl rfl rfl (by kernel_rfl) (by decide) (by decide) (fun K hK => ?_) (fun K hK => ?_)
        · skip
          refine goes_ Try.func17 (by kernel_rfl) rfl #[.agg #[.float .f64 b0, .float .f64 b1], .agg #[.float .f64 a0, .float .f64 a1]] (by rfl) rfl rfl (by simp only [List.map_toArray, List.map_cons, List.map_nil]; rfl) ?_
          with_reducible refine (c2.out _).mono ?_
          rintro e W5 ⟨rfl, hb⟩
          refine ⟨_, rfl, ?_⟩
          have T5 := below_step T7 hb
          have B7_5 := (hb.block _ (lt_of_blk B7_7)).trans B7_7
          clear hb
          refine hK.out _ _ ⟨(KRight.cell_below T5 lA x0), (KRight.cell_below T5 lA x1), (KRight.cell_below T5 lB y0), (KRight.cell_below T5 lB y1)⟩ (fun hHeld => ?_)
          clear hK K
          refine norm_ (a' := ?_) ?_ ?_
          rotate_left
          · show Act.put _ (some 12) _ = _
            simp only [Act.put, List.setIfInBounds_toArray, List.set_cons_zero, List.set_cons_succ, i64_w, i32_w]
            rfl
          refine one_ (i := 6) (N := some 5) #[true, true, true, true, true, true, true, true, false, false] rfl rfl (by kernel_rfl) (by decide) (fun K hK => ?_)
          refine value_ (w1 := ?_) (v := ?_) (by rfl) rfl ?_ ?_
          rotate_left 2
          · go_simp
            constructor
            · rfl
            · rfl
          refine letter_ ?_
          intro W6 hW
          have T6 : Below w2.heap.size w2 W6 := by rw [hW]; exact T5.alloc T5.size _
          have B6_6 : W6.heap[W5.heap.size]? = some (.cells #[.float .f64 0, .float .f64 0] 24 (0, 0)) := by rw [hW]; exact heap_alloc_new _ _
          have B7_6 : W6.heap[W2.heap.size]? = some (.cells #[.float .f64 0, .float .f64 0] 24 (0, 0)) := by rw [hW]; exact blk_alloc B7_5 _
          clear hW
          refine hK.out _ _ ⟨(KRight.cell_below T6 lA x0), (KRight.cell_below T6 lA x1), (KRight.cell_below T6 lB y0), (KRight.cell_below T6 lB y1)⟩ (fun hHeld => ?_)
          clear hK K
          refine norm_ (a' := ?_) ?_ ?_
          rotate_left
          · show Act.put _ (some 5) _ = _
            simp only [Act.put, List.setIfInBounds_toArray, List.set_cons_zero, List.set_cons_succ, i64_w, i32_w]
            rfl
          exact norm_ (by simp only [putAll, Act.put, List.setIfInBounds_toArray, List.set_cons_zero, List.set_cons_succ]) (hCont (W5.heap.size, W2.heap.size) _ ⟨T6, B6_6, B7_6, Nat.ne_of_gt (lt_of_blk B7_5), (show w2.heap.size ≤ W5.heap.size from T5.size), (show w2.heap.size ≤ W2.heap.size from T2.size)⟩)
        · skip
          refine value_ (w1 := ?_) (v := ?_) (by rfl) rfl ?_ ?_
          rotate_left 2
          · go_simp
            constructor
            · rfl
            · rfl
          refine letter_ ?_
          intro W6 hW
          have T6 : Below w2.heap.size w2 W6 := by rw [hW]; exact T7.alloc T7.size _
          have B6_6 : W6.heap[W7.heap.size]? = some (.cells #[.float .f64 0, .float .f64 0] 24 (0, 0)) := by rw [hW]; exact heap_alloc_new _ _
          have B7_6 : W6.heap[W2.heap.size]? = some (.cells #[.float .f64 0, .float .f64 0] 24 (0, 0)) := by rw [hW]; exact blk_alloc B7_7 _
          clear hW
          refine hK.out _ _ ⟨(KRight.cell_below T6 lA x0), (KRight.cell_below T6 lA x1), (KRight.cell_below T6 lB y0), (KRight.cell_below T6 lB y1)⟩ (fun hHeld => ?_)
          clear hK K
          refine norm_ (a' := ?_) ?_ ?_
          rotate_left
          · show Act.put _ (some 5) _ = _
            simp only [Act.put, List.setIfInBounds_toArray, List.set_cons_zero, List.set_cons_succ, i64_w, i32_w]
            rfl
          refine one_ (i := 5) (N := some 12) #[true, true, true, true, true, true, true, true, false, false] rfl rfl (by kernel_rfl) (by decide) (fun K hK => ?_)
          refine goes_ Try.func17 (by kernel_rfl) rfl #[.agg #[.float .f64 b0, .float .f64 b1], .agg #[.float .f64 a0, .float .f64 a1]] (by rfl) rfl rfl (by simp only [List.map_toArray, List.map_cons, List.map_nil]; rfl) ?_
          with_reducible refine (c2.out _).mono ?_
          rintro e W5 ⟨rfl, hb⟩
          refine ⟨_, rfl, ?_⟩
          have T5 := below_step T6 hb
          have B7_5 := (hb.block _ (lt_of_blk B7_6)).trans B7_6
          have B6_5 := (hb.block _ (lt_of_blk B6_6)).trans B6_6
          clear hb
          refine hK.out _ _ ⟨(KRight.cell_below T5 lA x0), (KRight.cell_below T5 lA x1), (KRight.cell_below T5 lB y0), (KRight.cell_below T5 lB y1)⟩ (fun hHeld => ?_)
          clear hK K
          refine norm_ (a' := ?_) ?_ ?_
          rotate_left
          · show Act.put _ (some 12) _ = _
            simp only [Act.put, List.setIfInBounds_toArray, List.set_cons_zero, List.set_cons_succ, i64_w, i32_w]
            rfl
          exact norm_ (by simp only [putAll, Act.put, List.setIfInBounds_toArray, List.set_cons_zero, List.set_cons_succ]) (hCont (W7.heap.size, W2.heap.size) _ ⟨T5, B6_5, B7_5, Nat.ne_of_gt (lt_of_blk B7_7), (show w2.heap.size ≤ W7.heap.size from T7.size), (show w2.heap.size ≤ W2.heap.size from T2.size)⟩)
    · skip
      refine value_ (w1 := ?_) (v := ?_) (by rfl) rfl ?_ ?_
      rotate_left 2
      · go_simp
        constructor
        · rfl
        · rfl
      refine letter_ ?_
      intro W6 hW
      have T6 : Below w2.heap.size w2 W6 := by rw [hW]; exact T0.alloc T0.size _
      have B6_6 : W6.heap[w2.drew.heap.size]? = some (.cells #[.float .f64 0, .float .f64 0] 24 (0, 0)) := by rw [hW]; exact heap_alloc_new _ _
      clear hW
      refine hK.out _ _ ⟨(KRight.cell_below T6 lA x0), (KRight.cell_below T6 lA x1), (KRight.cell_below T6 lB y0), (KRight.cell_below T6 lB y1)⟩ (fun hHeld => ?_)
      clear hK K
      refine norm_ (a' := ?_) ?_ ?_
      rotate_left
      · show Act.put _ (some 5) _ = _
        simp only [Act.put, List.setIfInBounds_toArray, List.set_cons_zero, List.set_cons_succ, i64_w, i32_w]
        rfl
      refine two_ (i := 2) (j := 7) (Ni := some 9) (Nj := some 6) #[true, true, true, true, true, false, true, false, false, false] #[true, true, false, true, true, false, true, true, false, false] rfl rfl rfl rfl (by kernel_rfl) (by decide) (by decide) (fun K hK => ?_) (fun K hK => ?_)
      · skip
        refine goes_ Try.func17 (by kernel_rfl) rfl #[.agg #[.float .f64 a0, .float .f64 a1], .agg #[.float .f64 b0, .float .f64 b1]] (by rfl) rfl rfl (by simp only [List.map_toArray, List.map_cons, List.map_nil]; rfl) ?_
        with_reducible refine (c1.out _).mono ?_
        rintro e W2 ⟨rfl, hb⟩
        refine ⟨_, rfl, ?_⟩
        have T2 := below_step T6 hb
        have B6_2 := (hb.block _ (lt_of_blk B6_6)).trans B6_6
        clear hb
        refine hK.out _ _ ⟨(KRight.cell_below T2 lA x0), (KRight.cell_below T2 lA x1), (KRight.cell_below T2 lB y0), (KRight.cell_below T2 lB y1)⟩ (fun hHeld => ?_)
        clear hK K
        refine norm_ (a' := ?_) ?_ ?_
        rotate_left
        · show Act.put _ (some 9) _ = _
          simp only [Act.put, List.setIfInBounds_toArray, List.set_cons_zero, List.set_cons_succ, i64_w, i32_w]
          rfl
        refine two_ (i := 5) (j := 7) (Ni := some 12) (Nj := some 6) #[true, true, true, true, true, true, true, false, false, false] #[true, true, true, true, true, false, true, true, false, false] rfl rfl rfl rfl (by kernel_rfl) (by decide) (by decide) (fun K hK => ?_) (fun K hK => ?_)
        · skip
          refine goes_ Try.func17 (by kernel_rfl) rfl #[.agg #[.float .f64 b0, .float .f64 b1], .agg #[.float .f64 a0, .float .f64 a1]] (by rfl) rfl rfl (by simp only [List.map_toArray, List.map_cons, List.map_nil]; rfl) ?_
          with_reducible refine (c2.out _).mono ?_
          rintro e W5 ⟨rfl, hb⟩
          refine ⟨_, rfl, ?_⟩
          have T5 := below_step T2 hb
          have B6_5 := (hb.block _ (lt_of_blk B6_2)).trans B6_2
          clear hb
          refine hK.out _ _ ⟨(KRight.cell_below T5 lA x0), (KRight.cell_below T5 lA x1), (KRight.cell_below T5 lB y0), (KRight.cell_below T5 lB y1)⟩ (fun hHeld => ?_)
          clear hK K
          refine norm_ (a' := ?_) ?_ ?_
          rotate_left
          · show Act.put _ (some 12) _ = _
            simp only [Act.put, List.setIfInBounds_toArray, List.set_cons_zero, List.set_cons_succ, i64_w, i32_w]
            rfl
          refine one_ (i := 7) (N := some 6) #[true, true, true, true, true, true, true, true, false, false] rfl rfl (by kernel_rfl) (by decide) (fun K hK => ?_)
          refine value_ (w1 := ?_) (v := ?_) (by rfl) rfl ?_ ?_
          rotate_left 2
          · go_simp
            constructor
            · rfl
            · rfl
          refine letter_ ?_
          intro W7 hW
          have T7 : Below w2.heap.size w2 W7 := by rw [hW]; exact T5.alloc T5.size _
          have B7_7 : W7.heap[W5.heap.size]? = some (.cells #[.float .f64 0, .float .f64 0] 24 (0, 0)) := by rw [hW]; exact heap_alloc_new _ _
          have B6_7 : W7.heap[w2.heap.size]? = some (.cells #[.float .f64 0, .float .f64 0] 24 (0, 0)) := by rw [hW]; exact blk_alloc B6_5 _
          clear hW
          refine hK.out _ _ ⟨(KRight.cell_below T7 lA x0), (KRight.cell_below T7 lA x1), (KRight.cell_below T7 lB y0), (KRight.cell_below T7 lB y1)⟩ (fun hHeld => ?_)
          clear hK K
          refine norm_ (a' := ?_) ?_ ?_
          rotate_left
          · show Act.put _ (some 6) _ = _
            simp only [Act.put, List.setIfInBounds_toArray, List.set_cons_zero, List.set_cons_succ, i64_w, i32_w]
            rfl
          exact norm_ (by simp only [putAll, Act.put, List.setIfInBounds_toArray, List.set_cons_zero, List.set_cons_succ]) (hCont (w2.heap.size, W5.heap.size) _ ⟨T7, B6_7, B7_7, Nat.ne_of_lt (lt_of_blk B6_5), (show w2.heap.size ≤ w2.heap.size from T0.size), (show w2.heap.size ≤ W5.heap.size from T5.size)⟩)
        · skip
          refine value_ (w1 := ?_) (v := ?_) (by rfl) rfl ?_ ?_
          rotate_left 2
          · go_simp
            constructor
            · rfl
            · rfl
          refine letter_ ?_
          intro W7 hW
          have T7 : Below w2.heap.size w2 W7 := by rw [hW]; exact T2.alloc T2.size _
          have B7_7 : W7.heap[W2.heap.size]? = some (.cells #[.float .f64 0, .float .f64 0] 24 (0, 0)) := by rw [hW]; exact heap_alloc_new _ _
          have B6_7 : W7.heap[w2.heap.size]? = some (.cells #[.float .f64 0, .float .f64 0] 24 (0, 0)) := by rw [hW]; exact blk_alloc B6_2 _
          clear hW
          refine hK.out _ _ ⟨(KRight.cell_below T7 lA x0), (KRight.cell_below T7 lA x1), (KRight.cell_below T7 lB y0), (KRight.cell_below T7 lB y1)⟩ (fun hHeld => ?_)
          clear hK K
          refine norm_ (a' := ?_) ?_ ?_
          rotate_left
          · show Act.put _ (some 6) _ = _
            simp only [Act.put, List.setIfInBounds_toArray, List.set_cons_zero, List.set_cons_succ, i64_w, i32_w]
            rfl
          refine one_ (i := 5) (N := some 12) #[true, true, true, true, true, true, true, true, false, false] rfl rfl (by kernel_rfl) (by decide) (fun K hK => ?_)
          refine goes_ Try.func17 (by kernel_rfl) rfl #[.agg #[.float .f64 b0, .float .f64 b1], .agg #[.float .f64 a0, .float .f64 a1]] (by rfl) rfl rfl (by simp only [List.map_toArray, List.map_cons, List.map_nil]; rfl) ?_
          with_reducible refine (c2.out _).mono ?_
          rintro e W5 ⟨rfl, hb⟩
          refine ⟨_, rfl, ?_⟩
          have T5 := below_step T7 hb
          have B6_5 := (hb.block _ (lt_of_blk B6_7)).trans B6_7
          have B7_5 := (hb.block _ (lt_of_blk B7_7)).trans B7_7
          clear hb
          refine hK.out _ _ ⟨(KRight.cell_below T5 lA x0), (KRight.cell_below T5 lA x1), (KRight.cell_below T5 lB y0), (KRight.cell_below T5 lB y1)⟩ (fun hHeld => ?_)
          clear hK K
          refine norm_ (a' := ?_) ?_ ?_
          rotate_left
          · show Act.put _ (some 12) _ = _
            simp only [Act.put, List.setIfInBounds_toArray, List.set_cons_zero, List.set_cons_succ, i64_w, i32_w]
            rfl
          exact norm_ (by simp only [putAll, Act.put, List.setIfInBounds_toArray, List.set_cons_zero, List.set_cons_succ]) (hCont (w2.heap.size, W2.heap.size) _ ⟨T5, B6_5, B7_5, Nat.ne_of_lt (lt_of_blk B6_2), (show w2.heap.size ≤ w2.heap.size from T0.size), (show w2.heap.size ≤ W2.heap.size from T2.size)⟩)
      · skip
        refine value_ (w1 := ?_) (v := ?_) (by rfl) rfl ?_ ?_
        rotate_left 2
        · go_simp
          constructor
          · rfl
          · rfl
        refine letter_ ?_
        intro W7 hW
        have T7 : Below w2.heap.size w2 W7 := by rw [hW]; exact T6.alloc T6.size _
        have B7_7 : W7.heap[W6.heap.size]? = some (.cells #[.float .f64 0, .float .f64 0] 24 (0, 0)) := by rw [hW]; exact heap_alloc_new _ _
        have B6_7 : W7.heap[w2.heap.size]? = some (.cells #[.float .f64 0, .float .f64 0] 24 (0, 0)) := by rw [hW]; exact blk_alloc B6_6 _
        clear hW
        refine hK.out _ _ ⟨(KRight.cell_below T7 lA x0), (KRight.cell_below T7 lA x1), (KRight.cell_below T7 lB y0), (KRight.cell_below T7 lB y1)⟩ (fun hHeld => ?_)
        clear hK K
        refine norm_ (a' := ?_) ?_ ?_
        rotate_left
        · show Act.put _ (some 6) _ = _
          simp only [Act.put, List.setIfInBounds_toArray, List.set_cons_zero, List.set_cons_succ, i64_w, i32_w]
          rfl
        refine one_ (i := 2) (N := some 9) #[true, true, true, true, true, false, true, true, false, false] rfl rfl (by kernel_rfl) (by decide) (fun K hK => ?_)
        refine goes_ Try.func17 (by kernel_rfl) rfl #[.agg #[.float .f64 a0, .float .f64 a1], .agg #[.float .f64 b0, .float .f64 b1]] (by rfl) rfl rfl (by simp only [List.map_toArray, List.map_cons, List.map_nil]; rfl) ?_
        with_reducible refine (c1.out _).mono ?_
        rintro e W2 ⟨rfl, hb⟩
        refine ⟨_, rfl, ?_⟩
        have T2 := below_step T7 hb
        have B6_2 := (hb.block _ (lt_of_blk B6_7)).trans B6_7
        have B7_2 := (hb.block _ (lt_of_blk B7_7)).trans B7_7
        clear hb
        refine hK.out _ _ ⟨(KRight.cell_below T2 lA x0), (KRight.cell_below T2 lA x1), (KRight.cell_below T2 lB y0), (KRight.cell_below T2 lB y1)⟩ (fun hHeld => ?_)
        clear hK K
        refine norm_ (a' := ?_) ?_ ?_
        rotate_left
        · show Act.put _ (some 9) _ = _
          simp only [Act.put, List.setIfInBounds_toArray, List.set_cons_zero, List.set_cons_succ, i64_w, i32_w]
          rfl
        refine one_ (i := 5) (N := some 12) #[true, true, true, true, true, true, true, true, false, false] rfl rfl (by kernel_rfl) (by decide) (fun K hK => ?_)
        refine goes_ Try.func17 (by kernel_rfl) rfl #[.agg #[.float .f64 b0, .float .f64 b1], .agg #[.float .f64 a0, .float .f64 a1]] (by rfl) rfl rfl (by simp only [List.map_toArray, List.map_cons, List.map_nil]; rfl) ?_
        with_reducible refine (c2.out _).mono ?_
        rintro e W5 ⟨rfl, hb⟩
        refine ⟨_, rfl, ?_⟩
        have T5 := below_step T2 hb
        have B6_5 := (hb.block _ (lt_of_blk B6_2)).trans B6_2
        have B7_5 := (hb.block _ (lt_of_blk B7_2)).trans B7_2
        clear hb
        refine hK.out _ _ ⟨(KRight.cell_below T5 lA x0), (KRight.cell_below T5 lA x1), (KRight.cell_below T5 lB y0), (KRight.cell_below T5 lB y1)⟩ (fun hHeld => ?_)
        clear hK K
        refine norm_ (a' := ?_) ?_ ?_
        rotate_left
        · show Act.put _ (some 12) _ = _
          simp only [Act.put, List.setIfInBounds_toArray, List.set_cons_zero, List.set_cons_succ, i64_w, i32_w]
          rfl
        exact norm_ (by simp only [putAll, Act.put, List.setIfInBounds_toArray, List.set_cons_zero, List.set_cons_succ]) (hCont (w2.heap.size, W6.heap.size) _ ⟨T5, B6_5, B7_5, Nat.ne_of_lt (lt_of_blk B6_6), (show w2.heap.size ≤ w2.heap.size from T0.size), (show w2.heap.size ≤ W6.heap.size from T6.size)⟩)
    · skip
      refine value_ (w1 := ?_) (v := ?_) (by rfl) rfl ?_ ?_
      rotate_left 2
      · go_simp
        constructor
        · rfl
        · rfl
      refine letter_ ?_
      intro W7 hW
      have T7 : Below w2.heap.size w2 W7 := by rw [hW]; exact T0.alloc T0.size _
      have B7_7 : W7.heap[w2.drew.heap.size]? = some (.cells #[.float .f64 0, .float .f64 0] 24 (0, 0)) := by rw [hW]; exact heap_alloc_new _ _
      clear hW
      refine hK.out _ _ ⟨(KRight.cell_below T7 lA x0), (KRight.cell_below T7 lA x1), (KRight.cell_below T7 lB y0), (KRight.cell_below T7 lB y1)⟩ (fun hHeld => ?_)
      clear hK K
      refine norm_ (a' := ?_) ?_ ?_
      rotate_left
      · show Act.put _ (some 6) _ = _
        simp only [Act.put, List.setIfInBounds_toArray, List.set_cons_zero, List.set_cons_succ, i64_w, i32_w]
        rfl
      refine two_ (i := 2) (j := 6) (Ni := some 9) (Nj := some 5) #[true, true, true, true, true, false, false, true, false, false] #[true, true, false, true, true, false, true, true, false, false] rfl rfl rfl rfl (by kernel_rfl) (by decide) (by decide) (fun K hK => ?_) (fun K hK => ?_)
      · skip
        refine goes_ Try.func17 (by kernel_rfl) rfl #[.agg #[.float .f64 a0, .float .f64 a1], .agg #[.float .f64 b0, .float .f64 b1]] (by rfl) rfl rfl (by simp only [List.map_toArray, List.map_cons, List.map_nil]; rfl) ?_
        with_reducible refine (c1.out _).mono ?_
        rintro e W2 ⟨rfl, hb⟩
        refine ⟨_, rfl, ?_⟩
        have T2 := below_step T7 hb
        have B7_2 := (hb.block _ (lt_of_blk B7_7)).trans B7_7
        clear hb
        refine hK.out _ _ ⟨(KRight.cell_below T2 lA x0), (KRight.cell_below T2 lA x1), (KRight.cell_below T2 lB y0), (KRight.cell_below T2 lB y1)⟩ (fun hHeld => ?_)
        clear hK K
        refine norm_ (a' := ?_) ?_ ?_
        rotate_left
        · show Act.put _ (some 9) _ = _
          simp only [Act.put, List.setIfInBounds_toArray, List.set_cons_zero, List.set_cons_succ, i64_w, i32_w]
          rfl
        refine two_ (i := 5) (j := 6) (Ni := some 12) (Nj := some 5) #[true, true, true, true, true, true, false, true, false, false] #[true, true, true, true, true, false, true, true, false, false] rfl rfl rfl rfl (by kernel_rfl) (by decide) (by decide) (fun K hK => ?_) (fun K hK => ?_)
        · skip
          refine goes_ Try.func17 (by kernel_rfl) rfl #[.agg #[.float .f64 b0, .float .f64 b1], .agg #[.float .f64 a0, .float .f64 a1]] (by rfl) rfl rfl (by simp only [List.map_toArray, List.map_cons, List.map_nil]; rfl) ?_
          with_reducible refine (c2.out _).mono ?_
          rintro e W5 ⟨rfl, hb⟩
          refine ⟨_, rfl, ?_⟩
          have T5 := below_step T2 hb
          have B7_5 := (hb.block _ (lt_of_blk B7_2)).trans B7_2
          clear hb
          refine hK.out _ _ ⟨(KRight.cell_below T5 lA x0), (KRight.cell_below T5 lA x1), (KRight.cell_below T5 lB y0), (KRight.cell_below T5 lB y1)⟩ (fun hHeld => ?_)
          clear hK K
          refine norm_ (a' := ?_) ?_ ?_
          rotate_left
          · show Act.put _ (some 12) _ = _
            simp only [Act.put, List.setIfInBounds_toArray, List.set_cons_zero, List.set_cons_succ, i64_w, i32_w]
            rfl
          refine one_ (i := 6) (N := some 5) #[true, true, true, true, true, true, true, true, false, false] rfl rfl (by kernel_rfl) (by decide) (fun K hK => ?_)
          refine value_ (w1 := ?_) (v := ?_) (by rfl) rfl ?_ ?_
          rotate_left 2
          · go_simp
            constructor
            · rfl
            · rfl
          refine letter_ ?_
          intro W6 hW
          have T6 : Below w2.heap.size w2 W6 := by rw [hW]; exact T5.alloc T5.size _
          have B6_6 : W6.heap[W5.heap.size]? = some (.cells #[.float .f64 0, .float .f64 0] 24 (0, 0)) := by rw [hW]; exact heap_alloc_new _ _
          have B7_6 : W6.heap[w2.heap.size]? = some (.cells #[.float .f64 0, .float .f64 0] 24 (0, 0)) := by rw [hW]; exact blk_alloc B7_5 _
          clear hW
          refine hK.out _ _ ⟨(KRight.cell_below T6 lA x0), (KRight.cell_below T6 lA x1), (KRight.cell_below T6 lB y0), (KRight.cell_below T6 lB y1)⟩ (fun hHeld => ?_)
          clear hK K
          refine norm_ (a' := ?_) ?_ ?_
          rotate_left
          · show Act.put _ (some 5) _ = _
            simp only [Act.put, List.setIfInBounds_toArray, List.set_cons_zero, List.set_cons_succ, i64_w, i32_w]
            rfl
          exact norm_ (by simp only [putAll, Act.put, List.setIfInBounds_toArray, List.set_cons_zero, List.set_cons_succ]) (hCont (W5.heap.size, w2.heap.size) _ ⟨T6, B6_6, B7_6, Nat.ne_of_gt (lt_of_blk B7_5), (show w2.heap.size ≤ W5.heap.size from T5.size), (show w2.heap.size ≤ w2.heap.size from T0.size)⟩)
        · skip
          refine value_ (w1 := ?_) (v := ?_) (by rfl) rfl ?_ ?_
          rotate_left 2
          · go_simp
            constructor
            · rfl
            · rfl
          refine letter_ ?_
          intro W6 hW
          have T6 : Below w2.heap.size w2 W6 := by rw [hW]; exact T2.alloc T2.size _
          have B6_6 : W6.heap[W2.heap.size]? = some (.cells #[.float .f64 0, .float .f64 0] 24 (0, 0)) := by rw [hW]; exact heap_alloc_new _ _
          have B7_6 : W6.heap[w2.heap.size]? = some (.cells #[.float .f64 0, .float .f64 0] 24 (0, 0)) := by rw [hW]; exact blk_alloc B7_2 _
          clear hW
          refine hK.out _ _ ⟨(KRight.cell_below T6 lA x0), (KRight.cell_below T6 lA x1), (KRight.cell_below T6 lB y0), (KRight.cell_below T6 lB y1)⟩ (fun hHeld => ?_)
          clear hK K
          refine norm_ (a' := ?_) ?_ ?_
          rotate_left
          · show Act.put _ (some 5) _ = _
            simp only [Act.put, List.setIfInBounds_toArray, List.set_cons_zero, List.set_cons_succ, i64_w, i32_w]
            rfl
          refine one_ (i := 5) (N := some 12) #[true, true, true, true, true, true, true, true, false, false] rfl rfl (by kernel_rfl) (by decide) (fun K hK => ?_)
          refine goes_ Try.func17 (by kernel_rfl) rfl #[.agg #[.float .f64 b0, .float .f64 b1], .agg #[.float .f64 a0, .float .f64 a1]] (by rfl) rfl rfl (by simp only [List.map_toArray, List.map_cons, List.map_nil]; rfl) ?_
          with_reducible refine (c2.out _).mono ?_
          rintro e W5 ⟨rfl, hb⟩
          refine ⟨_, rfl, ?_⟩
          have T5 := below_step T6 hb
          have B7_5 := (hb.block _ (lt_of_blk B7_6)).trans B7_6
          have B6_5 := (hb.block _ (lt_of_blk B6_6)).trans B6_6
          clear hb
          refine hK.out _ _ ⟨(KRight.cell_below T5 lA x0), (KRight.cell_below T5 lA x1), (KRight.cell_below T5 lB y0), (KRight.cell_below T5 lB y1)⟩ (fun hHeld => ?_)
          clear hK K
          refine norm_ (a' := ?_) ?_ ?_
          rotate_left
          · show Act.put _ (some 12) _ = _
            simp only [Act.put, List.setIfInBounds_toArray, List.set_cons_zero, List.set_cons_succ, i64_w, i32_w]
            rfl
          exact norm_ (by simp only [putAll, Act.put, List.setIfInBounds_toArray, List.set_cons_zero, List.set_cons_succ]) (hCont (W2.heap.size, w2.heap.size) _ ⟨T5, B6_5, B7_5, Nat.ne_of_gt (lt_of_blk B7_2), (show w2.heap.size ≤ W2.heap.size from T2.size), (show w2.heap.size ≤ w2.heap.size from T0.size)⟩)
      · skip
        refine value_ (w1 := ?_) (v := ?_) (by rfl) rfl ?_ ?_
        rotate_left 2
        · go_simp
          constructor
          · rfl
          · rfl
        refine letter_ ?_
        intro W6 hW
        have T6 : Below w2.heap.size w2 W6 := by rw [hW]; exact T7.alloc T7.size _
        have B6_6 : W6.heap[W7.heap.size]? = some (.cells #[.float .f64 0, .float .f64 0] 24 (0, 0)) := by rw [hW]; exact heap_alloc_new _ _
        have B7_6 : W6.heap[w2.heap.size]? = some (.cells #[.float .f64 0, .float .f64 0] 24 (0, 0)) := by rw [hW]; exact blk_alloc B7_7 _
        clear hW
        refine hK.out _ _ ⟨(KRight.cell_below T6 lA x0), (KRight.cell_below T6 lA x1), (KRight.cell_below T6 lB y0), (KRight.cell_below T6 lB y1)⟩ (fun hHeld => ?_)
        clear hK K
        refine norm_ (a' := ?_) ?_ ?_
        rotate_left
        · show Act.put _ (some 5) _ = _
          simp only [Act.put, List.setIfInBounds_toArray, List.set_cons_zero, List.set_cons_succ, i64_w, i32_w]
          rfl
        refine one_ (i := 2) (N := some 9) #[true, true, true, true, true, false, true, true, false, false] rfl rfl (by kernel_rfl) (by decide) (fun K hK => ?_)
        refine goes_ Try.func17 (by kernel_rfl) rfl #[.agg #[.float .f64 a0, .float .f64 a1], .agg #[.float .f64 b0, .float .f64 b1]] (by rfl) rfl rfl (by simp only [List.map_toArray, List.map_cons, List.map_nil]; rfl) ?_
        with_reducible refine (c1.out _).mono ?_
        rintro e W2 ⟨rfl, hb⟩
        refine ⟨_, rfl, ?_⟩
        have T2 := below_step T6 hb
        have B7_2 := (hb.block _ (lt_of_blk B7_6)).trans B7_6
        have B6_2 := (hb.block _ (lt_of_blk B6_6)).trans B6_6
        clear hb
        refine hK.out _ _ ⟨(KRight.cell_below T2 lA x0), (KRight.cell_below T2 lA x1), (KRight.cell_below T2 lB y0), (KRight.cell_below T2 lB y1)⟩ (fun hHeld => ?_)
        clear hK K
        refine norm_ (a' := ?_) ?_ ?_
        rotate_left
        · show Act.put _ (some 9) _ = _
          simp only [Act.put, List.setIfInBounds_toArray, List.set_cons_zero, List.set_cons_succ, i64_w, i32_w]
          rfl
        refine one_ (i := 5) (N := some 12) #[true, true, true, true, true, true, true, true, false, false] rfl rfl (by kernel_rfl) (by decide) (fun K hK => ?_)
        refine goes_ Try.func17 (by kernel_rfl) rfl #[.agg #[.float .f64 b0, .float .f64 b1], .agg #[.float .f64 a0, .float .f64 a1]] (by rfl) rfl rfl (by simp only [List.map_toArray, List.map_cons, List.map_nil]; rfl) ?_
        with_reducible refine (c2.out _).mono ?_
        rintro e W5 ⟨rfl, hb⟩
        refine ⟨_, rfl, ?_⟩
        have T5 := below_step T2 hb
        have B7_5 := (hb.block _ (lt_of_blk B7_2)).trans B7_2
        have B6_5 := (hb.block _ (lt_of_blk B6_2)).trans B6_2
        clear hb
        refine hK.out _ _ ⟨(KRight.cell_below T5 lA x0), (KRight.cell_below T5 lA x1), (KRight.cell_below T5 lB y0), (KRight.cell_below T5 lB y1)⟩ (fun hHeld => ?_)
        clear hK K
        refine norm_ (a' := ?_) ?_ ?_
        rotate_left
        · show Act.put _ (some 12) _ = _
          simp only [Act.put, List.setIfInBounds_toArray, List.set_cons_zero, List.set_cons_succ, i64_w, i32_w]
          rfl
        exact norm_ (by simp only [putAll, Act.put, List.setIfInBounds_toArray, List.set_cons_zero, List.set_cons_succ]) (hCont (W7.heap.size, w2.heap.size) _ ⟨T5, B6_5, B7_5, Nat.ne_of_gt (lt_of_blk B7_7), (show w2.heap.size ≤ W7.heap.size from T7.size), (show w2.heap.size ≤ w2.heap.size from T0.size)⟩)
  rintro ⟨p5, p6⟩ W ⟨TW, d5, d6, ne, g5, g6⟩
  have hHeld : True := trivial
  refine norm_ (a' := ?_) ?_ ?_
  rotate_left
  · simp only [putAll, Act.put, List.setIfInBounds_toArray, List.set_cons_zero, List.set_cons_succ]
    rfl
  refine last_ (i := 8) (N := none) #[true, true, true, true, true, true, true, true, true, false] rfl rfl (by kernel_rfl) (by decide) (fun K hK => ?_)
  obtain ⟨z0, z1, z2, z3, z4⟩ := set_two d5 (.float .f64 l0) (.float .f64 l1)
  refine skip_ (w1 := ?_) (by rfl) rfl ?_ ?_
  rotate_left
  · go_simp
    rfl
  refine letter_ ?_
  intro W8 hW8
  have d7 : W8.heap[p6]? = some (.cells #[.float .f64 0, .float .f64 0] 24 (0, 0)) := by rw [hW8]; exact set_other (set_other d6 (Ne.symm ne)) (Ne.symm ne)
  have d8 : W8.heap[p5]? = some (.cells #[.float .f64 l0, .float .f64 l1] 24 (0, 0)) := by rw [hW8]; exact z4
  have T8 : Below w2.heap.size w2 W8 := by rw [hW8]; exact below_set (below_set TW g5 _) g5 _
  clear hW8 z0 z1 z2 z3 z4
  obtain ⟨z0, z1, z2, z3, z4⟩ := set_two d7 (.float .f64 k0) (.float .f64 k1)
  refine hK.out _ _ ?_
  clear hK K
  refine last_ (i := 9) (N := none) #[true, true, true, true, true, true, true, true, true, true] rfl rfl (by kernel_rfl) (by decide) (fun K hK => ?_)
  refine skip_ (w1 := ?_) (by rfl) rfl ?_ ?_
  rotate_left
  · go_simp
    rfl
  refine letter_ ?_
  intro W9 hW9
  have d9 : W9.heap[p5]? = some (.cells #[.float .f64 l0, .float .f64 l1] 24 (0, 0)) := by rw [hW9]; exact set_other (set_other d8 ne) ne
  have d10 : W9.heap[p6]? = some (.cells #[.float .f64 k0, .float .f64 k1] 24 (0, 0)) := by rw [hW9]; exact z4
  have T9 : Below w2.heap.size w2 W9 := by rw [hW9]; exact below_set (below_set T8 g6 _) g6 _
  clear hW9 z0 z1 z2 z3 z4
  refine hK.out _ _ ?_
  clear hK K
  refine done_ (by kernel_rfl) ?_
  have D5 := Lib.hid d9
  have D6 := Lib.hid d10
  have BA := Lib.hid ((T9.block _ lA).trans BA.out)
  have BB := Lib.hid ((T9.block _ lB).trans BB.out)
  have HB : Hid (Below w.heap.size w W9) := Lib.hid (by have h1 := HB.out; rw [← HQ.out] at h1; exact below_step h1 T9)
  clear d5 d6 d7 d8 d9 d10 T8 T9 TW ne g5 g6 lA lB x0 x1 y0 y1 T0 c1 c2
  have x0 := blk_cell BA.out 0 (.float .f64 a0) rfl
  have x1 := blk_cell BA.out 1 (.float .f64 a1) rfl
  have y0 := blk_cell BB.out 0 (.float .f64 b0) rfl
  have y1 := blk_cell BB.out 1 (.float .f64 b1) rfl
  go_wp2_with fail
  refine (right_is _ _ false ha0 ha1 hRa _).mono ?_
  rintro e w10 ⟨rfl, hb⟩
  have BA := Lib.hid ((hb.block _ (lt_of_blk BA.out)).trans BA.out)
  have BB := Lib.hid ((hb.block _ (lt_of_blk BB.out)).trans BB.out)
  have D5 := Lib.hid ((hb.block _ (lt_of_blk D5.out)).trans D5.out)
  have D6 := Lib.hid ((hb.block _ (lt_of_blk D6.out)).trans D6.out)
  have HB := Lib.hid (below_step HB.out hb)
  clear hb
  clear x0 x1 y0 y1
  have x0 := blk_cell BA.out 0 (.float .f64 a0) rfl
  have x1 := blk_cell BA.out 1 (.float .f64 a1) rfl
  have y0 := blk_cell BB.out 0 (.float .f64 b0) rfl
  have y1 := blk_cell BB.out 1 (.float .f64 b1) rfl
  go_wp2_with fail
  refine (right_is _ _ false ha0 ha1 hRa _).mono ?_
  rintro e w12 ⟨rfl, hb⟩
  have BA := Lib.hid ((hb.block _ (lt_of_blk BA.out)).trans BA.out)
  have BB := Lib.hid ((hb.block _ (lt_of_blk BB.out)).trans BB.out)
  have D5 := Lib.hid ((hb.block _ (lt_of_blk D5.out)).trans D5.out)
  have D6 := Lib.hid ((hb.block _ (lt_of_blk D6.out)).trans D6.out)
  have HB := Lib.hid (below_step HB.out hb)
  clear hb
  clear x0 x1 y0 y1
  have x0 := blk_cell BA.out 0 (.float .f64 a0) rfl
  have x1 := blk_cell BA.out 1 (.float .f64 a1) rfl
  have y0 := blk_cell BB.out 0 (.float .f64 b0) rfl
  have y1 := blk_cell BB.out 1 (.float .f64 b1) rfl
  by_cases hk0 : kd a0 < 3
  · go_wp2_with fail
    refine (kind_calls _ ha0 _).mono ?_
    rintro e w13 ⟨rfl, h⟩
    subst w13
    go_wp2_with (go_at_call 19; (with_reducible refine (fixed_calls _).mono ?_); rintro e w13 ⟨rfl, hB7⟩)
    go_ret
    exact ⟨rfl, below_step HB.out hB7⟩
  · have hk1 : kd a1 < 3 := by have := HK.out; omega
    go_wp2_with fail
    refine (kind_calls _ ha0 _).mono ?_
    rintro e w13 ⟨rfl, h⟩
    subst w13
    go_wp2_with fail
    refine (kind_calls _ ha1 _).mono ?_
    rintro e w13 ⟨rfl, h⟩
    subst w13
    go_wp2_with (go_at_call 19; (with_reducible refine (fixed_calls _).mono ?_); rintro e w13 ⟨rfl, hB7⟩)
    go_ret
    exact ⟨rfl, below_step HB.out hB7⟩
theorem limitLeast_row (a b : Nat × Nat) (w : World) (ha : a.1 < 18446744073709551616 ∧ a.2 < 18446744073709551616) (hb : b.1 < 18446744073709551616 ∧ b.2 < 18446744073709551616) :
    Calls Try.prog 7 #[.agg #[.float .f64 a.1, .float .f64 a.2], .agg #[.float .f64 b.1, .float .f64 b.2]] w fun e w' => e = .returned (.bool true) ∧ Below w.heap.size w w' := by
  cases hRa : rightB a.1 a.2 <;> cases hRb : rightB b.1 b.2
  · exact w00 _ _ _ _ w ha.1 ha.2 hb.1 hb.2 hRa hRb
  · exact w01 _ _ _ _ w ha.1 ha.2 hb.1 hb.2 hRa hRb
  · exact w10 _ _ _ _ w ha.1 ha.2 hb.1 hb.2 hRa hRb
  · exact w11 _ _ _ _ w ha.1 ha.2 hb.1 hb.2 hRa hRb
end Go.Proofs.Ytijnncnglkjpgaa.LLimitLeast
