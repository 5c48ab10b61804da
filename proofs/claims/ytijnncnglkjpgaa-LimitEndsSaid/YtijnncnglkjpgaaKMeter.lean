/- A meter in memory; how it is made. -/
import Derived.Test.YtijnncnglkjpgaaKScale
namespace Go.Proofs.Ytijnncnglkjpgaa.KMeter
open Go.RowKit KFlt KKind KRight KLeast KScale Go.Proofs.YtijnncnglkjpgaaW.PrintWords Go.Proofs.YtijnncnglkjpgaaW.PrintLast Go.Proofs.YtijnncnglkjpgaaW.PrintMore
set_option linter.unusedVariables false
attribute [local go_sem] KKind.run_store_float
set_option linter.unusedSimpArgs false

/-- but for the block m, and new ones, the world is as it was -/
structure Only (m : Nat) (w w' : World) : Prop where
  os : w'.os = w.os
  tape : w'.tape = w.tape
  output : w'.output = w.output
  size : w.heap.size ≤ w'.heap.size
  block : ∀ k, k < w.heap.size → k ≠ m → w'.heap[k]? = w.heap[k]?
theorem Only.refl (m : Nat) (w : World) : Only m w w := ⟨rfl, rfl, rfl, Nat.le_refl _, fun _ _ _ => rfl⟩
theorem Only.trans {m : Nat} {a b c : World} (h : Only m a b) (k : Only m b c) : Only m a c :=
  ⟨k.os.trans h.os, k.tape.trans h.tape, k.output.trans h.output, Nat.le_trans h.size k.size, fun i hi hn => (k.block i (Nat.lt_of_lt_of_le hi h.size) hn).trans (h.block i hi hn)⟩
theorem Only.drew {m : Nat} {a b : World} (h : Only m a b) : Only m a b.drew := ⟨h.os, h.tape, h.output, h.size, h.block⟩
theorem Only.of_below {m : Nat} {w w' : World} (h : Below w.heap.size w w') : Only m w w' := ⟨h.os, h.tape, h.output, h.size, fun k hk _ => h.block k hk⟩
theorem Only.set (w : World) (m i : Nat) (v : Value) : Only m w (w.setCell ⟨m, i, none⟩ v) :=
  ⟨rfl, rfl, rfl, by simp [World.setCell], fun k _ hn => Below.heap_setCell _ _ _ _ (by simpa using hn)⟩
theorem Only.below {m B : Nat} {a b c : World} (h0 : Below B a b) (h : Only m b c) (hm : B ≤ m) (hB : B ≤ b.heap.size) : Below B a c :=
  h0.trans ⟨h.os, h.tape, h.output, h.size, fun k hk => h.block k (by omega) (by omega)⟩
/-- the meter at block m -/
def MHas (T : TypeId) (w : World) (m : Nat) (s r : Nat) (st he pk : Int) : Prop := w.heap[m]? = some (.cells #[.float .f64 s, .float .f64 r, .int .u64 st, .int .u64 he, .int .u64 pk] T (0, 0))
theorem MHas.lt {T : TypeId} {w : World} {m s r : Nat} {st he pk : Int} (h : MHas T w m s r st he pk) : m < w.heap.size := by
  rcases Nat.lt_or_ge m w.heap.size with hl | hl
  · exact hl
  · unfold MHas at h; rw [Array.getElem?_eq_none hl] at h; cases h
theorem MHas.only {T : TypeId} {w w' : World} {m k s r : Nat} {st he pk : Int} (h : MHas T w m s r st he pk) (o : Only k w w') (hk : m ≠ k) : MHas T w' m s r st he pk := (o.block m h.lt hk).trans h
theorem MHas.below {T : TypeId} {w w' : World} {m s r : Nat} {st he pk : Int} (h : MHas T w m s r st he pk) (o : Below w.heap.size w w') : MHas T w' m s r st he pk := (o.block m h.lt).trans h
theorem MHas.drew {T : TypeId} {w : World} {m s r : Nat} {st he pk : Int} (h : MHas T w m s r st he pk) : MHas T w.drew m s r st he pk := h
theorem MHas.set2 {T : TypeId} {w : World} {m s r : Nat} {st he pk : Int} (h : MHas T w m s r st he pk) (v : Int) : MHas T (w.setCell ⟨m, 2, none⟩ (.int .u64 v)) m s r v he pk := set_blk h _
theorem MHas.set3 {T : TypeId} {w : World} {m s r : Nat} {st he pk : Int} (h : MHas T w m s r st he pk) (v : Int) : MHas T (w.setCell ⟨m, 3, none⟩ (.int .u64 v)) m s r st v pk := set_blk h _
theorem MHas.set4 {T : TypeId} {w : World} {m s r : Nat} {st he pk : Int} (h : MHas T w m s r st he pk) (v : Int) : MHas T (w.setCell ⟨m, 4, none⟩ (.int .u64 v)) m s r st he v := set_blk h _
theorem MHas.cells {T : TypeId} {w : World} {m s r : Nat} {st he pk : Int} (h : MHas T w m s r st he pk) :
    w.cell? ⟨m, 0, none⟩ = some (.float .f64 s) ∧ w.cell? ⟨m, 1, none⟩ = some (.float .f64 r) ∧ w.cell? ⟨m, 2, none⟩ = some (.int .u64 st) ∧ w.cell? ⟨m, 3, none⟩ = some (.int .u64 he) ∧ w.cell? ⟨m, 4, none⟩ = some (.int .u64 pk) ∧
    w.frozen? ⟨m, 2, none⟩ = false ∧ w.frozen? ⟨m, 3, none⟩ = false ∧ w.frozen? ⟨m, 4, none⟩ = false :=
  ⟨blk_cell h 0 _ rfl, blk_cell h 1 _ rfl, blk_cell h 2 _ rfl, blk_cell h 3 _ rfl, blk_cell h 4 _ rfl, blk_free h 2, blk_free h 3, blk_free h 4⟩
theorem new_no (s r : Nat) (hs : s < 18446744073709551616) (hr : r < 18446744073709551616) (hR : rightB s r = false) (w : World) : Calls Try.prog 20 #[.agg #[.float .f64 s, .float .f64 r]] w fun e w' => e = .returned (.tuple #[.pointer none, .int .i64 1]) ∧ Below w.heap.size w w' := by
  go_enter Try.func20, Try.ntmps20
  go_wp2_with fail
  refine (right_is s r false hs hr hR _).mono ?_
  rintro e w6 ⟨rfl, hb⟩
  have HB := Lib.hid (below_step ((Below.refl w.heap.size w).alloc (Nat.le_refl _) _) hb)
  clear hb
  go_wp2
  go_ret2
  exact ⟨rfl, HB.out⟩
theorem new_yes (s r : Nat) (hs : s < 18446744073709551616) (hr : r < 18446744073709551616) (hR : rightB s r = true) (w : World) : Calls Try.prog 20 #[.agg #[.float .f64 s, .float .f64 r]] w fun e w' => ∃ m, e = .returned (.tuple #[.pointer (some ⟨m, 0, none⟩), .int .i64 0]) ∧ MHas 71 w' m s r 0 0 0 ∧ w.heap.size ≤ m ∧ Below w.heap.size w w' := by
  go_enter Try.func20, Try.ntmps20
  go_wp2_with fail
  refine (right_is s r true hs hr hR _).mono ?_
  rintro e w6 ⟨rfl, hb⟩
  have HB := Lib.hid (below_step ((Below.refl w.heap.size w).alloc (Nat.le_refl _) _) hb)
  have hO := (hb.block w.heap.size (by simp)).trans (heap_alloc_new w (.cells #[.float .f64 s, .float .f64 r] 24))
  have o0 := blk_cell hO 0 (.float .f64 s) rfl
  have o1 := blk_cell hO 1 (.float .f64 r) rfl
  clear hb hO
  go_wp2
  go_ret2
  exact ⟨w6.heap.size, rfl, heap_alloc_new w6 _, HB.out.size, HB.out.alloc HB.out.size _⟩
theorem refnew_no (s r : Nat) (hs : s < 18446744073709551616) (hr : r < 18446744073709551616) (hR : rightB s r = false) (w : World) : Calls Try.prog 21 #[.agg #[.float .f64 s, .float .f64 r]] w fun e w' => e = .returned (.tuple #[.pointer none, .int .i64 1]) ∧ Below w.heap.size w w' := by
  go_enter Try.func21, Try.ntmps21
  go_wp2_with fail
  refine (refright_is s r false hs hr hR _).mono ?_
  rintro e w6 ⟨rfl, hb⟩
  have HB := Lib.hid (below_step ((Below.refl w.heap.size w).alloc (Nat.le_refl _) _) hb)
  clear hb
  go_wp2
  go_ret2
  exact ⟨rfl, HB.out⟩
theorem refnew_yes (s r : Nat) (hs : s < 18446744073709551616) (hr : r < 18446744073709551616) (hR : rightB s r = true) (w : World) : Calls Try.prog 21 #[.agg #[.float .f64 s, .float .f64 r]] w fun e w' => ∃ m, e = .returned (.tuple #[.pointer (some ⟨m, 0, none⟩), .int .i64 0]) ∧ MHas 53 w' m s r 0 0 0 ∧ w.heap.size ≤ m ∧ Below w.heap.size w w' := by
  go_enter Try.func21, Try.ntmps21
  go_wp2_with fail
  refine (refright_is s r true hs hr hR _).mono ?_
  rintro e w6 ⟨rfl, hb⟩
  have HB := Lib.hid (below_step ((Below.refl w.heap.size w).alloc (Nat.le_refl _) _) hb)
  have hO := (hb.block w.heap.size (by simp)).trans (heap_alloc_new w (.cells #[.float .f64 s, .float .f64 r] 28))
  have o0 := blk_cell hO 0 (.float .f64 s) rfl
  have o1 := blk_cell hO 1 (.float .f64 r) rfl
  clear hb hO
  go_wp2
  go_ret2
  exact ⟨w6.heap.size, rfl, heap_alloc_new w6 _, HB.out.size, HB.out.alloc HB.out.size _⟩
def leB (x y : Nat) : Bool := (FloatKind.f64.format.order x y == some Ordering.lt || FloatKind.f64.format.order x y == some Ordering.eq)
set_option maxHeartbeats 1600000 in
theorem used_calls (m s r : Nat) (st he pk : Int) (w : World) (H : MHas 71 w m s r st he pk) : Calls Try.prog 26 #[.pointer (some ⟨m, 0, none⟩)] w fun e w' => e = .returned (.tuple #[.int .u64 st, .int .u64 pk]) ∧ Below w.heap.size w w' := by
  obtain ⟨c0, c1, c2, c3, c4, f2, f3, f4⟩ := H.cells
  go_enter Try.func26, Try.ntmps26
  go_wp2
  refine start_ (n := 10) (S := fun w' => w'.cell? ⟨m, 2, none⟩ = some (.int .u64 st) ∧ w'.cell? ⟨m, 4, none⟩ = some (.int .u64 pk)) (ds := []) #[false, false, false, false, false, false, false, false, false, false] (by kernel_rfl) rfl rfl ⟨c2, c4⟩ (fun hHeld => ?_)
  refine pure_ (i := 0) (N := some 4) (v := ?_) (a' := ?_) #[true, false, false, false, false, false, false, false, false, false] rfl rfl (by kernel_rfl) (fun _ _ _ h => h) (Or.inl ⟨by rfl, ?_⟩) ?_ ?_
  rotate_left
  · intro w'
    go_simp
    with_reducible rfl
  rotate_left
  · simp only [Act.put, List.setIfInBounds_toArray, List.set_cons_zero, List.set_cons_succ, i64_w, i32_w]
    rfl
  refine pure_ (i := 1) (N := some 5) (v := ?_) (a' := ?_) #[true, true, false, false, false, false, false, false, false, false] rfl rfl (by kernel_rfl) (fun _ _ _ h => h) (Or.inl ⟨by rfl, ?_⟩) ?_ ?_
  rotate_left
  · intro w'
    go_simp
    with_reducible rfl
  rotate_left
  · simp only [Act.put, List.setIfInBounds_toArray, List.set_cons_zero, List.set_cons_succ, i64_w, i32_w]
    rfl
  refine pure_ (i := 2) (N := some 6) (v := ?_) (a' := ?_) #[true, true, true, false, false, false, false, false, false, false] rfl rfl (by kernel_rfl) (fun _ _ _ h => h) (Or.inl ⟨by rfl, ?_⟩) ?_ ?_
  rotate_left
  · intro w'
    go_simp
    with_reducible rfl
  rotate_left
  · simp only [Act.put, List.setIfInBounds_toArray, List.set_cons_zero, List.set_cons_succ, i64_w, i32_w]
    rfl
  refine pure_ (i := 4) (N := some 8) (v := ?_) (a' := ?_) #[true, true, true, false, true, false, false, false, false, false] rfl rfl (by kernel_rfl) (fun _ _ _ h => h) (Or.inl ⟨by rfl, ?_⟩) ?_ ?_
  rotate_left
  · intro w'
    go_simp
    with_reducible rfl
  rotate_left
  · simp only [Act.put, List.setIfInBounds_toArray, List.set_cons_zero, List.set_cons_succ, i64_w, i32_w]
    rfl
  refine pure_ (i := 5) (N := some 9) (v := ?_) (a' := ?_) #[true, true, true, false, true, true, false, false, false, false] rfl rfl (by kernel_rfl) (fun _ _ _ h => h) (Or.inl ⟨by rfl, ?_⟩) ?_ ?_
  rotate_left
  · intro w'
    go_simp
    with_reducible rfl
  rotate_left
  · simp only [Act.put, List.setIfInBounds_toArray, List.set_cons_zero, List.set_cons_succ, i64_w, i32_w]
    rfl
  refine pure_ (i := 6) (N := some 10) (v := ?_) (a' := ?_) #[true, true, true, false, true, true, true, false, false, false] rfl rfl (by kernel_rfl) (fun _ _ _ h => h) (Or.inl ⟨by rfl, ?_⟩) ?_ ?_
  rotate_left
  · intro w'
    go_simp
    with_reducible rfl
  rotate_left
  · simp only [Act.put, List.setIfInBounds_toArray, List.set_cons_zero, List.set_cons_succ, i64_w, i32_w]
    rfl
  refine take_ (i := 3) (N := some 7) (v := ?_) (a' := ?_) #[true, true, true, true, true, true, true, false, false, false] rfl rfl (by kernel_rfl) (fun _ _ _ h => h) (Or.inl ⟨by rfl, ?_⟩) hHeld ?_ ?_
  rotate_left
  · rintro w' ⟨s0, s1⟩
    go_simp
    with_reducible rfl
  rotate_left
  · simp only [Act.put, List.setIfInBounds_toArray, List.set_cons_zero, List.set_cons_succ, i64_w, i32_w]
    rfl
  refine pure_ (i := 8) (N := some 2) (v := ?_) (a' := ?_) #[true, true, true, true, true, true, true, false, true, false] rfl rfl (by kernel_rfl) (fun _ _ _ h => h) (Or.inl ⟨by rfl, ?_⟩) ?_ ?_
  rotate_left
  · intro w'
    go_simp
    with_reducible rfl
  rotate_left
  · simp only [Act.put, List.setIfInBounds_toArray, List.set_cons_zero, List.set_cons_succ, i64_w, i32_w]
    rfl
  refine take_ (i := 7) (N := some 11) (v := ?_) (a' := ?_) #[true, true, true, true, true, true, true, true, true, false] rfl rfl (by kernel_rfl) (fun _ _ _ h => h) (Or.inl ⟨by rfl, ?_⟩) hHeld ?_ ?_
  rotate_left
  · rintro w' ⟨s0, s1⟩
    go_simp
    with_reducible rfl
  rotate_left
  · simp only [Act.put, List.setIfInBounds_toArray, List.set_cons_zero, List.set_cons_succ, i64_w, i32_w]
    rfl
  refine pure_ (i := 9) (N := some 3) (v := ?_) (a' := ?_) #[true, true, true, true, true, true, true, true, true, true] rfl rfl (by kernel_rfl) (fun _ _ _ h => h) (Or.inl ⟨by rfl, ?_⟩) ?_ ?_
  rotate_left
  · intro w'
    go_simp
    with_reducible rfl
  rotate_left
  · simp only [Act.put, List.setIfInBounds_toArray, List.set_cons_zero, List.set_cons_succ, i64_w, i32_w]
    rfl
  refine done_ (by kernel_rfl) ?_
  go_wp2
  go_ret2
  exact ⟨rfl, (Below.refl _ _).drew⟩
theorem more_calls (a n : Int) (w : World) (h0 : 0 ≤ a) (h1 : a ≤ 4611686018427387904) (n0 : 0 ≤ n) (n1 : n < 9223372036854775808) : Calls Try.prog 36 #[.int .u64 a, .int .i64 n] w fun e w' => e = .returned (.int .u64 (min (a + n) 4611686018427387904)) ∧ w' = w := by
  by_cases h : 4611686018427387904 < a + n
  · rw [show min (a + n) 4611686018427387904 = 4611686018427387904 by omega]
    go_enter Try.func36, Try.ntmps36
    go_wp2
    go_ret
    exact ⟨rfl, rfl⟩
  · rw [show min (a + n) 4611686018427387904 = a + n by omega]
    go_enter Try.func36, Try.ntmps36
    go_wp2
    go_ret
    exact ⟨rfl, rfl⟩
end Go.Proofs.Ytijnncnglkjpgaa.KMeter
