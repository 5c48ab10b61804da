/- Sets: either, both, not; all. -/
import Derived.Test.YtdociniomegpnaaDoorCMake
namespace Go.Proofs.YtdociniomegpnaaDoor.COps
open Go.RowKit CMem CBits CSet CMake Go.Proofs.YtdociniomegpnaaDoorW.PrintWords Go.Proofs.YtdociniomegpnaaDoorW.PrintLast Go.Proofs.YtdociniomegpnaaDoorW.PrintMore
set_option linter.unusedVariables false
set_option linter.unusedSimpArgs false

/-- the words, k of them done -/
def mx (k : Nat) (x0 x1 x2 x3 z0 z1 z2 z3 : Int) : Array Value := #[.int .u64 (if 0 < k then z0 else x0), .int .u64 (if 1 < k then z1 else x1), .int .u64 (if 2 < k then z2 else x2), .int .u64 (if 3 < k then z3 else x3)]
set_option maxHeartbeats 3200000 in
theorem or_walk (x0 x1 x2 x3 y0 y1 y2 y3 z0 z1 z2 z3 : Int) (w : World) (h0 : bits BinOp.or IntKind.u64 x0 y0 = z0) (h1 : bits BinOp.or IntKind.u64 x1 y1 = z1) (h2 : bits BinOp.or IntKind.u64 x2 y2 = z2) (h3 : bits BinOp.or IntKind.u64 x3 y3 = z3) :
    Calls Tryd.prog 19 #[.agg #[.int .u64 x0, .int .u64 x1, .int .u64 x2, .int .u64 x3], .agg #[.int .u64 y0, .int .u64 y1, .int .u64 y2, .int .u64 y3]] w fun e w' => e = .returned (.agg #[.int .u64 z0, .int .u64 z1, .int .u64 z2, .int .u64 z3]) ∧ Below w.heap.size w w' := by
  have BA := Lib.hid (blk_alloc (blk_alloc (heap_alloc_new w (.cells #[.int .u64 x0, .int .u64 x1, .int .u64 x2, .int .u64 x3] 25)) (.cells #[.int .u64 y0, .int .u64 y1, .int .u64 y2, .int .u64 y3] 25)) (.cells #[.int .u64 0, .int .u64 0, .int .u64 0, .int .u64 0] 25))
  have BB := Lib.hid (blk_alloc (blk2 w (.cells #[.int .u64 x0, .int .u64 x1, .int .u64 x2, .int .u64 x3] 25) #[.int .u64 y0, .int .u64 y1, .int .u64 y2, .int .u64 y3] 25) (.cells #[.int .u64 0, .int .u64 0, .int .u64 0, .int .u64 0] 25))
  have BR := Lib.hid (blk3 w (.cells #[.int .u64 x0, .int .u64 x1, .int .u64 x2, .int .u64 x3] 25) (.cells #[.int .u64 y0, .int .u64 y1, .int .u64 y2, .int .u64 y3] 25) #[.int .u64 0, .int .u64 0, .int .u64 0, .int .u64 0] 25)
  have HB := Lib.hid (below3 w (.cells #[.int .u64 x0, .int .u64 x1, .int .u64 x2, .int .u64 x3] 25) (.cells #[.int .u64 y0, .int .u64 y1, .int .u64 y2, .int .u64 y3] 25) (.cells #[.int .u64 0, .int .u64 0, .int .u64 0, .int .u64 0] 25))
  go_enter Tryd.func19, Tryd.ntmps19
  go_wp2
  generalize ((w.alloc (.cells #[.int .u64 x0, .int .u64 x1, .int .u64 x2, .int .u64 x3] 25)).alloc (.cells #[.int .u64 y0, .int .u64 y1, .int .u64 y2, .int .u64 y3] 25)).alloc (.cells #[.int .u64 0, .int .u64 0, .int .u64 0, .int .u64 0] 25) = w2 at *
  obtain ⟨qr, hqr⟩ : ∃ qr, w.heap.size + 1 + 1 = qr := ⟨_, rfl⟩
  have LR := Lib.hid (show w.heap.size ≤ qr by omega)
  have NR := Lib.hid (show qr ≠ w.heap.size by omega)
  rw [show w.heap.size + 1 + 1 = qr from hqr]
  rw [show w.heap.size + 2 = qr by omega] at BR
  clear hqr
  go_loopw [6] (fun t wr => ∃ k : Nat, k ≤ 4 ∧ t = .int .i64 (k : Nat) ∧ Hid (wr.heap[w.heap.size]? = some (.cells (mx k x0 x1 x2 x3 z0 z1 z2 z3) 25 (0, 0))) ∧ Hid (wr.heap[w.heap.size + 1]? = some (.cells #[.int .u64 y0, .int .u64 y1, .int .u64 y2, .int .u64 y3] 25 (0, 0))) ∧ Hid (wr.heap[qr]? = some (.cells #[.int .u64 0, .int .u64 0, .int .u64 0, .int .u64 0] 25 (0, 0))) ∧ Hid (Below w.heap.size w wr)) (fun t _ => 4 - (intOf t).toNat)
  case atStart => exact ⟨0, by omega, rfl, BA, BB, BR, HB⟩
  case round =>
    obtain ⟨k, hk, rfl, BA1, BB1, BR1, HB1⟩ := hrel
    clear BA BB BR HB
    have hc : k = 0 ∨ k = 1 ∨ k = 2 ∨ k = 3 ∨ k = 4 := by omega
    rcases hc with rfl | rfl | rfl | rfl | rfl
    · have hq : wr.heap[w.heap.size]? = some (.cells #[.int .u64 x0, .int .u64 x1, .int .u64 x2, .int .u64 x3] 25 (0, 0)) := BA1.out
      have a0 := blk_cell hq 0 (.int .u64 x0) rfl
      have f0 := blk_free hq 0
      have HN := Lib.hid (set_blk (i := 0) hq (.int .u64 z0))
      have HR := Lib.hid (set_other (i := 0) (v := .int .u64 z0) BR1.out NR.out)
      have HB2 := Lib.hid (below_set (i := 0) HB1.out (Nat.le_refl _) (.int .u64 z0))
      have b0 := blk_cell BB1.out 0 (.int .u64 y0) rfl
      have HY := Lib.hid (set_other (i := 0) (v := .int .u64 z0) BB1.out (show w.heap.size + 1 ≠ w.heap.size by omega))
      clear hq
      generalize hqe : w.heap.size = qa at *
      have HQE := Lib.hid hqe
      clear hqe
      generalize hqb : qa + 1 = qb at *
      have HQB := Lib.hid hqb
      clear hqb
      go_wp2
      refine start_ (n := 12) (S := fun w' => w'.cell? ⟨qa, 0, none⟩ = some (.int .u64 x0) ∧ w'.cell? ⟨qb, 0, none⟩ = some (.int .u64 y0)) (ds := [11]) #[false, false, false, false, false, false, false, false, false, false, false, false] (by kernel_rfl) rfl rfl ⟨a0, b0⟩ (fun hHeld => ?_)
      refine pure_ (i := 0) (N := some 9) (v := ?_) (a' := ?_) #[true, false, false, false, false, false, false, false, false, false, false, false] rfl rfl (by kernel_rfl) (fun _ _ _ h => h) (Or.inl ⟨by rfl, ?_⟩) ?_ ?_
      rotate_left
      · intro w'
        go_simp
        with_reducible rfl
      rotate_left
      · simp only [Act.put, List.setIfInBounds_toArray, List.set_cons_zero, List.set_cons_succ, i64_w, i32_w]
        rfl
      refine pure_ (i := 1) (N := some 10) (v := ?_) (a' := ?_) #[true, true, false, false, false, false, false, false, false, false, false, false] rfl rfl (by kernel_rfl) (fun _ _ _ h => h) (Or.inl ⟨by rfl, ?_⟩) ?_ ?_
      rotate_left
      · intro w'
        go_simp
        with_reducible rfl
      rotate_left
      · simp only [Act.put, List.setIfInBounds_toArray, List.set_cons_zero, List.set_cons_succ, i64_w, i32_w]
        rfl
      refine pure_ (i := 2) (N := some 11) (v := ?_) (a' := ?_) #[true, true, true, false, false, false, false, false, false, false, false, false] rfl rfl (by kernel_rfl) (fun _ _ _ h => h) (Or.inl ⟨by rfl, ?_⟩) ?_ ?_
      rotate_left
      · intro w'
        go_simp
        with_reducible rfl
      rotate_left
      · simp only [Act.put, List.setIfInBounds_toArray, List.set_cons_zero, List.set_cons_succ, i64_w, i32_w]
        rfl
      refine pure_ (i := 4) (N := some 13) (v := ?_) (a' := ?_) #[true, true, true, false, true, false, false, false, false, false, false, false] rfl rfl (by kernel_rfl) (fun _ _ _ h => h) (Or.inl ⟨by rfl, ?_⟩) ?_ ?_
      rotate_left
      · intro w'
        go_simp
        with_reducible rfl
      rotate_left
      · simp only [Act.put, List.setIfInBounds_toArray, List.set_cons_zero, List.set_cons_succ, i64_w, i32_w]
        rfl
      refine pure_ (i := 5) (N := some 14) (v := ?_) (a' := ?_) #[true, true, true, false, true, true, false, false, false, false, false, false] rfl rfl (by kernel_rfl) (fun _ _ _ h => h) (Or.inl ⟨by rfl, ?_⟩) ?_ ?_
      rotate_left
      · intro w'
        go_simp
        with_reducible rfl
      rotate_left
      · simp only [Act.put, List.setIfInBounds_toArray, List.set_cons_zero, List.set_cons_succ, i64_w, i32_w]
        rfl
      refine pure_ (i := 6) (N := some 15) (v := ?_) (a' := ?_) #[true, true, true, false, true, true, true, false, false, false, false, false] rfl rfl (by kernel_rfl) (fun _ _ _ h => h) (Or.inl ⟨by rfl, ?_⟩) ?_ ?_
      rotate_left
      · intro w'
        go_simp
        with_reducible rfl
      rotate_left
      · simp only [Act.put, List.setIfInBounds_toArray, List.set_cons_zero, List.set_cons_succ, i64_w, i32_w]
        rfl
      refine pure_ (i := 9) (N := some 18) (v := ?_) (a' := ?_) #[true, true, true, false, true, true, true, false, false, true, false, false] rfl rfl (by kernel_rfl) (fun _ _ _ h => h) (Or.inl ⟨by rfl, ?_⟩) ?_ ?_
      rotate_left
      · intro w'
        go_simp
        with_reducible rfl
      rotate_left
      · simp only [Act.put, List.setIfInBounds_toArray, List.set_cons_zero, List.set_cons_succ, i64_w, i32_w]
        rfl
      refine take_ (i := 3) (N := some 12) (v := ?_) (a' := ?_) #[true, true, true, true, true, true, true, false, false, true, false, false] rfl rfl (by kernel_rfl) (fun _ _ _ h => h) (Or.inl ⟨by rfl, ?_⟩) hHeld ?_ ?_
      rotate_left
      · rintro w' ⟨s0, s1⟩
        go_simp
        with_reducible rfl
      rotate_left
      · simp only [Act.put, List.setIfInBounds_toArray, List.set_cons_zero, List.set_cons_succ, i64_w, i32_w]
        rfl
      refine take_ (i := 7) (N := some 16) (v := ?_) (a' := ?_) #[true, true, true, true, true, true, true, true, false, true, false, false] rfl rfl (by kernel_rfl) (fun _ _ _ h => h) (Or.inl ⟨by rfl, ?_⟩) hHeld ?_ ?_
      rotate_left
      · rintro w' ⟨s0, s1⟩
        go_simp
        with_reducible rfl
      rotate_left
      · simp only [Act.put, List.setIfInBounds_toArray, List.set_cons_zero, List.set_cons_succ, i64_w, i32_w]
        rfl
      refine pure_ (i := 8) (N := some 17) (v := ?_) (a' := ?_) #[true, true, true, true, true, true, true, true, true, true, false, false] rfl rfl (by kernel_rfl) (fun _ _ _ h => h) (Or.inl ⟨by rfl, ?_⟩) ?_ ?_
      rotate_left
      · intro w'
        go_simp
        with_reducible rfl
      rotate_left
      · simp only [Act.put, List.setIfInBounds_toArray, List.set_cons_zero, List.set_cons_succ, i64_w, i32_w]
        rfl
      refine pure_ (i := 10) (N := some 19) (v := ?_) (a' := ?_) #[true, true, true, true, true, true, true, true, true, true, true, false] rfl rfl (by kernel_rfl) (fun _ _ _ h => h) (Or.inl ⟨by rfl, ?_⟩) ?_ ?_
      rotate_left
      · intro w'
        go_simp
        with_reducible rfl
      rotate_left
      · simp only [Act.put, List.setIfInBounds_toArray, List.set_cons_zero, List.set_cons_succ, i64_w, i32_w]
        rfl
      refine last_ (i := 11) (N := none) #[true, true, true, true, true, true, true, true, true, true, true, true] rfl rfl (by kernel_rfl) (by decide) (fun K hK => ?_)
      refine skip_ (w1 := ?_) (by rfl) rfl ?_ ?_
      rotate_left
      · go_simp
        rfl
      refine hK.out _ _ ?_
      clear hK K
      refine done_ (by kernel_rfl) ?_
      go_wp2
      go_roundw
      case rel => exact ⟨1, by omega, by simp, HN, HY, HR, Lib.hid HB2.out.drew⟩
      case measure => simp [intOf]
    · have hq : wr.heap[w.heap.size]? = some (.cells #[.int .u64 z0, .int .u64 x1, .int .u64 x2, .int .u64 x3] 25 (0, 0)) := BA1.out
      have a0 := blk_cell hq 1 (.int .u64 x1) rfl
      have f0 := blk_free hq 1
      have HN := Lib.hid (set_blk (i := 1) hq (.int .u64 z1))
      have HR := Lib.hid (set_other (i := 1) (v := .int .u64 z1) BR1.out NR.out)
      have HB2 := Lib.hid (below_set (i := 1) HB1.out (Nat.le_refl _) (.int .u64 z1))
      have b0 := blk_cell BB1.out 1 (.int .u64 y1) rfl
      have HY := Lib.hid (set_other (i := 1) (v := .int .u64 z1) BB1.out (show w.heap.size + 1 ≠ w.heap.size by omega))
      clear hq
      generalize hqe : w.heap.size = qa at *
      have HQE := Lib.hid hqe
      clear hqe
      generalize hqb : qa + 1 = qb at *
      have HQB := Lib.hid hqb
      clear hqb
      go_wp2
      refine start_ (n := 12) (S := fun w' => w'.cell? ⟨qa, 1, none⟩ = some (.int .u64 x1) ∧ w'.cell? ⟨qb, 1, none⟩ = some (.int .u64 y1)) (ds := [11]) #[false, false, false, false, false, false, false, false, false, false, false, false] (by kernel_rfl) rfl rfl ⟨a0, b0⟩ (fun hHeld => ?_)
      refine pure_ (i := 0) (N := some 9) (v := ?_) (a' := ?_) #[true, false, false, false, false, false, false, false, false, false, false, false] rfl rfl (by kernel_rfl) (fun _ _ _ h => h) (Or.inl ⟨by rfl, ?_⟩) ?_ ?_
      rotate_left
      · intro w'
        go_simp
        with_reducible rfl
      rotate_left
      · simp only [Act.put, List.setIfInBounds_toArray, List.set_cons_zero, List.set_cons_succ, i64_w, i32_w]
        rfl
      refine pure_ (i := 1) (N := some 10) (v := ?_) (a' := ?_) #[true, true, false, false, false, false, false, false, false, false, false, false] rfl rfl (by kernel_rfl) (fun _ _ _ h => h) (Or.inl ⟨by rfl, ?_⟩) ?_ ?_
      rotate_left
      · intro w'
        go_simp
        with_reducible rfl
      rotate_left
      · simp only [Act.put, List.setIfInBounds_toArray, List.set_cons_zero, List.set_cons_succ, i64_w, i32_w]
        rfl
      refine pure_ (i := 2) (N := some 11) (v := ?_) (a' := ?_) #[true, true, true, false, false, false, false, false, false, false, false, false] rfl rfl (by kernel_rfl) (fun _ _ _ h => h) (Or.inl ⟨by rfl, ?_⟩) ?_ ?_
      rotate_left
      · intro w'
        go_simp
        with_reducible rfl
      rotate_left
      · simp only [Act.put, List.setIfInBounds_toArray, List.set_cons_zero, List.set_cons_succ, i64_w, i32_w]
        rfl
      refine pure_ (i := 4) (N := some 13) (v := ?_) (a' := ?_) #[true, true, true, false, true, false, false, false, false, false, false, false] rfl rfl (by kernel_rfl) (fun _ _ _ h => h) (Or.inl ⟨by rfl, ?_⟩) ?_ ?_
      rotate_left
      · intro w'
        go_simp
        with_reducible rfl
      rotate_left
      · simp only [Act.put, List.setIfInBounds_toArray, List.set_cons_zero, List.set_cons_succ, i64_w, i32_w]
        rfl
      refine pure_ (i := 5) (N := some 14) (v := ?_) (a' := ?_) #[true, true, true, false, true, true, false, false, false, false, false, false] rfl rfl (by kernel_rfl) (fun _ _ _ h => h) (Or.inl ⟨by rfl, ?_⟩) ?_ ?_
      rotate_left
      · intro w'
        go_simp
        with_reducible rfl
      rotate_left
      · simp only [Act.put, List.setIfInBounds_toArray, List.set_cons_zero, List.set_cons_succ, i64_w, i32_w]
        rfl
      refine pure_ (i := 6) (N := some 15) (v := ?_) (a' := ?_) #[true, true, true, false, true, true, true, false, false, false, false, false] rfl rfl (by kernel_rfl) (fun _ _ _ h => h) (Or.inl ⟨by rfl, ?_⟩) ?_ ?_
      rotate_left
      · intro w'
        go_simp
        with_reducible rfl
      rotate_left
      · simp only [Act.put, List.setIfInBounds_toArray, List.set_cons_zero, List.set_cons_succ, i64_w, i32_w]
        rfl
      refine pure_ (i := 9) (N := some 18) (v := ?_) (a' := ?_) #[true, true, true, false, true, true, true, false, false, true, false, false] rfl rfl (by kernel_rfl) (fun _ _ _ h => h) (Or.inl ⟨by rfl, ?_⟩) ?_ ?_
      rotate_left
      · intro w'
        go_simp
        with_reducible rfl
      rotate_left
      · simp only [Act.put, List.setIfInBounds_toArray, List.set_cons_zero, List.set_cons_succ, i64_w, i32_w]
        rfl
      refine take_ (i := 3) (N := some 12) (v := ?_) (a' := ?_) #[true, true, true, true, true, true, true, false, false, true, false, false] rfl rfl (by kernel_rfl) (fun _ _ _ h => h) (Or.inl ⟨by rfl, ?_⟩) hHeld ?_ ?_
      rotate_left
      · rintro w' ⟨s0, s1⟩
        go_simp
        with_reducible rfl
      rotate_left
      · simp only [Act.put, List.setIfInBounds_toArray, List.set_cons_zero, List.set_cons_succ, i64_w, i32_w]
        rfl
      refine take_ (i := 7) (N := some 16) (v := ?_) (a' := ?_) #[true, true, true, true, true, true, true, true, false, true, false, false] rfl rfl (by kernel_rfl) (fun _ _ _ h => h) (Or.inl ⟨by rfl, ?_⟩) hHeld ?_ ?_
      rotate_left
      · rintro w' ⟨s0, s1⟩
        go_simp
        with_reducible rfl
      rotate_left
      · simp only [Act.put, List.setIfInBounds_toArray, List.set_cons_zero, List.set_cons_succ, i64_w, i32_w]
        rfl
      refine pure_ (i := 8) (N := some 17) (v := ?_) (a' := ?_) #[true, true, true, true, true, true, true, true, true, true, false, false] rfl rfl (by kernel_rfl) (fun _ _ _ h => h) (Or.inl ⟨by rfl, ?_⟩) ?_ ?_
      rotate_left
      · intro w'
        go_simp
        with_reducible rfl
      rotate_left
      · simp only [Act.put, List.setIfInBounds_toArray, List.set_cons_zero, List.set_cons_succ, i64_w, i32_w]
        rfl
      refine pure_ (i := 10) (N := some 19) (v := ?_) (a' := ?_) #[true, true, true, true, true, true, true, true, true, true, true, false] rfl rfl (by kernel_rfl) (fun _ _ _ h => h) (Or.inl ⟨by rfl, ?_⟩) ?_ ?_
      rotate_left
      · intro w'
        go_simp
        with_reducible rfl
      rotate_left
      · simp only [Act.put, List.setIfInBounds_toArray, List.set_cons_zero, List.set_cons_succ, i64_w, i32_w]
        rfl
      refine last_ (i := 11) (N := none) #[true, true, true, true, true, true, true, true, true, true, true, true] rfl rfl (by kernel_rfl) (by decide) (fun K hK => ?_)
      refine skip_ (w1 := ?_) (by rfl) rfl ?_ ?_
      rotate_left
      · go_simp
        rfl
      refine hK.out _ _ ?_
      clear hK K
      refine done_ (by kernel_rfl) ?_
      go_wp2
      go_roundw
      case rel => exact ⟨2, by omega, by simp, HN, HY, HR, Lib.hid HB2.out.drew⟩
      case measure => simp [intOf]
    · have hq : wr.heap[w.heap.size]? = some (.cells #[.int .u64 z0, .int .u64 z1, .int .u64 x2, .int .u64 x3] 25 (0, 0)) := BA1.out
      have a0 := blk_cell hq 2 (.int .u64 x2) rfl
      have f0 := blk_free hq 2
      have HN := Lib.hid (set_blk (i := 2) hq (.int .u64 z2))
      have HR := Lib.hid (set_other (i := 2) (v := .int .u64 z2) BR1.out NR.out)
      have HB2 := Lib.hid (below_set (i := 2) HB1.out (Nat.le_refl _) (.int .u64 z2))
      have b0 := blk_cell BB1.out 2 (.int .u64 y2) rfl
      have HY := Lib.hid (set_other (i := 2) (v := .int .u64 z2) BB1.out (show w.heap.size + 1 ≠ w.heap.size by omega))
      clear hq
      generalize hqe : w.heap.size = qa at *
      have HQE := Lib.hid hqe
      clear hqe
      generalize hqb : qa + 1 = qb at *
      have HQB := Lib.hid hqb
      clear hqb
      go_wp2
      refine start_ (n := 12) (S := fun w' => w'.cell? ⟨qa, 2, none⟩ = some (.int .u64 x2) ∧ w'.cell? ⟨qb, 2, none⟩ = some (.int .u64 y2)) (ds := [11]) #[false, false, false, false, false, false, false, false, false, false, false, false] (by kernel_rfl) rfl rfl ⟨a0, b0⟩ (fun hHeld => ?_)
      refine pure_ (i := 0) (N := some 9) (v := ?_) (a' := ?_) #[true, false, false, false, false, false, false, false, false, false, false, false] rfl rfl (by kernel_rfl) (fun _ _ _ h => h) (Or.inl ⟨by rfl, ?_⟩) ?_ ?_
      rotate_left
      · intro w'
        go_simp
        with_reducible rfl
      rotate_left
      · simp only [Act.put, List.setIfInBounds_toArray, List.set_cons_zero, List.set_cons_succ, i64_w, i32_w]
        rfl
      refine pure_ (i := 1) (N := some 10) (v := ?_) (a' := ?_) #[true, true, false, false, false, false, false, false, false, false, false, false] rfl rfl (by kernel_rfl) (fun _ _ _ h => h) (Or.inl ⟨by rfl, ?_⟩) ?_ ?_
      rotate_left
      · intro w'
        go_simp
        with_reducible rfl
      rotate_left
      · simp only [Act.put, List.setIfInBounds_toArray, List.set_cons_zero, List.set_cons_succ, i64_w, i32_w]
        rfl
      refine pure_ (i := 2) (N := some 11) (v := ?_) (a' := ?_) #[true, true, true, false, false, false, false, false, false, false, false, false] rfl rfl (by kernel_rfl) (fun _ _ _ h => h) (Or.inl ⟨by rfl, ?_⟩) ?_ ?_
      rotate_left
      · intro w'
        go_simp
        with_reducible rfl
      rotate_left
      · simp only [Act.put, List.setIfInBounds_toArray, List.set_cons_zero, List.set_cons_succ, i64_w, i32_w]
        rfl
      refine pure_ (i := 4) (N := some 13) (v := ?_) (a' := ?_) #[true, true, true, false, true, false, false, false, false, false, false, false] rfl rfl (by kernel_rfl) (fun _ _ _ h => h) (Or.inl ⟨by rfl, ?_⟩) ?_ ?_
      rotate_left
      · intro w'
        go_simp
        with_reducible rfl
      rotate_left
      · simp only [Act.put, List.setIfInBounds_toArray, List.set_cons_zero, List.set_cons_succ, i64_w, i32_w]
        rfl
      refine pure_ (i := 5) (N := some 14) (v := ?_) (a' := ?_) #[true, true, true, false, true, true, false, false, false, false, false, false] rfl rfl (by kernel_rfl) (fun _ _ _ h => h) (Or.inl ⟨by rfl, ?_⟩) ?_ ?_
      rotate_left
      · intro w'
        go_simp
        with_reducible rfl
      rotate_left
      · simp only [Act.put, List.setIfInBounds_toArray, List.set_cons_zero, List.set_cons_succ, i64_w, i32_w]
        rfl
      refine pure_ (i := 6) (N := some 15) (v := ?_) (a' := ?_) #[true, true, true, false, true, true, true, false, false, false, false, false] rfl rfl (by kernel_rfl) (fun _ _ _ h => h) (Or.inl ⟨by rfl, ?_⟩) ?_ ?_
      rotate_left
      · intro w'
        go_simp
        with_reducible rfl
      rotate_left
      · simp only [Act.put, List.setIfInBounds_toArray, List.set_cons_zero, List.set_cons_succ, i64_w, i32_w]
        rfl
      refine pure_ (i := 9) (N := some 18) (v := ?_) (a' := ?_) #[true, true, true, false, true, true, true, false, false, true, false, false] rfl rfl (by kernel_rfl) (fun _ _ _ h => h) (Or.inl ⟨by rfl, ?_⟩) ?_ ?_
      rotate_left
      · intro w'
        go_simp
        with_reducible rfl
      rotate_left
      · simp only [Act.put, List.setIfInBounds_toArray, List.set_cons_zero, List.set_cons_succ, i64_w, i32_w]
        rfl
      refine take_ (i := 3) (N := some 12) (v := ?_) (a' := ?_) #[true, true, true, true, true, true, true, false, false, true, false, false] rfl rfl (by kernel_rfl) (fun _ _ _ h => h) (Or.inl ⟨by rfl, ?_⟩) hHeld ?_ ?_
      rotate_left
      · rintro w' ⟨s0, s1⟩
        go_simp
        with_reducible rfl
      rotate_left
      · simp only [Act.put, List.setIfInBounds_toArray, List.set_cons_zero, List.set_cons_succ, i64_w, i32_w]
        rfl
      refine take_ (i := 7) (N := some 16) (v := ?_) (a' := ?_) #[true, true, true, true, true, true, true, true, false, true, false, false] rfl rfl (by kernel_rfl) (fun _ _ _ h => h) (Or.inl ⟨by rfl, ?_⟩) hHeld ?_ ?_
      rotate_left
      · rintro w' ⟨s0, s1⟩
        go_simp
        with_reducible rfl
      rotate_left
      · simp only [Act.put, List.setIfInBounds_toArray, List.set_cons_zero, List.set_cons_succ, i64_w, i32_w]
        rfl
      refine pure_ (i := 8) (N := some 17) (v := ?_) (a' := ?_) #[true, true, true, true, true, true, true, true, true, true, false, false] rfl rfl (by kernel_rfl) (fun _ _ _ h => h) (Or.inl ⟨by rfl, ?_⟩) ?_ ?_
      rotate_left
      · intro w'
        go_simp
        with_reducible rfl
      rotate_left
      · simp only [Act.put, List.setIfInBounds_toArray, List.set_cons_zero, List.set_cons_succ, i64_w, i32_w]
        rfl
      refine pure_ (i := 10) (N := some 19) (v := ?_) (a' := ?_) #[true, true, true, true, true, true, true, true, true, true, true, false] rfl rfl (by kernel_rfl) (fun _ _ _ h => h) (Or.inl ⟨by rfl, ?_⟩) ?_ ?_
      rotate_left
      · intro w'
        go_simp
        with_reducible rfl
      rotate_left
      · simp only [Act.put, List.setIfInBounds_toArray, List.set_cons_zero, List.set_cons_succ, i64_w, i32_w]
        rfl
      refine last_ (i := 11) (N := none) #[true, true, true, true, true, true, true, true, true, true, true, true] rfl rfl (by kernel_rfl) (by decide) (fun K hK => ?_)
      refine skip_ (w1 := ?_) (by rfl) rfl ?_ ?_
      rotate_left
      · go_simp
        rfl
      refine hK.out _ _ ?_
      clear hK K
      refine done_ (by kernel_rfl) ?_
      go_wp2
      go_roundw
      case rel => exact ⟨3, by omega, by simp, HN, HY, HR, Lib.hid HB2.out.drew⟩
      case measure => simp [intOf]
    · have hq : wr.heap[w.heap.size]? = some (.cells #[.int .u64 z0, .int .u64 z1, .int .u64 z2, .int .u64 x3] 25 (0, 0)) := BA1.out
      have a0 := blk_cell hq 3 (.int .u64 x3) rfl
      have f0 := blk_free hq 3
      have HN := Lib.hid (set_blk (i := 3) hq (.int .u64 z3))
      have HR := Lib.hid (set_other (i := 3) (v := .int .u64 z3) BR1.out NR.out)
      have HB2 := Lib.hid (below_set (i := 3) HB1.out (Nat.le_refl _) (.int .u64 z3))
      have b0 := blk_cell BB1.out 3 (.int .u64 y3) rfl
      have HY := Lib.hid (set_other (i := 3) (v := .int .u64 z3) BB1.out (show w.heap.size + 1 ≠ w.heap.size by omega))
      clear hq
      generalize hqe : w.heap.size = qa at *
      have HQE := Lib.hid hqe
      clear hqe
      generalize hqb : qa + 1 = qb at *
      have HQB := Lib.hid hqb
      clear hqb
      go_wp2
      refine start_ (n := 12) (S := fun w' => w'.cell? ⟨qa, 3, none⟩ = some (.int .u64 x3) ∧ w'.cell? ⟨qb, 3, none⟩ = some (.int .u64 y3)) (ds := [11]) #[false, false, false, false, false, false, false, false, false, false, false, false] (by kernel_rfl) rfl rfl ⟨a0, b0⟩ (fun hHeld => ?_)
      refine pure_ (i := 0) (N := some 9) (v := ?_) (a' := ?_) #[true, false, false, false, false, false, false, false, false, false, false, false] rfl rfl (by kernel_rfl) (fun _ _ _ h => h) (Or.inl ⟨by rfl, ?_⟩) ?_ ?_
      rotate_left
      · intro w'
        go_simp
        with_reducible rfl
      rotate_left
      · simp only [Act.put, List.setIfInBounds_toArray, List.set_cons_zero, List.set_cons_succ, i64_w, i32_w]
        rfl
      refine pure_ (i := 1) (N := some 10) (v := ?_) (a' := ?_) #[true, true, false, false, false, false, false, false, false, false, false, false] rfl rfl (by kernel_rfl) (fun _ _ _ h => h) (Or.inl ⟨by rfl, ?_⟩) ?_ ?_
      rotate_left
      · intro w'
        go_simp
        with_reducible rfl
      rotate_left
      · simp only [Act.put, List.setIfInBounds_toArray, List.set_cons_zero, List.set_cons_succ, i64_w, i32_w]
        rfl
      refine pure_ (i := 2) (N := some 11) (v := ?_) (a' := ?_) #[true, true, true, false, false, false, false, false, false, false, false, false] rfl rfl (by kernel_rfl) (fun _ _ _ h => h) (Or.inl ⟨by rfl, ?_⟩) ?_ ?_
      rotate_left
      · intro w'
        go_simp
        with_reducible rfl
      rotate_left
      · simp only [Act.put, List.setIfInBounds_toArray, List.set_cons_zero, List.set_cons_succ, i64_w, i32_w]
        rfl
      refine pure_ (i := 4) (N := some 13) (v := ?_) (a' := ?_) #[true, true, true, false, true, false, false, false, false, false, false, false] rfl rfl (by kernel_rfl) (fun _ _ _ h => h) (Or.inl ⟨by rfl, ?_⟩) ?_ ?_
      rotate_left
      · intro w'
        go_simp
        with_reducible rfl
      rotate_left
      · simp only [Act.put, List.setIfInBounds_toArray, List.set_cons_zero, List.set_cons_succ, i64_w, i32_w]
        rfl
      refine pure_ (i := 5) (N := some 14) (v := ?_) (a' := ?_) #[true, true, true, false, true, true, false, false, false, false, false, false] rfl rfl (by kernel_rfl) (fun _ _ _ h => h) (Or.inl ⟨by rfl, ?_⟩) ?_ ?_
      rotate_left
      · intro w'
        go_simp
        with_reducible rfl
      rotate_left
      · simp only [Act.put, List.setIfInBounds_toArray, List.set_cons_zero, List.set_cons_succ, i64_w, i32_w]
        rfl
      refine pure_ (i := 6) (N := some 15) (v := ?_) (a' := ?_) #[true, true, true, false, true, true, true, false, false, false, false, false] rfl rfl (by kernel_rfl) (fun _ _ _ h => h) (Or.inl ⟨by rfl, ?_⟩) ?_ ?_
      rotate_left
      · intro w'
        go_simp
        with_reducible rfl
      rotate_left
      · simp only [Act.put, List.setIfInBounds_toArray, List.set_cons_zero, List.set_cons_succ, i64_w, i32_w]
        rfl
      refine pure_ (i := 9) (N := some 18) (v := ?_) (a' := ?_) #[true, true, true, false, true, true, true, false, false, true, false, false] rfl rfl (by kernel_rfl) (fun _ _ _ h => h) (Or.inl ⟨by rfl, ?_⟩) ?_ ?_
      rotate_left
      · intro w'
        go_simp
        with_reducible rfl
      rotate_left
      · simp only [Act.put, List.setIfInBounds_toArray, List.set_cons_zero, List.set_cons_succ, i64_w, i32_w]
        rfl
      refine take_ (i := 3) (N := some 12) (v := ?_) (a' := ?_) #[true, true, true, true, true, true, true, false, false, true, false, false] rfl rfl (by kernel_rfl) (fun _ _ _ h => h) (Or.inl ⟨by rfl, ?_⟩) hHeld ?_ ?_
      rotate_left
      · rintro w' ⟨s0, s1⟩
        go_simp
        with_reducible rfl
      rotate_left
      · simp only [Act.put, List.setIfInBounds_toArray, List.set_cons_zero, List.set_cons_succ, i64_w, i32_w]
        rfl
      refine take_ (i := 7) (N := some 16) (v := ?_) (a' := ?_) #[true, true, true, true, true, true, true, true, false, true, false, false] rfl rfl (by kernel_rfl) (fun _ _ _ h => h) (Or.inl ⟨by rfl, ?_⟩) hHeld ?_ ?_
      rotate_left
      · rintro w' ⟨s0, s1⟩
        go_simp
        with_reducible rfl
      rotate_left
      · simp only [Act.put, List.setIfInBounds_toArray, List.set_cons_zero, List.set_cons_succ, i64_w, i32_w]
        rfl
      refine pure_ (i := 8) (N := some 17) (v := ?_) (a' := ?_) #[true, true, true, true, true, true, true, true, true, true, false, false] rfl rfl (by kernel_rfl) (fun _ _ _ h => h) (Or.inl ⟨by rfl, ?_⟩) ?_ ?_
      rotate_left
      · intro w'
        go_simp
        with_reducible rfl
      rotate_left
      · simp only [Act.put, List.setIfInBounds_toArray, List.set_cons_zero, List.set_cons_succ, i64_w, i32_w]
        rfl
      refine pure_ (i := 10) (N := some 19) (v := ?_) (a' := ?_) #[true, true, true, true, true, true, true, true, true, true, true, false] rfl rfl (by kernel_rfl) (fun _ _ _ h => h) (Or.inl ⟨by rfl, ?_⟩) ?_ ?_
      rotate_left
      · intro w'
        go_simp
        with_reducible rfl
      rotate_left
      · simp only [Act.put, List.setIfInBounds_toArray, List.set_cons_zero, List.set_cons_succ, i64_w, i32_w]
        rfl
      refine last_ (i := 11) (N := none) #[true, true, true, true, true, true, true, true, true, true, true, true] rfl rfl (by kernel_rfl) (by decide) (fun K hK => ?_)
      refine skip_ (w1 := ?_) (by rfl) rfl ?_ ?_
      rotate_left
      · go_simp
        rfl
      refine hK.out _ _ ?_
      clear hK K
      refine done_ (by kernel_rfl) ?_
      go_wp2
      go_roundw
      case rel => exact ⟨4, by omega, by simp, HN, HY, HR, Lib.hid HB2.out.drew⟩
      case measure => simp [intOf]
    · have hq : wr.heap[w.heap.size]? = some (.cells #[.int .u64 z0, .int .u64 z1, .int .u64 z2, .int .u64 z3] 25 (0, 0)) := BA1.out
      have a0 := blk_cell hq 0 (.int .u64 z0) rfl
      have a1 := blk_cell hq 1 (.int .u64 z1) rfl
      have a2 := blk_cell hq 2 (.int .u64 z2) rfl
      have a3 := blk_cell hq 3 (.int .u64 z3) rfl
      obtain ⟨c0, c1, c2, c3, f0, f1, f2, f3, zz⟩ := set_four BR1.out (.int .u64 z0) (.int .u64 z1) (.int .u64 z2) (.int .u64 z3)
      have ZZ := Lib.hid zz
      clear zz hq
      go_wp2
      refine bodyPost_ret (results_cell_row rfl _ _ qr 25 #[.int .u64 z0, .int .u64 z1, .int .u64 z2, .int .u64 z3] (0, 0) _ rfl ZZ.out Tryd.underlying25 rfl (by kernel_rfl)) rfl ?_
      exact ⟨rfl, below_four HB1.out LR.out _ _ _ _⟩
set_option maxHeartbeats 3200000 in
theorem and_walk (x0 x1 x2 x3 y0 y1 y2 y3 z0 z1 z2 z3 : Int) (w : World) (h0 : bits BinOp.and IntKind.u64 x0 y0 = z0) (h1 : bits BinOp.and IntKind.u64 x1 y1 = z1) (h2 : bits BinOp.and IntKind.u64 x2 y2 = z2) (h3 : bits BinOp.and IntKind.u64 x3 y3 = z3) :
    Calls Tryd.prog 22 #[.agg #[.int .u64 x0, .int .u64 x1, .int .u64 x2, .int .u64 x3], .agg #[.int .u64 y0, .int .u64 y1, .int .u64 y2, .int .u64 y3]] w fun e w' => e = .returned (.agg #[.int .u64 z0, .int .u64 z1, .int .u64 z2, .int .u64 z3]) ∧ Below w.heap.size w w' := by
  have BA := Lib.hid (blk_alloc (blk_alloc (heap_alloc_new w (.cells #[.int .u64 x0, .int .u64 x1, .int .u64 x2, .int .u64 x3] 25)) (.cells #[.int .u64 y0, .int .u64 y1, .int .u64 y2, .int .u64 y3] 25)) (.cells #[.int .u64 0, .int .u64 0, .int .u64 0, .int .u64 0] 25))
  have BB := Lib.hid (blk_alloc (blk2 w (.cells #[.int .u64 x0, .int .u64 x1, .int .u64 x2, .int .u64 x3] 25) #[.int .u64 y0, .int .u64 y1, .int .u64 y2, .int .u64 y3] 25) (.cells #[.int .u64 0, .int .u64 0, .int .u64 0, .int .u64 0] 25))
  have BR := Lib.hid (blk3 w (.cells #[.int .u64 x0, .int .u64 x1, .int .u64 x2, .int .u64 x3] 25) (.cells #[.int .u64 y0, .int .u64 y1, .int .u64 y2, .int .u64 y3] 25) #[.int .u64 0, .int .u64 0, .int .u64 0, .int .u64 0] 25)
  have HB := Lib.hid (below3 w (.cells #[.int .u64 x0, .int .u64 x1, .int .u64 x2, .int .u64 x3] 25) (.cells #[.int .u64 y0, .int .u64 y1, .int .u64 y2, .int .u64 y3] 25) (.cells #[.int .u64 0, .int .u64 0, .int .u64 0, .int .u64 0] 25))
  go_enter Tryd.func22, Tryd.ntmps22
  go_wp2
  generalize ((w.alloc (.cells #[.int .u64 x0, .int .u64 x1, .int .u64 x2, .int .u64 x3] 25)).alloc (.cells #[.int .u64 y0, .int .u64 y1, .int .u64 y2, .int .u64 y3] 25)).alloc (.cells #[.int .u64 0, .int .u64 0, .int .u64 0, .int .u64 0] 25) = w2 at *
  obtain ⟨qr, hqr⟩ : ∃ qr, w.heap.size + 1 + 1 = qr := ⟨_, rfl⟩
  have LR := Lib.hid (show w.heap.size ≤ qr by omega)
  have NR := Lib.hid (show qr ≠ w.heap.size by omega)
  rw [show w.heap.size + 1 + 1 = qr from hqr]
  rw [show w.heap.size + 2 = qr by omega] at BR
  clear hqr
  go_loopw [6] (fun t wr => ∃ k : Nat, k ≤ 4 ∧ t = .int .i64 (k : Nat) ∧ Hid (wr.heap[w.heap.size]? = some (.cells (mx k x0 x1 x2 x3 z0 z1 z2 z3) 25 (0, 0))) ∧ Hid (wr.heap[w.heap.size + 1]? = some (.cells #[.int .u64 y0, .int .u64 y1, .int .u64 y2, .int .u64 y3] 25 (0, 0))) ∧ Hid (wr.heap[qr]? = some (.cells #[.int .u64 0, .int .u64 0, .int .u64 0, .int .u64 0] 25 (0, 0))) ∧ Hid (Below w.heap.size w wr)) (fun t _ => 4 - (intOf t).toNat)
  case atStart => exact ⟨0, by omega, rfl, BA, BB, BR, HB⟩
  case round =>
    obtain ⟨k, hk, rfl, BA1, BB1, BR1, HB1⟩ := hrel
    clear BA BB BR HB
    have hc : k = 0 ∨ k = 1 ∨ k = 2 ∨ k = 3 ∨ k = 4 := by omega
    rcases hc with rfl | rfl | rfl | rfl | rfl
    · have hq : wr.heap[w.heap.size]? = some (.cells #[.int .u64 x0, .int .u64 x1, .int .u64 x2, .int .u64 x3] 25 (0, 0)) := BA1.out
      have a0 := blk_cell hq 0 (.int .u64 x0) rfl
      have f0 := blk_free hq 0
      have HN := Lib.hid (set_blk (i := 0) hq (.int .u64 z0))
      have HR := Lib.hid (set_other (i := 0) (v := .int .u64 z0) BR1.out NR.out)
      have HB2 := Lib.hid (below_set (i := 0) HB1.out (Nat.le_refl _) (.int .u64 z0))
      have b0 := blk_cell BB1.out 0 (.int .u64 y0) rfl
      have HY := Lib.hid (set_other (i := 0) (v := .int .u64 z0) BB1.out (show w.heap.size + 1 ≠ w.heap.size by omega))
      clear hq
      generalize hqe : w.heap.size = qa at *
      have HQE := Lib.hid hqe
      clear hqe
      generalize hqb : qa + 1 = qb at *
      have HQB := Lib.hid hqb
      clear hqb
      go_wp2
      refine start_ (n := 12) (S := fun w' => w'.cell? ⟨qa, 0, none⟩ = some (.int .u64 x0) ∧ w'.cell? ⟨qb, 0, none⟩ = some (.int .u64 y0)) (ds := [11]) #[false, false, false, false, false, false, false, false, false, false, false, false] (by kernel_rfl) rfl rfl ⟨a0, b0⟩ (fun hHeld => ?_)
      refine pure_ (i := 0) (N := some 9) (v := ?_) (a' := ?_) #[true, false, false, false, false, false, false, false, false, false, false, false] rfl rfl (by kernel_rfl) (fun _ _ _ h => h) (Or.inl ⟨by rfl, ?_⟩) ?_ ?_
      rotate_left
      · intro w'
        go_simp
        with_reducible rfl
      rotate_left
      · simp only [Act.put, List.setIfInBounds_toArray, List.set_cons_zero, List.set_cons_succ, i64_w, i32_w]
        rfl
      refine pure_ (i := 1) (N := some 10) (v := ?_) (a' := ?_) #[true, true, false, false, false, false, false, false, false, false, false, false] rfl rfl (by kernel_rfl) (fun _ _ _ h => h) (Or.inl ⟨by rfl, ?_⟩) ?_ ?_
      rotate_left
      · intro w'
        go_simp
        with_reducible rfl
      rotate_left
      · simp only [Act.put, List.setIfInBounds_toArray, List.set_cons_zero, List.set_cons_succ, i64_w, i32_w]
        rfl
      refine pure_ (i := 2) (N := some 11) (v := ?_) (a' := ?_) #[true, true, true, false, false, false, false, false, false, false, false, false] rfl rfl (by kernel_rfl) (fun _ _ _ h => h) (Or.inl ⟨by rfl, ?_⟩) ?_ ?_
      rotate_left
      · intro w'
        go_simp
        with_reducible rfl
      rotate_left
      · simp only [Act.put, List.setIfInBounds_toArray, List.set_cons_zero, List.set_cons_succ, i64_w, i32_w]
        rfl
      refine pure_ (i := 4) (N := some 13) (v := ?_) (a' := ?_) #[true, true, true, false, true, false, false, false, false, false, false, false] rfl rfl (by kernel_rfl) (fun _ _ _ h => h) (Or.inl ⟨by rfl, ?_⟩) ?_ ?_
      rotate_left
      · intro w'
        go_simp
        with_reducible rfl
      rotate_left
      · simp only [Act.put, List.setIfInBounds_toArray, List.set_cons_zero, List.set_cons_succ, i64_w, i32_w]
        rfl
      refine pure_ (i := 5) (N := some 14) (v := ?_) (a' := ?_) #[true, true, true, false, true, true, false, false, false, false, false, false] rfl rfl (by kernel_rfl) (fun _ _ _ h => h) (Or.inl ⟨by rfl, ?_⟩) ?_ ?_
      rotate_left
      · intro w'
        go_simp
        with_reducible rfl
      rotate_left
      · simp only [Act.put, List.setIfInBounds_toArray, List.set_cons_zero, List.set_cons_succ, i64_w, i32_w]
        rfl
      refine pure_ (i := 6) (N := some 15) (v := ?_) (a' := ?_) #[true, true, true, false, true, true, true, false, false, false, false, false] rfl rfl (by kernel_rfl) (fun _ _ _ h => h) (Or.inl ⟨by rfl, ?_⟩) ?_ ?_
      rotate_left
      · intro w'
        go_simp
        with_reducible rfl
      rotate_left
      · simp only [Act.put, List.setIfInBounds_toArray, List.set_cons_zero, List.set_cons_succ, i64_w, i32_w]
        rfl
      refine pure_ (i := 9) (N := some 18) (v := ?_) (a' := ?_) #[true, true, true, false, true, true, true, false, false, true, false, false] rfl rfl (by kernel_rfl) (fun _ _ _ h => h) (Or.inl ⟨by rfl, ?_⟩) ?_ ?_
      rotate_left
      · intro w'
        go_simp
        with_reducible rfl
      rotate_left
      · simp only [Act.put, List.setIfInBounds_toArray, List.set_cons_zero, List.set_cons_succ, i64_w, i32_w]
        rfl
      refine take_ (i := 3) (N := some 12) (v := ?_) (a' := ?_) #[true, true, true, true, true, true, true, false, false, true, false, false] rfl rfl (by kernel_rfl) (fun _ _ _ h => h) (Or.inl ⟨by rfl, ?_⟩) hHeld ?_ ?_
      rotate_left
      · rintro w' ⟨s0, s1⟩
        go_simp
        with_reducible rfl
      rotate_left
      · simp only [Act.put, List.setIfInBounds_toArray, List.set_cons_zero, List.set_cons_succ, i64_w, i32_w]
        rfl
      refine take_ (i := 7) (N := some 16) (v := ?_) (a' := ?_) #[true, true, true, true, true, true, true, true, false, true, false, false] rfl rfl (by kernel_rfl) (fun _ _ _ h => h) (Or.inl ⟨by rfl, ?_⟩) hHeld ?_ ?_
      rotate_left
      · rintro w' ⟨s0, s1⟩
        go_simp
        with_reducible rfl
      rotate_left
      · simp only [Act.put, List.setIfInBounds_toArray, List.set_cons_zero, List.set_cons_succ, i64_w, i32_w]
        rfl
      refine pure_ (i := 8) (N := some 17) (v := ?_) (a' := ?_) #[true, true, true, true, true, true, true, true, true, true, false, false] rfl rfl (by kernel_rfl) (fun _ _ _ h => h) (Or.inl ⟨by rfl, ?_⟩) ?_ ?_
      rotate_left
      · intro w'
        go_simp
        with_reducible rfl
      rotate_left
      · simp only [Act.put, List.setIfInBounds_toArray, List.set_cons_zero, List.set_cons_succ, i64_w, i32_w]
        rfl
      refine pure_ (i := 10) (N := some 19) (v := ?_) (a' := ?_) #[true, true, true, true, true, true, true, true, true, true, true, false] rfl rfl (by kernel_rfl) (fun _ _ _ h => h) (Or.inl ⟨by rfl, ?_⟩) ?_ ?_
      rotate_left
      · intro w'
        go_simp
        with_reducible rfl
      rotate_left
      · simp only [Act.put, List.setIfInBounds_toArray, List.set_cons_zero, List.set_cons_succ, i64_w, i32_w]
        rfl
      refine last_ (i := 11) (N := none) #[true, true, true, true, true, true, true, true, true, true, true, true] rfl rfl (by kernel_rfl) (by decide) (fun K hK => ?_)
      refine skip_ (w1 := ?_) (by rfl) rfl ?_ ?_
      rotate_left
      · go_simp
        rfl
      refine hK.out _ _ ?_
      clear hK K
      refine done_ (by kernel_rfl) ?_
      go_wp2
      go_roundw
      case rel => exact ⟨1, by omega, by simp, HN, HY, HR, Lib.hid HB2.out.drew⟩
      case measure => simp [intOf]
    · have hq : wr.heap[w.heap.size]? = some (.cells #[.int .u64 z0, .int .u64 x1, .int .u64 x2, .int .u64 x3] 25 (0, 0)) := BA1.out
      have a0 := blk_cell hq 1 (.int .u64 x1) rfl
      have f0 := blk_free hq 1
      have HN := Lib.hid (set_blk (i := 1) hq (.int .u64 z1))
      have HR := Lib.hid (set_other (i := 1) (v := .int .u64 z1) BR1.out NR.out)
      have HB2 := Lib.hid (below_set (i := 1) HB1.out (Nat.le_refl _) (.int .u64 z1))
      have b0 := blk_cell BB1.out 1 (.int .u64 y1) rfl
      have HY := Lib.hid (set_other (i := 1) (v := .int .u64 z1) BB1.out (show w.heap.size + 1 ≠ w.heap.size by omega))
      clear hq
      generalize hqe : w.heap.size = qa at *
      have HQE := Lib.hid hqe
      clear hqe
      generalize hqb : qa + 1 = qb at *
      have HQB := Lib.hid hqb
      clear hqb
      go_wp2
      refine start_ (n := 12) (S := fun w' => w'.cell? ⟨qa, 1, none⟩ = some (.int .u64 x1) ∧ w'.cell? ⟨qb, 1, none⟩ = some (.int .u64 y1)) (ds := [11]) #[false, false, false, false, false, false, false, false, false, false, false, false] (by kernel_rfl) rfl rfl ⟨a0, b0⟩ (fun hHeld => ?_)
      refine pure_ (i := 0) (N := some 9) (v := ?_) (a' := ?_) #[true, false, false, false, false, false, false, false, false, false, false, false] rfl rfl (by kernel_rfl) (fun _ _ _ h => h) (Or.inl ⟨by rfl, ?_⟩) ?_ ?_
      rotate_left
      · intro w'
        go_simp
        with_reducible rfl
      rotate_left
      · simp only [Act.put, List.setIfInBounds_toArray, List.set_cons_zero, List.set_cons_succ, i64_w, i32_w]
        rfl
      refine pure_ (i := 1) (N := some 10) (v := ?_) (a' := ?_) #[true, true, false, false, false, false, false, false, false, false, false, false] rfl rfl (by kernel_rfl) (fun _ _ _ h => h) (Or.inl ⟨by rfl, ?_⟩) ?_ ?_
      rotate_left
      · intro w'
        go_simp
        with_reducible rfl
      rotate_left
      · simp only [Act.put, List.setIfInBounds_toArray, List.set_cons_zero, List.set_cons_succ, i64_w, i32_w]
        rfl
      refine pure_ (i := 2) (N := some 11) (v := ?_) (a' := ?_) #[true, true, true, false, false, false, false, false, false, false, false, false] rfl rfl (by kernel_rfl) (fun _ _ _ h => h) (Or.inl ⟨by rfl, ?_⟩) ?_ ?_
      rotate_left
      · intro w'
        go_simp
        with_reducible rfl
      rotate_left
      · simp only [Act.put, List.setIfInBounds_toArray, List.set_cons_zero, List.set_cons_succ, i64_w, i32_w]
        rfl
      refine pure_ (i := 4) (N := some 13) (v := ?_) (a' := ?_) #[true, true, true, false, true, false, false, false, false, false, false, false] rfl rfl (by kernel_rfl) (fun _ _ _ h => h) (Or.inl ⟨by rfl, ?_⟩) ?_ ?_
      rotate_left
      · intro w'
        go_simp
        with_reducible rfl
      rotate_left
      · simp only [Act.put, List.setIfInBounds_toArray, List.set_cons_zero, List.set_cons_succ, i64_w, i32_w]
        rfl
      refine pure_ (i := 5) (N := some 14) (v := ?_) (a' := ?_) #[true, true, true, false, true, true, false, false, false, false, false, false] rfl rfl (by kernel_rfl) (fun _ _ _ h => h) (Or.inl ⟨by rfl, ?_⟩) ?_ ?_
      rotate_left
      · intro w'
        go_simp
        with_reducible rfl
      rotate_left
      · simp only [Act.put, List.setIfInBounds_toArray, List.set_cons_zero, List.set_cons_succ, i64_w, i32_w]
        rfl
      refine pure_ (i := 6) (N := some 15) (v := ?_) (a' := ?_) #[true, true, true, false, true, true, true, false, false, false, false, false] rfl rfl (by kernel_rfl) (fun _ _ _ h => h) (Or.inl ⟨by rfl, ?_⟩) ?_ ?_
      rotate_left
      · intro w'
        go_simp
        with_reducible rfl
      rotate_left
      · simp only [Act.put, List.setIfInBounds_toArray, List.set_cons_zero, List.set_cons_succ, i64_w, i32_w]
        rfl
      refine pure_ (i := 9) (N := some 18) (v := ?_) (a' := ?_) #[true, true, true, false, true, true, true, false, false, true, false, false] rfl rfl (by kernel_rfl) (fun _ _ _ h => h) (Or.inl ⟨by rfl, ?_⟩) ?_ ?_
      rotate_left
      · intro w'
        go_simp
        with_reducible rfl
      rotate_left
      · simp only [Act.put, List.setIfInBounds_toArray, List.set_cons_zero, List.set_cons_succ, i64_w, i32_w]
        rfl
      refine take_ (i := 3) (N := some 12) (v := ?_) (a' := ?_) #[true, true, true, true, true, true, true, false, false, true, false, false] rfl rfl (by kernel_rfl) (fun _ _ _ h => h) (Or.inl ⟨by rfl, ?_⟩) hHeld ?_ ?_
      rotate_left
      · rintro w' ⟨s0, s1⟩
        go_simp
        with_reducible rfl
      rotate_left
      · simp only [Act.put, List.setIfInBounds_toArray, List.set_cons_zero, List.set_cons_succ, i64_w, i32_w]
        rfl
      refine take_ (i := 7) (N := some 16) (v := ?_) (a' := ?_) #[true, true, true, true, true, true, true, true, false, true, false, false] rfl rfl (by kernel_rfl) (fun _ _ _ h => h) (Or.inl ⟨by rfl, ?_⟩) hHeld ?_ ?_
      rotate_left
      · rintro w' ⟨s0, s1⟩
        go_simp
        with_reducible rfl
      rotate_left
      · simp only [Act.put, List.setIfInBounds_toArray, List.set_cons_zero, List.set_cons_succ, i64_w, i32_w]
        rfl
      refine pure_ (i := 8) (N := some 17) (v := ?_) (a' := ?_) #[true, true, true, true, true, true, true, true, true, true, false, false] rfl rfl (by kernel_rfl) (fun _ _ _ h => h) (Or.inl ⟨by rfl, ?_⟩) ?_ ?_
      rotate_left
      · intro w'
        go_simp
        with_reducible rfl
      rotate_left
      · simp only [Act.put, List.setIfInBounds_toArray, List.set_cons_zero, List.set_cons_succ, i64_w, i32_w]
        rfl
      refine pure_ (i := 10) (N := some 19) (v := ?_) (a' := ?_) #[true, true, true, true, true, true, true, true, true, true, true, false] rfl rfl (by kernel_rfl) (fun _ _ _ h => h) (Or.inl ⟨by rfl, ?_⟩) ?_ ?_
      rotate_left
      · intro w'
        go_simp
        with_reducible rfl
      rotate_left
      · simp only [Act.put, List.setIfInBounds_toArray, List.set_cons_zero, List.set_cons_succ, i64_w, i32_w]
        rfl
      refine last_ (i := 11) (N := none) #[true, true, true, true, true, true, true, true, true, true, true, true] rfl rfl (by kernel_rfl) (by decide) (fun K hK => ?_)
      refine skip_ (w1 := ?_) (by rfl) rfl ?_ ?_
      rotate_left
      · go_simp
        rfl
      refine hK.out _ _ ?_
      clear hK K
      refine done_ (by kernel_rfl) ?_
      go_wp2
      go_roundw
      case rel => exact ⟨2, by omega, by simp, HN, HY, HR, Lib.hid HB2.out.drew⟩
      case measure => simp [intOf]
    · have hq : wr.heap[w.heap.size]? = some (.cells #[.int .u64 z0, .int .u64 z1, .int .u64 x2, .int .u64 x3] 25 (0, 0)) := BA1.out
      have a0 := blk_cell hq 2 (.int .u64 x2) rfl
      have f0 := blk_free hq 2
      have HN := Lib.hid (set_blk (i := 2) hq (.int .u64 z2))
      have HR := Lib.hid (set_other (i := 2) (v := .int .u64 z2) BR1.out NR.out)
      have HB2 := Lib.hid (below_set (i := 2) HB1.out (Nat.le_refl _) (.int .u64 z2))
      have b0 := blk_cell BB1.out 2 (.int .u64 y2) rfl
      have HY := Lib.hid (set_other (i := 2) (v := .int .u64 z2) BB1.out (show w.heap.size + 1 ≠ w.heap.size by omega))
      clear hq
      generalize hqe : w.heap.size = qa at *
      have HQE := Lib.hid hqe
      clear hqe
      generalize hqb : qa + 1 = qb at *
      have HQB := Lib.hid hqb
      clear hqb
      go_wp2
      refine start_ (n := 12) (S := fun w' => w'.cell? ⟨qa, 2, none⟩ = some (.int .u64 x2) ∧ w'.cell? ⟨qb, 2, none⟩ = some (.int .u64 y2)) (ds := [11]) #[false, false, false, false, false, false, false, false, false, false, false, false] (by kernel_rfl) rfl rfl ⟨a0, b0⟩ (fun hHeld => ?_)
      refine pure_ (i := 0) (N := some 9) (v := ?_) (a' := ?_) #[true, false, false, false, false, false, false, false, false, false, false, false] rfl rfl (by kernel_rfl) (fun _ _ _ h => h) (Or.inl ⟨by rfl, ?_⟩) ?_ ?_
      rotate_left
      · intro w'
        go_simp
        with_reducible rfl
      rotate_left
      · simp only [Act.put, List.setIfInBounds_toArray, List.set_cons_zero, List.set_cons_succ, i64_w, i32_w]
        rfl
      refine pure_ (i := 1) (N := some 10) (v := ?_) (a' := ?_) #[true, true, false, false, false, false, false, false, false, false, false, false] rfl rfl (by kernel_rfl) (fun _ _ _ h => h) (Or.inl ⟨by rfl, ?_⟩) ?_ ?_
      rotate_left
      · intro w'
        go_simp
        with_reducible rfl
      rotate_left
      · simp only [Act.put, List.setIfInBounds_toArray, List.set_cons_zero, List.set_cons_succ, i64_w, i32_w]
        rfl
      refine pure_ (i := 2) (N := some 11) (v := ?_) (a' := ?_) #[true, true, true, false, false, false, false, false, false, false, false, false] rfl rfl (by kernel_rfl) (fun _ _ _ h => h) (Or.inl ⟨by rfl, ?_⟩) ?_ ?_
      rotate_left
      · intro w'
        go_simp
        with_reducible rfl
      rotate_left
      · simp only [Act.put, List.setIfInBounds_toArray, List.set_cons_zero, List.set_cons_succ, i64_w, i32_w]
        rfl
      refine pure_ (i := 4) (N := some 13) (v := ?_) (a' := ?_) #[true, true, true, false, true, false, false, false, false, false, false, false] rfl rfl (by kernel_rfl) (fun _ _ _ h => h) (Or.inl ⟨by rfl, ?_⟩) ?_ ?_
      rotate_left
      · intro w'
        go_simp
        with_reducible rfl
      rotate_left
      · simp only [Act.put, List.setIfInBounds_toArray, List.set_cons_zero, List.set_cons_succ, i64_w, i32_w]
        rfl
      refine pure_ (i := 5) (N := some 14) (v := ?_) (a' := ?_) #[true, true, true, false, true, true, false, false, false, false, false, false] rfl rfl (by kernel_rfl) (fun _ _ _ h => h) (Or.inl ⟨by rfl, ?_⟩) ?_ ?_
      rotate_left
      · intro w'
        go_simp
        with_reducible rfl
      rotate_left
      · simp only [Act.put, List.setIfInBounds_toArray, List.set_cons_zero, List.set_cons_succ, i64_w, i32_w]
        rfl
      refine pure_ (i := 6) (N := some 15) (v := ?_) (a' := ?_) #[true, true, true, false, true, true, true, false, false, false, false, false] rfl rfl (by kernel_rfl) (fun _ _ _ h => h) (Or.inl ⟨by rfl, ?_⟩) ?_ ?_
      rotate_left
      · intro w'
        go_simp
        with_reducible rfl
      rotate_left
      · simp only [Act.put, List.setIfInBounds_toArray, List.set_cons_zero, List.set_cons_succ, i64_w, i32_w]
        rfl
      refine pure_ (i := 9) (N := some 18) (v := ?_) (a' := ?_) #[true, true, true, false, true, true, true, false, false, true, false, false] rfl rfl (by kernel_rfl) (fun _ _ _ h => h) (Or.inl ⟨by rfl, ?_⟩) ?_ ?_
      rotate_left
      · intro w'
        go_simp
        with_reducible rfl
      rotate_left
      · simp only [Act.put, List.setIfInBounds_toArray, List.set_cons_zero, List.set_cons_succ, i64_w, i32_w]
        rfl
      refine take_ (i := 3) (N := some 12) (v := ?_) (a' := ?_) #[true, true, true, true, true, true, true, false, false, true, false, false] rfl rfl (by kernel_rfl) (fun _ _ _ h => h) (Or.inl ⟨by rfl, ?_⟩) hHeld ?_ ?_
      rotate_left
      · rintro w' ⟨s0, s1⟩
        go_simp
        with_reducible rfl
      rotate_left
      · simp only [Act.put, List.setIfInBounds_toArray, List.set_cons_zero, List.set_cons_succ, i64_w, i32_w]
        rfl
      refine take_ (i := 7) (N := some 16) (v := ?_) (a' := ?_) #[true, true, true, true, true, true, true, true, false, true, false, false] rfl rfl (by kernel_rfl) (fun _ _ _ h => h) (Or.inl ⟨by rfl, ?_⟩) hHeld ?_ ?_
      rotate_left
      · rintro w' ⟨s0, s1⟩
        go_simp
        with_reducible rfl
      rotate_left
      · simp only [Act.put, List.setIfInBounds_toArray, List.set_cons_zero, List.set_cons_succ, i64_w, i32_w]
        rfl
      refine pure_ (i := 8) (N := some 17) (v := ?_) (a' := ?_) #[true, true, true, true, true, true, true, true, true, true, false, false] rfl rfl (by kernel_rfl) (fun _ _ _ h => h) (Or.inl ⟨by rfl, ?_⟩) ?_ ?_
      rotate_left
      · intro w'
        go_simp
        with_reducible rfl
      rotate_left
      · simp only [Act.put, List.setIfInBounds_toArray, List.set_cons_zero, List.set_cons_succ, i64_w, i32_w]
        rfl
      refine pure_ (i := 10) (N := some 19) (v := ?_) (a' := ?_) #[true, true, true, true, true, true, true, true, true, true, true, false] rfl rfl (by kernel_rfl) (fun _ _ _ h => h) (Or.inl ⟨by rfl, ?_⟩) ?_ ?_
      rotate_left
      · intro w'
        go_simp
        with_reducible rfl
      rotate_left
      · simp only [Act.put, List.setIfInBounds_toArray, List.set_cons_zero, List.set_cons_succ, i64_w, i32_w]
        rfl
      refine last_ (i := 11) (N := none) #[true, true, true, true, true, true, true, true, true, true, true, true] rfl rfl (by kernel_rfl) (by decide) (fun K hK => ?_)
      refine skip_ (w1 := ?_) (by rfl) rfl ?_ ?_
      rotate_left
      · go_simp
        rfl
      refine hK.out _ _ ?_
      clear hK K
      refine done_ (by kernel_rfl) ?_
      go_wp2
      go_roundw
      case rel => exact ⟨3, by omega, by simp, HN, HY, HR, Lib.hid HB2.out.drew⟩
      case measure => simp [intOf]
    · have hq : wr.heap[w.heap.size]? = some (.cells #[.int .u64 z0, .int .u64 z1, .int .u64 z2, .int .u64 x3] 25 (0, 0)) := BA1.out
      have a0 := blk_cell hq 3 (.int .u64 x3) rfl
      have f0 := blk_free hq 3
      have HN := Lib.hid (set_blk (i := 3) hq (.int .u64 z3))
      have HR := Lib.hid (set_other (i := 3) (v := .int .u64 z3) BR1.out NR.out)
      have HB2 := Lib.hid (below_set (i := 3) HB1.out (Nat.le_refl _) (.int .u64 z3))
      have b0 := blk_cell BB1.out 3 (.int .u64 y3) rfl
      have HY := Lib.hid (set_other (i := 3) (v := .int .u64 z3) BB1.out (show w.heap.size + 1 ≠ w.heap.size by omega))
      clear hq
      generalize hqe : w.heap.size = qa at *
      have HQE := Lib.hid hqe
      clear hqe
      generalize hqb : qa + 1 = qb at *
      have HQB := Lib.hid hqb
      clear hqb
      go_wp2
      refine start_ (n := 12) (S := fun w' => w'.cell? ⟨qa, 3, none⟩ = some (.int .u64 x3) ∧ w'.cell? ⟨qb, 3, none⟩ = some (.int .u64 y3)) (ds := [11]) #[false, false, false, false, false, false, false, false, false, false, false, false] (by kernel_rfl) rfl rfl ⟨a0, b0⟩ (fun hHeld => ?_)
      refine pure_ (i := 0) (N := some 9) (v := ?_) (a' := ?_) #[true, false, false, false, false, false, false, false, false, false, false, false] rfl rfl (by kernel_rfl) (fun _ _ _ h => h) (Or.inl ⟨by rfl, ?_⟩) ?_ ?_
      rotate_left
      · intro w'
        go_simp
        with_reducible rfl
      rotate_left
      · simp only [Act.put, List.setIfInBounds_toArray, List.set_cons_zero, List.set_cons_succ, i64_w, i32_w]
        rfl
      refine pure_ (i := 1) (N := some 10) (v := ?_) (a' := ?_) #[true, true, false, false, false, false, false, false, false, false, false, false] rfl rfl (by kernel_rfl) (fun _ _ _ h => h) (Or.inl ⟨by rfl, ?_⟩) ?_ ?_
      rotate_left
      · intro w'
        go_simp
        with_reducible rfl
      rotate_left
      · simp only [Act.put, List.setIfInBounds_toArray, List.set_cons_zero, List.set_cons_succ, i64_w, i32_w]
        rfl
      refine pure_ (i := 2) (N := some 11) (v := ?_) (a' := ?_) #[true, true, true, false, false, false, false, false, false, false, false, false] rfl rfl (by kernel_rfl) (fun _ _ _ h => h) (Or.inl ⟨by rfl, ?_⟩) ?_ ?_
      rotate_left
      · intro w'
        go_simp
        with_reducible rfl
      rotate_left
      · simp only [Act.put, List.setIfInBounds_toArray, List.set_cons_zero, List.set_cons_succ, i64_w, i32_w]
        rfl
      refine pure_ (i := 4) (N := some 13) (v := ?_) (a' := ?_) #[true, true, true, false, true, false, false, false, false, false, false, false] rfl rfl (by kernel_rfl) (fun _ _ _ h => h) (Or.inl ⟨by rfl, ?_⟩) ?_ ?_
      rotate_left
      · intro w'
        go_simp
        with_reducible rfl
      rotate_left
      · simp only [Act.put, List.setIfInBounds_toArray, List.set_cons_zero, List.set_cons_succ, i64_w, i32_w]
        rfl
      refine pure_ (i := 5) (N := some 14) (v := ?_) (a' := ?_) #[true, true, true, false, true, true, false, false, false, false, false, false] rfl rfl (by kernel_rfl) (fun _ _ _ h => h) (Or.inl ⟨by rfl, ?_⟩) ?_ ?_
      rotate_left
      · intro w'
        go_simp
        with_reducible rfl
      rotate_left
      · simp only [Act.put, List.setIfInBounds_toArray, List.set_cons_zero, List.set_cons_succ, i64_w, i32_w]
        rfl
      refine pure_ (i := 6) (N := some 15) (v := ?_) (a' := ?_) #[true, true, true, false, true, true, true, false, false, false, false, false] rfl rfl (by kernel_rfl) (fun _ _ _ h => h) (Or.inl ⟨by rfl, ?_⟩) ?_ ?_
      rotate_left
      · intro w'
        go_simp
        with_reducible rfl
      rotate_left
      · simp only [Act.put, List.setIfInBounds_toArray, List.set_cons_zero, List.set_cons_succ, i64_w, i32_w]
        rfl
      refine pure_ (i := 9) (N := some 18) (v := ?_) (a' := ?_) #[true, true, true, false, true, true, true, false, false, true, false, false] rfl rfl (by kernel_rfl) (fun _ _ _ h => h) (Or.inl ⟨by rfl, ?_⟩) ?_ ?_
      rotate_left
      · intro w'
        go_simp
        with_reducible rfl
      rotate_left
      · simp only [Act.put, List.setIfInBounds_toArray, List.set_cons_zero, List.set_cons_succ, i64_w, i32_w]
        rfl
      refine take_ (i := 3) (N := some 12) (v := ?_) (a' := ?_) #[true, true, true, true, true, true, true, false, false, true, false, false] rfl rfl (by kernel_rfl) (fun _ _ _ h => h) (Or.inl ⟨by rfl, ?_⟩) hHeld ?_ ?_
      rotate_left
      · rintro w' ⟨s0, s1⟩
        go_simp
        with_reducible rfl
      rotate_left
      · simp only [Act.put, List.setIfInBounds_toArray, List.set_cons_zero, List.set_cons_succ, i64_w, i32_w]
        rfl
      refine take_ (i := 7) (N := some 16) (v := ?_) (a' := ?_) #[true, true, true, true, true, true, true, true, false, true, false, false] rfl rfl (by kernel_rfl) (fun _ _ _ h => h) (Or.inl ⟨by rfl, ?_⟩) hHeld ?_ ?_
      rotate_left
      · rintro w' ⟨s0, s1⟩
        go_simp
        with_reducible rfl
      rotate_left
      · simp only [Act.put, List.setIfInBounds_toArray, List.set_cons_zero, List.set_cons_succ, i64_w, i32_w]
        rfl
      refine pure_ (i := 8) (N := some 17) (v := ?_) (a' := ?_) #[true, true, true, true, true, true, true, true, true, true, false, false] rfl rfl (by kernel_rfl) (fun _ _ _ h => h) (Or.inl ⟨by rfl, ?_⟩) ?_ ?_
      rotate_left
      · intro w'
        go_simp
        with_reducible rfl
      rotate_left
      · simp only [Act.put, List.setIfInBounds_toArray, List.set_cons_zero, List.set_cons_succ, i64_w, i32_w]
        rfl
      refine pure_ (i := 10) (N := some 19) (v := ?_) (a' := ?_) #[true, true, true, true, true, true, true, true, true, true, true, false] rfl rfl (by kernel_rfl) (fun _ _ _ h => h) (Or.inl ⟨by rfl, ?_⟩) ?_ ?_
      rotate_left
      · intro w'
        go_simp
        with_reducible rfl
      rotate_left
      · simp only [Act.put, List.setIfInBounds_toArray, List.set_cons_zero, List.set_cons_succ, i64_w, i32_w]
        rfl
      refine last_ (i := 11) (N := none) #[true, true, true, true, true, true, true, true, true, true, true, true] rfl rfl (by kernel_rfl) (by decide) (fun K hK => ?_)
      refine skip_ (w1 := ?_) (by rfl) rfl ?_ ?_
      rotate_left
      · go_simp
        rfl
      refine hK.out _ _ ?_
      clear hK K
      refine done_ (by kernel_rfl) ?_
      go_wp2
      go_roundw
      case rel => exact ⟨4, by omega, by simp, HN, HY, HR, Lib.hid HB2.out.drew⟩
      case measure => simp [intOf]
    · have hq : wr.heap[w.heap.size]? = some (.cells #[.int .u64 z0, .int .u64 z1, .int .u64 z2, .int .u64 z3] 25 (0, 0)) := BA1.out
      have a0 := blk_cell hq 0 (.int .u64 z0) rfl
      have a1 := blk_cell hq 1 (.int .u64 z1) rfl
      have a2 := blk_cell hq 2 (.int .u64 z2) rfl
      have a3 := blk_cell hq 3 (.int .u64 z3) rfl
      obtain ⟨c0, c1, c2, c3, f0, f1, f2, f3, zz⟩ := set_four BR1.out (.int .u64 z0) (.int .u64 z1) (.int .u64 z2) (.int .u64 z3)
      have ZZ := Lib.hid zz
      clear zz hq
      go_wp2
      refine bodyPost_ret (results_cell_row rfl _ _ qr 25 #[.int .u64 z0, .int .u64 z1, .int .u64 z2, .int .u64 z3] (0, 0) _ rfl ZZ.out Tryd.underlying25 rfl (by kernel_rfl)) rfl ?_
      exact ⟨rfl, below_four HB1.out LR.out _ _ _ _⟩
set_option maxHeartbeats 3200000 in
theorem not_walk (x0 x1 x2 x3 z0 z1 z2 z3 : Int) (w : World) (h0 : bits BinOp.xor IntKind.u64 (if IntKind.u64.signed = true then -1 else IntKind.u64.max) x0 = z0) (h1 : bits BinOp.xor IntKind.u64 (if IntKind.u64.signed = true then -1 else IntKind.u64.max) x1 = z1) (h2 : bits BinOp.xor IntKind.u64 (if IntKind.u64.signed = true then -1 else IntKind.u64.max) x2 = z2) (h3 : bits BinOp.xor IntKind.u64 (if IntKind.u64.signed = true then -1 else IntKind.u64.max) x3 = z3) :
    Calls Tryd.prog 24 #[.agg #[.int .u64 x0, .int .u64 x1, .int .u64 x2, .int .u64 x3]] w fun e w' => e = .returned (.agg #[.int .u64 z0, .int .u64 z1, .int .u64 z2, .int .u64 z3]) ∧ Below w.heap.size w w' := by
  have BA := Lib.hid (blk_alloc (heap_alloc_new w (.cells #[.int .u64 x0, .int .u64 x1, .int .u64 x2, .int .u64 x3] 25)) (.cells #[.int .u64 0, .int .u64 0, .int .u64 0, .int .u64 0] 25))
  have BR := Lib.hid (blk2 w (.cells #[.int .u64 x0, .int .u64 x1, .int .u64 x2, .int .u64 x3] 25) #[.int .u64 0, .int .u64 0, .int .u64 0, .int .u64 0] 25)
  have HB := Lib.hid (below2 w (.cells #[.int .u64 x0, .int .u64 x1, .int .u64 x2, .int .u64 x3] 25) (.cells #[.int .u64 0, .int .u64 0, .int .u64 0, .int .u64 0] 25))
  go_enter Tryd.func24, Tryd.ntmps24
  go_wp2
  generalize (w.alloc (.cells #[.int .u64 x0, .int .u64 x1, .int .u64 x2, .int .u64 x3] 25)).alloc (.cells #[.int .u64 0, .int .u64 0, .int .u64 0, .int .u64 0] 25) = w2 at *
  obtain ⟨qr, hqr⟩ : ∃ qr, w.heap.size + 1 = qr := ⟨_, rfl⟩
  have LR := Lib.hid (show w.heap.size ≤ qr by omega)
  have NR := Lib.hid (show qr ≠ w.heap.size by omega)
  rw [show w.heap.size + 1 = qr from hqr]
  rw [show w.heap.size + 1 = qr by omega] at BR
  clear hqr
  go_loopw [4] (fun t wr => ∃ k : Nat, k ≤ 4 ∧ t = .int .i64 (k : Nat) ∧ Hid (wr.heap[w.heap.size]? = some (.cells (mx k x0 x1 x2 x3 z0 z1 z2 z3) 25 (0, 0))) ∧ Hid (wr.heap[qr]? = some (.cells #[.int .u64 0, .int .u64 0, .int .u64 0, .int .u64 0] 25 (0, 0))) ∧ Hid (Below w.heap.size w wr)) (fun t _ => 4 - (intOf t).toNat)
  case atStart => exact ⟨0, by omega, rfl, BA, BR, HB⟩
  case round =>
    obtain ⟨k, hk, rfl, BA1, BR1, HB1⟩ := hrel
    clear BA BR HB
    have hc : k = 0 ∨ k = 1 ∨ k = 2 ∨ k = 3 ∨ k = 4 := by omega
    rcases hc with rfl | rfl | rfl | rfl | rfl
    · have hq : wr.heap[w.heap.size]? = some (.cells #[.int .u64 x0, .int .u64 x1, .int .u64 x2, .int .u64 x3] 25 (0, 0)) := BA1.out
      have a0 := blk_cell hq 0 (.int .u64 x0) rfl
      have f0 := blk_free hq 0
      have HN := Lib.hid (set_blk (i := 0) hq (.int .u64 z0))
      have HR := Lib.hid (set_other (i := 0) (v := .int .u64 z0) BR1.out NR.out)
      have HB2 := Lib.hid (below_set (i := 0) HB1.out (Nat.le_refl _) (.int .u64 z0))
      clear hq
      go_wp2
      go_roundw
      case rel => exact ⟨1, by omega, by simp, HN, HR, HB2⟩
      case measure => simp [intOf]
    · have hq : wr.heap[w.heap.size]? = some (.cells #[.int .u64 z0, .int .u64 x1, .int .u64 x2, .int .u64 x3] 25 (0, 0)) := BA1.out
      have a0 := blk_cell hq 1 (.int .u64 x1) rfl
      have f0 := blk_free hq 1
      have HN := Lib.hid (set_blk (i := 1) hq (.int .u64 z1))
      have HR := Lib.hid (set_other (i := 1) (v := .int .u64 z1) BR1.out NR.out)
      have HB2 := Lib.hid (below_set (i := 1) HB1.out (Nat.le_refl _) (.int .u64 z1))
      clear hq
      go_wp2
      go_roundw
      case rel => exact ⟨2, by omega, by simp, HN, HR, HB2⟩
      case measure => simp [intOf]
    · have hq : wr.heap[w.heap.size]? = some (.cells #[.int .u64 z0, .int .u64 z1, .int .u64 x2, .int .u64 x3] 25 (0, 0)) := BA1.out
      have a0 := blk_cell hq 2 (.int .u64 x2) rfl
      have f0 := blk_free hq 2
      have HN := Lib.hid (set_blk (i := 2) hq (.int .u64 z2))
      have HR := Lib.hid (set_other (i := 2) (v := .int .u64 z2) BR1.out NR.out)
      have HB2 := Lib.hid (below_set (i := 2) HB1.out (Nat.le_refl _) (.int .u64 z2))
      clear hq
      go_wp2
      go_roundw
      case rel => exact ⟨3, by omega, by simp, HN, HR, HB2⟩
      case measure => simp [intOf]
    · have hq : wr.heap[w.heap.size]? = some (.cells #[.int .u64 z0, .int .u64 z1, .int .u64 z2, .int .u64 x3] 25 (0, 0)) := BA1.out
      have a0 := blk_cell hq 3 (.int .u64 x3) rfl
      have f0 := blk_free hq 3
      have HN := Lib.hid (set_blk (i := 3) hq (.int .u64 z3))
      have HR := Lib.hid (set_other (i := 3) (v := .int .u64 z3) BR1.out NR.out)
      have HB2 := Lib.hid (below_set (i := 3) HB1.out (Nat.le_refl _) (.int .u64 z3))
      clear hq
      go_wp2
      go_roundw
      case rel => exact ⟨4, by omega, by simp, HN, HR, HB2⟩
      case measure => simp [intOf]
    · have hq : wr.heap[w.heap.size]? = some (.cells #[.int .u64 z0, .int .u64 z1, .int .u64 z2, .int .u64 z3] 25 (0, 0)) := BA1.out
      have a0 := blk_cell hq 0 (.int .u64 z0) rfl
      have a1 := blk_cell hq 1 (.int .u64 z1) rfl
      have a2 := blk_cell hq 2 (.int .u64 z2) rfl
      have a3 := blk_cell hq 3 (.int .u64 z3) rfl
      obtain ⟨c0, c1, c2, c3, f0, f1, f2, f3, zz⟩ := set_four BR1.out (.int .u64 z0) (.int .u64 z1) (.int .u64 z2) (.int .u64 z3)
      have ZZ := Lib.hid zz
      clear zz hq
      go_wp2
      refine bodyPost_ret (results_cell_row rfl _ _ qr 25 #[.int .u64 z0, .int .u64 z1, .int .u64 z2, .int .u64 z3] (0, 0) _ rfl ZZ.out Tryd.underlying25 rfl (by kernel_rfl)) rfl ?_
      exact ⟨rfl, below_four HB1.out LR.out _ _ _ _⟩
theorem or_calls (N M : Nat) (w : World) : Calls Tryd.prog 19 #[.agg (sc N), .agg (sc M)] w fun e w' => e = .returned (.agg (sc (N ||| M))) ∧ Below w.heap.size w w' := by
  have h : ∀ i, bits BinOp.or IntKind.u64 ((wd N i : Nat) : Int) ((wd M i : Nat) : Int) = ((wd (N ||| M) i : Nat) : Int) := fun i => by
    rw [wd_or]
    exact u64_or_nat _ _ (wd_lt N i) (wd_lt M i)
  exact or_walk _ _ _ _ _ _ _ _ _ _ _ _ w (h 0) (h 1) (h 2) (h 3)
theorem and_calls (N M : Nat) (w : World) : Calls Tryd.prog 22 #[.agg (sc N), .agg (sc M)] w fun e w' => e = .returned (.agg (sc (N &&& M))) ∧ Below w.heap.size w w' := by
  have h : ∀ i, bits BinOp.and IntKind.u64 ((wd N i : Nat) : Int) ((wd M i : Nat) : Int) = ((wd (N &&& M) i : Nat) : Int) := fun i => by
    rw [wd_and]
    exact u64_and_nat _ _ (wd_lt N i) (wd_lt M i)
  exact and_walk _ _ _ _ _ _ _ _ _ _ _ _ w (h 0) (h 1) (h 2) (h 3)
theorem not_run (x : Nat) (hx : x < 18446744073709551616) : bits BinOp.xor IntKind.u64 (if IntKind.u64.signed = true then -1 else IntKind.u64.max) (x : Int) = ((18446744073709551615 - x : Nat) : Int) := by
  rw [show (if IntKind.u64.signed = true then (-1 : Int) else IntKind.u64.max) = ((18446744073709551615 : Nat) : Int) by decide, u64_xor_nat _ _ (by decide) hx]
  congr 1
  apply Nat.eq_of_testBit_eq
  intro i
  rw [Nat.testBit_xor, show 18446744073709551615 - x = 2 ^ 64 - (x + 1) by omega, Nat.testBit_two_pow_sub_succ hx, show (18446744073709551615 : Nat) = 2 ^ 64 - 1 by decide, Nat.testBit_two_pow_sub_one]
  by_cases h : i < 64
  · simp [h]
  · have : x < 2 ^ i := Nat.lt_of_lt_of_le (show x < 2 ^ 64 from hx) (Nat.pow_le_pow_right (by decide) (show 64 ≤ i by omega))
    simp [h, Nat.testBit_lt_two_pow this]
theorem not_calls (N : Nat) (hN : N < 2 ^ 256) (w : World) : Calls Tryd.prog 24 #[.agg (sc N)] w fun e w' => e = .returned (.agg (sc (notN N))) ∧ Below w.heap.size w w' := by
  have h : ∀ i, i < 4 → bits BinOp.xor IntKind.u64 (if IntKind.u64.signed = true then -1 else IntKind.u64.max) ((wd N i : Nat) : Int) = ((wd (notN N) i : Nat) : Int) := fun i hi => by
    rw [wd_not hN i hi]
    exact not_run _ (wd_lt N i)
  exact not_walk _ _ _ _ _ _ _ _ w (h 0 (by decide)) (h 1 (by decide)) (h 2 (by decide)) (h 3 (by decide))
theorem not_zero : notN 0 = 2 ^ 256 - 1 := rfl
set_option maxHeartbeats 1600000 in
theorem all_calls (w : World) : Calls Tryd.prog 34 #[] w fun e w' => e = .returned (.agg (sc (notN 0))) ∧ Below w.heap.size w w' := by
  have BR := Lib.hid (heap_alloc_new w (.cells #[.int .u64 0, .int .u64 0, .int .u64 0, .int .u64 0] 25))
  have hc := not_calls 0 (by decide) (w.alloc (.cells #[.int .u64 0, .int .u64 0, .int .u64 0, .int .u64 0] 25))
  rw [sc_zero] at hc
  have HC := Lib.hid hc
  clear hc
  unfold sc at HC ⊢
  generalize wd (notN 0) 0 = x0 at *
  generalize wd (notN 0) 1 = x1 at *
  generalize wd (notN 0) 2 = x2 at *
  generalize wd (notN 0) 3 = x3 at *
  go_enter Tryd.func34, Tryd.ntmps34
  go_wp2_with fail
  refine HC.out.mono ?_
  rintro e w1 ⟨rfl, hb⟩
  obtain ⟨z0, z1, z2, z3, f0, f1, f2, f3, zz⟩ := set_four (below_blk hb BR.out) (.int .u64 x0) (.int .u64 x1) (.int .u64 x2) (.int .u64 x3)
  have ZZ := Lib.hid zz
  have HB := Lib.hid (below_step (below1 w _) hb)
  clear zz hb
  go_wp2
  refine bodyPost_ret (results_cell_row rfl _ _ w.heap.size 25 #[.int .u64 x0, .int .u64 x1, .int .u64 x2, .int .u64 x3] (0, 0) _ rfl ZZ.out Tryd.underlying25 rfl (by kernel_rfl)) rfl ?_
  exact ⟨rfl, below_four HB.out (Nat.le_refl _) _ _ _ _⟩
end Go.Proofs.YtdociniomegpnaaDoor.COps
