/- What two budgets allow: both functions answer alike. -/
import Derived.Test.YtijnncnglkjpgaaKRight
namespace Go.Proofs.Ytijnncnglkjpgaa.KLeast
open Go.RowKit KFlt KKind KRight Go.Proofs.YtijnncnglkjpgaaW.PrintWords Go.Proofs.YtijnncnglkjpgaaW.PrintLast Go.Proofs.YtijnncnglkjpgaaW.PrintMore
set_option linter.unusedVariables false
attribute [local go_sem] KKind.run_store_float
set_option linter.unusedSimpArgs false

def lsB (x y : Nat) : Bool := (FloatKind.f64.format.order x y == some Ordering.lt)
def lessF (a b : Nat) : Nat := if lsB b a then b else a
theorem blk3 (w : World) (a b : Obj) (cs : Array Value) (t : TypeId) : (((w.alloc a).alloc b).alloc (.cells cs t)).heap[w.heap.size + 2]? = some (.cells cs t (0, 0)) := by
  have h := blk2 (w.alloc a) b cs t
  rwa [show (w.alloc a).heap.size + 1 = w.heap.size + 2 by simp] at h
theorem below3 (w : World) (a b c : Obj) : Below w.heap.size w (((w.alloc a).alloc b).alloc c) := (below2 w a b).alloc (by simp; omega) _
theorem less_calls (a b : Nat) (w : World) : Calls Try.prog 34 #[.float .f64 a, .float .f64 b] w fun e w' => e = .returned (.float .f64 (lessF a b)) ∧ w' = w := by
  unfold lessF
  have h : lsB b a = lsB b a := rfl
  conv at h => lhs; unfold lsB
  cases h1 : lsB b a <;> rw [h1] at h <;> (
    go_enter Try.func34, Try.ntmps34
    go_wp2
    go_ret
    exact ⟨rfl, rfl⟩)
theorem least_calls (s r t u : Nat) (w : World) : Calls Try.prog 17 #[.agg #[.float .f64 s, .float .f64 r], .agg #[.float .f64 t, .float .f64 u]] w fun e w' => e = .returned (.agg #[.float .f64 (lessF s t), .float .f64 (lessF r u)]) ∧ Below w.heap.size w w' := by
  unfold lessF
  have h : lsB t s = lsB t s := rfl
  conv at h => lhs; unfold lsB
  have g : lsB u r = lsB u r := rfl
  conv at g => lhs; unfold lsB
  cases h1 : lsB t s <;> rw [h1] at h <;> cases h2 : lsB u r <;> rw [h2] at g <;> (
    go_enter Try.func17, Try.ntmps17
    go_wp2
    refine bodyPost_ret (results_cell_row rfl _ _ (w.heap.size + 2) 24 #[.float .f64 _, .float .f64 _] (0, 0) _ rfl (blk3 _ _ _ _ _) Try.underlying24 rfl (by kernel_rfl)) rfl ?_
    exact ⟨rfl, below3 _ _ _ _⟩)
theorem set_blk {w : World} {b i : Nat} {cs : Array Value} {t : TypeId} {p : Nat × Nat} (h : w.heap[b]? = some (.cells cs t p)) (v : Value) : (w.setCell ⟨b, i, none⟩ v).heap[b]? = some (.cells (cs.setIfInBounds i v) t p) := by
  have hl : b < w.heap.size := by
    rcases Nat.lt_or_ge b w.heap.size with hl | hl
    · exact hl
    · rw [Array.getElem?_eq_none hl] at h; cases h
  have h' : w.heap[b] = .cells cs t p := by simpa [Array.getElem?_eq_getElem hl] using h
  show (w.heap.modify b _)[b]? = _
  rw [Array.getElem?_eq_getElem (by simpa using hl), Array.getElem_modify_self, h']
  simp
theorem blk_free {w : World} {b : Nat} {cs : Array Value} {t : TypeId} (h : w.heap[b]? = some (.cells cs t (0, 0))) (i : Nat) : w.frozen? ⟨b, i, none⟩ = false := by
  simp [World.frozen?, h]
/-- two cells of a block, written one behind the other -/
theorem set_two {w : World} {b : Nat} {x y : Value} {t : TypeId} (h : w.heap[b]? = some (.cells #[x, y] t (0, 0))) (u v : Value) :
    w.cell? ⟨b, 0, none⟩ = some x ∧ w.frozen? ⟨b, 0, none⟩ = false ∧ w.cell? ⟨b, 1, none⟩ = some y ∧ w.frozen? ⟨b, 1, none⟩ = false ∧
    ((w.setCell ⟨b, 0, none⟩ u).setCell ⟨b, 1, none⟩ v).heap[b]? = some (.cells #[u, v] t (0, 0)) := by
  have h1 := set_blk (i := 0) h u
  have h2 := set_blk (i := 1) h1 v
  exact ⟨blk_cell h 0 _ rfl, blk_free h 0, blk_cell h 1 _ rfl, blk_free h 1, h2⟩
theorem below_set {B : Nat} {w w' : World} (h : Below B w w') {b i : Nat} (hb : B ≤ b) (v : Value) : Below B w (w'.setCell ⟨b, i, none⟩ v) :=
  h.trans ⟨rfl, rfl, rfl, by simp [World.setCell], fun k hk => Below.heap_setCell _ _ _ _ (by simp; omega)⟩
set_option maxHeartbeats 1600000 in
theorem refleast_calls (s r t u : Nat) (w : World) : Calls Try.prog 18 #[.agg #[.float .f64 s, .float .f64 r], .agg #[.float .f64 t, .float .f64 u]] w fun e w' => e = .returned (.agg #[.float .f64 (lessF s t), .float .f64 (lessF r u)]) ∧ Below w.heap.size w w' := by
  have c1 := Lib.hid (less_calls s t)
  have c2 := Lib.hid (less_calls r u)
  have BA := blk_alloc (blk_alloc (heap_alloc_new w (.cells #[.float .f64 s, .float .f64 r] 28)) (.cells #[.float .f64 t, .float .f64 u] 28)) (.cells #[.float .f64 0, .float .f64 0] 28)
  have BB := blk_alloc (blk2 w (.cells #[.float .f64 s, .float .f64 r] 28) #[.float .f64 t, .float .f64 u] 28) (.cells #[.float .f64 0, .float .f64 0] 28)
  have BC := blk3 w (.cells #[.float .f64 s, .float .f64 r] 28) (.cells #[.float .f64 t, .float .f64 u] 28) #[.float .f64 0, .float .f64 0] 28
  have HB := Lib.hid (below3 w (.cells #[.float .f64 s, .float .f64 r] 28) (.cells #[.float .f64 t, .float .f64 u] 28) (.cells #[.float .f64 0, .float .f64 0] 28))
  have a0 := blk_cell BA 0 (.float .f64 s) rfl
  have a1 := blk_cell BA 1 (.float .f64 r) rfl
  have b0 := blk_cell BB 0 (.float .f64 t) rfl
  have b1 := blk_cell BB 1 (.float .f64 u) rfl
  have HC := Lib.hid BC
  clear BA BB BC
  generalize lessF s t = ls at *
  generalize lessF r u = lr at *
  go_enter Try.func18, Try.ntmps18
  go_wp2
  generalize ((w.alloc (.cells #[.float .f64 s, .float .f64 r] 28)).alloc (.cells #[.float .f64 t, .float .f64 u] 28)).alloc (.cells #[.float .f64 0, .float .f64 0] 28) = w2 at *
  rw [show w.heap.size + 1 + 1 = w.heap.size + 2 by omega]
  have hqc : w.heap.size ≤ w.heap.size + 2 := by omega
  generalize w.heap.size + 2 = qc at *
  generalize w.heap.size + 1 = qb at *
  generalize hqe : w.heap.size = qa at *
  have HQE := Lib.hid hqe
  have HQC := Lib.hid hqc
  clear hqe hqc
  refine start_ (n := 12) (S := fun w' => w'.cell? ⟨qa, 0, none⟩ = some (.float .f64 s) ∧ w'.cell? ⟨qa, 1, none⟩ = some (.float .f64 r) ∧ w'.cell? ⟨qb, 0, none⟩ = some (.float .f64 t) ∧ w'.cell? ⟨qb, 1, none⟩ = some (.float .f64 u)) (ds := [11]) #[false, false, false, false, false, false, false, false, false, false, false, false] (by kernel_rfl) rfl rfl ⟨a0, a1, b0, b1⟩ (fun hHeld => ?_)
  refine pure_ (i := 0) (N := some 5) (v := ?_) (a' := ?_) #[true, false, false, false, false, false, false, false, false, false, false, false] rfl rfl (by kernel_rfl) (fun _ _ _ h => h) (Or.inl ⟨by rfl, ?_⟩) ?_ ?_
  rotate_left
  · intro w'
    go_simp
    with_reducible rfl
  rotate_left
  · simp only [Act.put, List.setIfInBounds_toArray, List.set_cons_zero, List.set_cons_succ, i64_w, i32_w]
    rfl
  refine pure_ (i := 2) (N := some 7) (v := ?_) (a' := ?_) #[true, false, true, false, false, false, false, false, false, false, false, false] rfl rfl (by kernel_rfl) (fun _ _ _ h => h) (Or.inl ⟨by rfl, ?_⟩) ?_ ?_
  rotate_left
  · intro w'
    go_simp
    with_reducible rfl
  rotate_left
  · simp only [Act.put, List.setIfInBounds_toArray, List.set_cons_zero, List.set_cons_succ, i64_w, i32_w]
    rfl
  refine pure_ (i := 5) (N := some 10) (v := ?_) (a' := ?_) #[true, false, true, false, false, true, false, false, false, false, false, false] rfl rfl (by kernel_rfl) (fun _ _ _ h => h) (Or.inl ⟨by rfl, ?_⟩) ?_ ?_
  rotate_left
  · intro w'
    go_simp
    with_reducible rfl
  rotate_left
  · simp only [Act.put, List.setIfInBounds_toArray, List.set_cons_zero, List.set_cons_succ, i64_w, i32_w]
    rfl
  refine pure_ (i := 7) (N := some 12) (v := ?_) (a' := ?_) #[true, false, true, false, false, true, false, true, false, false, false, false] rfl rfl (by kernel_rfl) (fun _ _ _ h => h) (Or.inl ⟨by rfl, ?_⟩) ?_ ?_
  rotate_left
  · intro w'
    go_simp
    with_reducible rfl
  rotate_left
  · simp only [Act.put, List.setIfInBounds_toArray, List.set_cons_zero, List.set_cons_succ, i64_w, i32_w]
    rfl
  refine take_ (i := 1) (N := some 6) (v := ?_) (a' := ?_) #[true, true, true, false, false, true, false, true, false, false, false, false] rfl rfl (by kernel_rfl) (fun _ _ _ h => h) (Or.inl ⟨by rfl, ?_⟩) hHeld ?_ ?_
  rotate_left
  · rintro w' ⟨s0, s1, s2, s3⟩
    go_simp
    with_reducible rfl
  rotate_left
  · simp only [Act.put, List.setIfInBounds_toArray, List.set_cons_zero, List.set_cons_succ, i64_w, i32_w]
    rfl
  refine take_ (i := 3) (N := some 8) (v := ?_) (a' := ?_) #[true, true, true, true, false, true, false, true, false, false, false, false] rfl rfl (by kernel_rfl) (fun _ _ _ h => h) (Or.inl ⟨by rfl, ?_⟩) hHeld ?_ ?_
  rotate_left
  · rintro w' ⟨s0, s1, s2, s3⟩
    go_simp
    with_reducible rfl
  rotate_left
  · simp only [Act.put, List.setIfInBounds_toArray, List.set_cons_zero, List.set_cons_succ, i64_w, i32_w]
    rfl
  refine take_ (i := 6) (N := some 11) (v := ?_) (a' := ?_) #[true, true, true, true, false, true, true, true, false, false, false, false] rfl rfl (by kernel_rfl) (fun _ _ _ h => h) (Or.inl ⟨by rfl, ?_⟩) hHeld ?_ ?_
  rotate_left
  · rintro w' ⟨s0, s1, s2, s3⟩
    go_simp
    with_reducible rfl
  rotate_left
  · simp only [Act.put, List.setIfInBounds_toArray, List.set_cons_zero, List.set_cons_succ, i64_w, i32_w]
    rfl
  refine take_ (i := 8) (N := some 13) (v := ?_) (a' := ?_) #[true, true, true, true, false, true, true, true, true, false, false, false] rfl rfl (by kernel_rfl) (fun _ _ _ h => h) (Or.inl ⟨by rfl, ?_⟩) hHeld ?_ ?_
  rotate_left
  · rintro w' ⟨s0, s1, s2, s3⟩
    go_simp
    with_reducible rfl
  rotate_left
  · simp only [Act.put, List.setIfInBounds_toArray, List.set_cons_zero, List.set_cons_succ, i64_w, i32_w]
    rfl
  refine one_ (i := 4) (N := some 9) #[true, true, true, true, true, true, true, true, true, false, false, false] rfl rfl (by kernel_rfl) (by decide) (fun K hK => ?_)
  refine goes_ Try.func34 (by kernel_rfl) rfl #[.float .f64 s, .float .f64 t] (by rfl) rfl rfl (by simp only [List.map_toArray, List.map_cons, List.map_nil]; rfl) ?_
  with_reducible refine (c1.out _).mono ?_
  rintro e w5 ⟨rfl, rfl⟩
  refine ⟨_, rfl, ?_⟩
  refine hK.out _ _ ⟨hHeld.1, hHeld.2.1, hHeld.2.2.1, hHeld.2.2.2⟩ (fun hHeld => ?_)
  clear hK K
  refine norm_ (a' := ?_) ?_ ?_
  rotate_left
  · show Act.put _ (some 9) _ = _
    simp only [Act.put, List.setIfInBounds_toArray, List.set_cons_zero, List.set_cons_succ, i64_w, i32_w]
    rfl
  refine one_ (i := 9) (N := some 14) #[true, true, true, true, true, true, true, true, true, true, false, false] rfl rfl (by kernel_rfl) (by decide) (fun K hK => ?_)
  refine goes_ Try.func34 (by kernel_rfl) rfl #[.float .f64 r, .float .f64 u] (by rfl) rfl rfl (by simp only [List.map_toArray, List.map_cons, List.map_nil]; rfl) ?_
  with_reducible refine (c2.out _).mono ?_
  rintro e w6 ⟨rfl, rfl⟩
  refine ⟨_, rfl, ?_⟩
  refine hK.out _ _ ⟨hHeld.1, hHeld.2.1, hHeld.2.2.1, hHeld.2.2.2⟩ (fun hHeld => ?_)
  clear hK K
  refine norm_ (a' := ?_) ?_ ?_
  rotate_left
  · show Act.put _ (some 14) _ = _
    simp only [Act.put, List.setIfInBounds_toArray, List.set_cons_zero, List.set_cons_succ, i64_w, i32_w]
    rfl
  refine pure_ (i := 10) (N := some 15) (v := ?_) (a' := ?_) #[true, true, true, true, true, true, true, true, true, true, true, false] rfl rfl (by kernel_rfl) (fun _ _ _ h => h) (Or.inl ⟨by rfl, ?_⟩) ?_ ?_
  rotate_left
  · intro w'
    go_simp
    with_reducible rfl
  rotate_left
  · simp only [Act.put, List.setIfInBounds_toArray, List.set_cons_zero, List.set_cons_succ, i64_w, i32_w]
    rfl
  refine last_ (i := 11) (N := none) #[true, true, true, true, true, true, true, true, true, true, true, true] rfl rfl (by kernel_rfl) (by decide) (fun K hK => ?_)
  obtain ⟨z0, z1, z2, z3, z4⟩ := set_two HC.out (.float .f64 ls) (.float .f64 lr)
  refine skip_ (w1 := ?_) (by rfl) rfl ?_ ?_
  rotate_left
  · go_simp
    rfl
  refine hK.out _ _ ?_
  clear hK K
  refine done_ (by kernel_rfl) ?_
  go_wp2
  refine bodyPost_ret (results_cell_row rfl _ _ qc 28 #[.float .f64 ls, .float .f64 lr] (0, 0) _ rfl z4 Try.underlying28 rfl (by kernel_rfl)) rfl ?_
  exact ⟨rfl, by rw [HQE.out]; exact (below_set (below_set HB.out HQC.out _) HQC.out _).drew⟩
end Go.Proofs.Ytijnncnglkjpgaa.KLeast
