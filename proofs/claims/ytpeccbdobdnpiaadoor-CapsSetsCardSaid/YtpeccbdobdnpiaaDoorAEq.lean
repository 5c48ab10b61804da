/- Groups: the same? -/
import Derived.Test.YtpeccbdobdnpiaaDoorARef
import Derived.Test.YtpeccbdobdnpiaaDoorWEqStruct
import Derived.ChangeKeysEq
namespace Go.Proofs.YtpeccbdobdnpiaaDoor.AEq
open Go.RowKit CMem ACap AGet AWith ARef Go.Proofs.YtpeccbdobdnpiaaDoorW.PrintWords
set_option linter.unusedVariables false
set_option linter.unusedSimpArgs false
set_option maxRecDepth 100000
theorem items_run {P : Program} {d : Nat} {e : TypeId} {k : Nat} {xs ys : Array Value} {W : World} (X Y : Nat → Value) (r : Nat → Bool) : ∀ is : List Nat,
    (∀ i ∈ is, (part e xs (i * k)).run P W = .ok (X i) W ∧ (part e ys (i * k)).run P W = .ok (Y i) W ∧ (Op.equalIn d e (X i) (Y i)).run P W = .ok (r i) W) → (Op.eqItems d e k xs ys is).run P W = .ok (is.all r) W := by
  intro is
  induction is with
  | nil => intro _; simp [Op.eqItems]
  | cons i is ih =>
    intro h
    obtain ⟨h1, h2, h3⟩ := h i List.mem_cons_self
    have := ih fun j hj => h j (List.mem_cons_of_mem _ hj)
    simp only [Op.eqItems, Sem.run_bind, h1, h2, h3, Result.andThen_ok, List.all_cons]
    cases r i
    · simp
    · simpa using this
def sameIs (b b' : Nat → Bool) : Bool := [0, 1, 2, 3, 4, 5, 6, 7, 8].all fun i => b i == b' i
def sameAt (y y' : Nat → Int) : Bool := [0, 1, 2, 3, 4, 5, 6, 7, 8].all fun i => [0, 1].all fun j => y (i * 2 + j) == y' (i * 2 + j)
def same (b : Nat → Bool) (y : Nat → Int) (b' : Nat → Bool) (y' : Nat → Int) : Bool := sameIs b b' && sameAt y y'
theorem part_is (b : Nat → Bool) (i : Nat) (h : i < 9) (W : World) : (part 4 (ib b) (i * 1)).run Tryd.prog W = .ok (.bool (b i)) W := by
  have : i = 0 ∨ i = 1 ∨ i = 2 ∨ i = 3 ∨ i = 4 ∨ i = 5 ∨ i = 6 ∨ i = 7 ∨ i = 8 := by omega
  rcases this with rfl | rfl | rfl | rfl | rfl | rfl | rfl | rfl | rfl <;> (show _ = _; kernel_rfl)
def pr (y : Nat → Int) (i : Nat) : Array Value := #[.int .i64 (y (i * 2)), .int .i64 (y (i * 2 + 1))]
theorem part_at (y : Nat → Int) (i : Nat) (h : i < 9) (W : World) : (part 23 (yb y) (i * 2)).run Tryd.prog W = .ok (.agg (pr y i)) W := by
  have : i = 0 ∨ i = 1 ∨ i = 2 ∨ i = 3 ∨ i = 4 ∨ i = 5 ∨ i = 6 ∨ i = 7 ∨ i = 8 := by omega
  rcases this with rfl | rfl | rfl | rfl | rfl | rfl | rfl | rfl | rfl <;> (show _ = _; kernel_rfl)
theorem part_pr (y : Nat → Int) (i j : Nat) (h : j < 2) (W : World) : (part 3 (pr y i) (j * 1)).run Tryd.prog W = .ok (.int .i64 (y (i * 2 + j))) W := by
  have : j = 0 ∨ j = 1 := by omega
  rcases this with rfl | rfl <;> (show _ = _; kernel_rfl)
theorem is_run (d : Nat) (b b' : Nat → Bool) (W : World) : (Op.equalIn (d + 2) 22 (.agg (ib b)) (.agg (ib b'))).run Tryd.prog W = .ok (sameIs b b') W := by
  obtain ⟨i, hi⟩ : ∃ i, Tryd.prog.info? 4 = some i := ⟨_, rfl⟩
  have hc : Tryd.prog.cellsOf 4 = 1 := by kernel_rfl
  rw [run_equalIn_array W (d + 1) _ _ Tryd.underlying22 hi, hc]
  show (Op.eqItems (d + 1) 4 1 _ _ [0, 1, 2, 3, 4, 5, 6, 7, 8]).run Tryd.prog W = _
  refine items_run (fun i => .bool (b i)) (fun i => .bool (b' i)) _ _ fun i hi => ?_
  have h9 : i < 9 := by simp at hi; omega
  exact ⟨part_is b i h9 W, part_is b' i h9 W, run_equalIn_bool W d _ _ _ Tryd.underlying4⟩
theorem pr_run (d : Nat) (y y' : Nat → Int) (i : Nat) (W : World) : (Op.equalIn (d + 2) 23 (.agg (pr y i)) (.agg (pr y' i))).run Tryd.prog W = .ok ([0, 1].all fun j => y (i * 2 + j) == y' (i * 2 + j)) W := by
  obtain ⟨q, hq⟩ : ∃ q, Tryd.prog.info? 3 = some q := ⟨_, rfl⟩
  have hc : Tryd.prog.cellsOf 3 = 1 := by kernel_rfl
  rw [run_equalIn_array W (d + 1) _ _ Tryd.underlying23 hq, hc]
  show (Op.eqItems (d + 1) 3 1 _ _ [0, 1]).run Tryd.prog W = _
  refine items_run (fun j => .int .i64 (y (i * 2 + j))) (fun j => .int .i64 (y' (i * 2 + j))) _ _ fun j hj => ?_
  have h2 : j < 2 := by simp at hj; omega
  exact ⟨part_pr y i j h2 W, part_pr y' i j h2 W, run_equalIn_int W d _ .i64 .i64 _ _ Tryd.underlying3⟩
theorem at_run (d : Nat) (y y' : Nat → Int) (W : World) : (Op.equalIn (d + 3) 24 (.agg (yb y)) (.agg (yb y'))).run Tryd.prog W = .ok (sameAt y y') W := by
  obtain ⟨q, hq⟩ : ∃ q, Tryd.prog.info? 23 = some q := ⟨_, rfl⟩
  have hc : Tryd.prog.cellsOf 23 = 2 := by kernel_rfl
  rw [run_equalIn_array W (d + 2) _ _ Tryd.underlying24 hq, hc]
  show (Op.eqItems (d + 2) 23 2 _ _ [0, 1, 2, 3, 4, 5, 6, 7, 8]).run Tryd.prog W = _
  refine items_run (fun i => .agg (pr y i)) (fun i => .agg (pr y' i)) _ _ fun i hi => ?_
  have h9 : i < 9 := by simp at hi; omega
  exact ⟨part_at y i h9 W, part_at y' i h9 W, pr_run d y y' i W⟩
theorem part_cis (b : Nat → Bool) (y : Nat → Int) (W : World) : (part 22 (cc b y) 0).run Tryd.prog W = .ok (.agg (ib b)) W := by kernel_rfl
theorem part_cat (b : Nat → Bool) (y : Nat → Int) (W : World) : (part 24 (cc b y) 9).run Tryd.prog W = .ok (.agg (yb y)) W := by kernel_rfl
theorem c_run (d : Nat) (b b' : Nat → Bool) (y y' : Nat → Int) (W : World) : (Op.equalIn (d + 4) 26 (.agg (cc b y)) (.agg (cc b' y'))).run Tryd.prog W = .ok (same b y b' y') W := by
  refine eqA_of Tryd.underlying26 (by kernel_rfl) ?_
  exact eqf_cons (by rfl) (part_cis b y W) (part_cis b' y' W) (is_run (d + 1) b b' W) (eqf_last (by rfl) (part_cat b y W) (part_cat b' y' W) (at_run d y y' W))
theorem c_eql (b b' : Nat → Bool) (y y' : Nat → Int) (W : World) : (binOp .eql 26 (.agg (cc b y)) (.agg (cc b' y'))).run Tryd.prog W = .ok (.bool (same b y b' y')) W := by
  rw [run_eql_struct, c_run 9996]
  rfl
theorem c_neq (b b' : Nat → Bool) (y y' : Nat → Int) (W : World) : (binOp .neq 26 (.agg (cc b y)) (.agg (cc b' y'))).run Tryd.prog W = .ok (.bool (!same b y b' y')) W := by
  rw [run_neq_struct, c_run 9996]
  rfl
theorem r_run (d : Nat) (b b' : Nat → Bool) (y y' : Nat → Int) (W : World) : (Op.equalIn (d + 4) 28 (.agg (cc b y)) (.agg (cc b' y'))).run Tryd.prog W = .ok (same b y b' y') W := by
  refine eqA_of Tryd.underlying28 (by kernel_rfl) ?_
  exact eqf_cons (by rfl) (part_cis b y W) (part_cis b' y' W) (is_run (d + 1) b b' W) (eqf_last (by rfl) (part_cat b y W) (part_cat b' y' W) (at_run d y y' W))
theorem r_eql (b b' : Nat → Bool) (y y' : Nat → Int) (W : World) : (binOp .eql 28 (.agg (cc b y)) (.agg (cc b' y'))).run Tryd.prog W = .ok (.bool (same b y b' y')) W := by
  rw [run_eql_struct, r_run 9996]
  rfl
theorem r_neq (b b' : Nat → Bool) (y y' : Nat → Int) (W : World) : (binOp .neq 28 (.agg (cc b y)) (.agg (cc b' y'))).run Tryd.prog W = .ok (.bool (!same b y b' y')) W := by
  rw [run_neq_struct, r_run 9996]
  rfl
theorem same_iff (b b' : Nat → Bool) (y y' : Nat → Int) : same b y b' y' = true ↔ (∀ i, i < 9 → b i = b' i) ∧ (∀ i, i < 18 → y i = y' i) := by
  unfold same sameIs sameAt
  simp only [Bool.and_eq_true, List.all_eq_true, beq_iff_eq]
  constructor
  · rintro ⟨h1, h2⟩
    refine ⟨fun i hi => h1 i (by simp; omega), fun i hi => ?_⟩
    have := h2 (i / 2) (by simp; omega) (i % 2) (by simp; omega)
    rwa [show i / 2 * 2 + i % 2 = i by omega] at this
  · rintro ⟨h1, h2⟩
    refine ⟨fun i hi => h1 i (by simp at hi; omega), fun i hi j hj => h2 _ (by simp at hi hj; omega)⟩
theorem same_self (b : Nat → Bool) (y : Nat → Int) : same b y b y = true := (same_iff b b y y).2 ⟨fun _ _ => rfl, fun _ _ => rfl⟩
end Go.Proofs.YtpeccbdobdnpiaaDoor.AEq
