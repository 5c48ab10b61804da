import Derived.ProofKit
import Derived.Lib.BitFns
import Derived.Test.YtaaihcojedibeaaDoorZ0
import Derived.Laws.BitsAllLaws
import Derived.Laws.Bits128
import Derived.Lib.TrailingZeros
import Derived.Lib.ItoaLen
import Derived.Deep.Slices
import Derived.ChangeSame
import Derived.OpenShut
section
/- Sets of bytes as numbers: plain. -/
namespace Go.Proofs.YtaaihcojedibeaaDoor.CBits
set_option maxRecDepth 100000
def wd (N j : Nat) : Nat := N / 2 ^ (64 * j) % 2 ^ 64
theorem tb_wd (N j i : Nat) : (wd N j).testBit i = (decide (i < 64) && N.testBit (64 * j + i)) := by
  unfold wd
  rw [Nat.testBit_mod_two_pow, Nat.testBit_div_two_pow, Nat.add_comm]
theorem wd_lt (N j : Nat) : wd N j < 2 ^ 64 := Nat.mod_lt _ (by decide)
theorem ext_wd {N M : Nat} (hN : N < 2 ^ 256) (hM : M < 2 ^ 256) (h : ∀ j, j < 4 → wd N j = wd M j) : N = M := by
  apply Nat.eq_of_testBit_eq
  intro i
  by_cases hi : i < 256
  · have h1 := tb_wd N (i / 64) (i % 64)
    have h2 := tb_wd M (i / 64) (i % 64)
    rw [h (i / 64) (by omega)] at h1
    rw [show 64 * (i / 64) + i % 64 = i by omega] at h1 h2
    simp [show i % 64 < 64 by omega] at h1 h2
    rw [← h1, ← h2]
  · have hp : 2 ^ 256 ≤ 2 ^ i := Nat.pow_le_pow_right (by decide) (by omega)
    rw [Nat.testBit_lt_two_pow (by omega), Nat.testBit_lt_two_pow (by omega)]
theorem wd_or (N M j : Nat) : wd (N ||| M) j = wd N j ||| wd M j := by
  apply Nat.eq_of_testBit_eq
  intro i
  rw [Nat.testBit_or, tb_wd, tb_wd, tb_wd, Nat.testBit_or]
  cases decide (i < 64) <;> simp
theorem wd_and (N M j : Nat) : wd (N &&& M) j = wd N j &&& wd M j := by
  apply Nat.eq_of_testBit_eq
  intro i
  rw [Nat.testBit_and, tb_wd, tb_wd, tb_wd, Nat.testBit_and]
  cases decide (i < 64) <;> simp
/-- what is not in -/
def notN (N : Nat) : Nat := 2 ^ 256 - 1 - N
theorem tb_not {N : Nat} (hN : N < 2 ^ 256) (i : Nat) : (notN N).testBit i = (decide (i < 256) && !N.testBit i) := by
  unfold notN
  rw [show 2 ^ 256 - 1 - N = 2 ^ 256 - (N + 1) by omega, Nat.testBit_two_pow_sub_succ hN]
theorem wd_not {N : Nat} (hN : N < 2 ^ 256) (j : Nat) (hj : j < 4) : wd (notN N) j = 2 ^ 64 - 1 - wd N j := by
  apply Nat.eq_of_testBit_eq
  intro i
  rw [tb_wd, tb_not hN, show 2 ^ 64 - 1 - wd N j = 2 ^ 64 - (wd N j + 1) by omega, Nat.testBit_two_pow_sub_succ (wd_lt N j), tb_wd]
  by_cases h : i < 64
  · simp [h, show 64 * j + i < 256 by omega]
  · simp [h]
theorem not_lt (N : Nat) : notN N < 2 ^ 256 := by unfold notN; omega
theorem or_lt {N M : Nat} (h : N < 2 ^ 256) (g : M < 2 ^ 256) : N ||| M < 2 ^ 256 := Nat.or_lt_two_pow h g
theorem and_lt {N : Nat} (M : Nat) (h : N < 2 ^ 256) : N &&& M < 2 ^ 256 := Nat.lt_of_le_of_lt Nat.and_le_left h
/-- how many -/
def cnt (N n : Nat) : Nat := (List.range n).countP fun i => N.testBit i
theorem pop_cnt (f x : Nat) : Go.Lib.popAux f x = cnt x f := by
  induction f generalizing x with
  | zero => rfl
  | succ f ih =>
    unfold Go.Lib.popAux cnt
    rw [ih, List.range_succ_eq_map, List.countP_cons, List.countP_map, Nat.add_comm]
    congr 1
    · unfold cnt
      congr 1
      funext i
      simp [Nat.testBit_succ]
    · rw [Nat.testBit_zero]
      by_cases h : x % 2 = 1
      · simp [h]
      · simp [h]; omega
theorem cnt_wd (N j : Nat) : Go.Lib.onesCount (wd N j) = (List.range 64).countP fun i => N.testBit (64 * j + i) := by
  unfold Go.Lib.onesCount
  rw [pop_cnt]
  unfold cnt
  apply List.countP_congr
  intro i hi
  simp at hi
  rw [tb_wd]
  simp [hi]
theorem cnt_words (N : Nat) : Go.Lib.onesCount (wd N 0) + Go.Lib.onesCount (wd N 1) + Go.Lib.onesCount (wd N 2) + Go.Lib.onesCount (wd N 3) = cnt N 256 := by
  rw [cnt_wd, cnt_wd, cnt_wd, cnt_wd]
  unfold cnt
  have e : List.range 256 = List.range 64 ++ (List.range 64).map (64 + ·) ++ (List.range 64).map (128 + ·) ++ (List.range 64).map (192 + ·) := by decide +kernel
  rw [e]
  simp only [List.countP_append, List.countP_map, Function.comp_def]
  simp
end Go.Proofs.YtaaihcojedibeaaDoor.CBits
end
section
/- Sets: what has, what is put in. -/
namespace Go.Proofs.YtaaihcojedibeaaDoor.CSet
set_option maxRecDepth 100000
open Go.RowKit CMem CBits Go.Proofs.YtaaihcojedibeaaDoorW.PrintWords Go.Proofs.YtaaihcojedibeaaDoorW.PrintLast Go.Proofs.YtaaihcojedibeaaDoorW.PrintMore
set_option linter.unusedVariables false
set_option linter.unusedSimpArgs false

/-- a set's cells -/
def sc (N : Nat) : Array Value := #[.int .u64 (wd N 0 : Nat), .int .u64 (wd N 1 : Nat), .int .u64 (wd N 2 : Nat), .int .u64 (wd N 3 : Nat)]
theorem bit_run (N c j : Nat) (hj : c / 64 = j) : (bits BinOp.and IntKind.u64 (((wd N j : Nat) : Int) / 2 ^ (c % 64)) 1 == 1) = N.testBit c := by
  have hd : ((wd N j : Nat) : Int) / 2 ^ (c % 64) = ((wd N j / 2 ^ (c % 64) : Nat) : Int) := by
    rw [Int.natCast_ediv, Int.natCast_pow]
    rfl
  have hlt : wd N j / 2 ^ (c % 64) < 18446744073709551616 := Nat.lt_of_le_of_lt (Nat.div_le_self _ _) (wd_lt N j)
  rw [hd, show (1 : Int) = ((1 : Nat) : Int) from rfl, u64_and_nat _ _ hlt (by decide), Nat.and_one_is_mod]
  have ht : N.testBit c = (wd N j).testBit (c % 64) := by
    rw [tb_wd, show 64 * j + c % 64 = c by omega]
    simp; omega
  rw [ht, Nat.testBit_eq_decide_div_mod_eq]
  have hm : wd N j / 2 ^ (c % 64) % 2 < 2 := Nat.mod_lt _ (by decide)
  generalize wd N j / 2 ^ (c % 64) % 2 = r at *
  have : r = 0 ∨ r = 1 := by omega
  rcases this with rfl | rfl <;> rfl
theorem has_calls (N c : Nat) (hc : c < 256) (w : World) :
    Calls Tryd.prog 52 #[.agg (sc N), .int .u8 c] w fun e w' => e = .returned (.bool (N.testBit c)) ∧ Below w.heap.size w w' := by
  unfold sc
  have hj : c / 64 = 0 ∨ c / 64 = 1 ∨ c / 64 = 2 ∨ c / 64 = 3 := by omega
  rcases hj with hj | hj | hj | hj <;> (
    have h1 := bit_run N c _ hj
    first
      | have h2 : (c : Int) / 64 = 0 := by omega
      | have h2 : (c : Int) / 64 = 1 := by omega
      | have h2 : (c : Int) / 64 = 2 := by omega
      | have h2 : (c : Int) / 64 = 3 := by omega
    generalize N.testBit c = B at *
    generalize wd N 0 = x0 at *
    generalize wd N 1 = x1 at *
    generalize wd N 2 = x2 at *
    generalize wd N 3 = x3 at *
    go_enter Tryd.func52, Tryd.ntmps52
    go_wp2
    go_ret
    exact ⟨rfl, below1 _ _⟩)
theorem u64w {q : Int} (h0 : 0 ≤ q) (h1 : q < 18446744073709551616) : IntKind.u64.wrap q = q := by
  simp [IntKind.wrap, IntKind.signed, IntKind.bits]
  omega
theorem shl_run (k : Nat) (hk : k < 64) (W : World) : (Op.shift BinOp.shl IntKind.u64 1 IntKind.u8 (k : Int)).run Tryd.prog W = .ok (.int .u64 ((2 ^ k : Nat) : Int)) W := by
  have hp : (2 : Nat) ^ k < 18446744073709551616 := by
    have := Nat.pow_lt_pow_right (a := 2) (by decide) hk
    rwa [show (2 : Nat) ^ 64 = 18446744073709551616 by decide] at this
  have hw : IntKind.u64.wrap (1 * 2 ^ k) = ((2 ^ k : Nat) : Int) := by
    rw [Int.one_mul, show (2 : Int) ^ k = ((2 ^ k : Nat) : Int) by rw [Int.natCast_pow]; rfl]
    have hg : ∀ P : Nat, P < 18446744073709551616 → IntKind.u64.wrap (P : Int) = P := fun P h => u64w (by omega) (by omega)
    exact hg _ hp
  unfold Op.shift
  rw [if_neg (by omega)]
  simp only [Int.toNat_natCast]
  rw [show min k IntKind.u64.bits = k from Nat.min_eq_left (Nat.le_of_lt hk), hw]
  rfl
set_option maxHeartbeats 1600000 in
theorem add_0 (x0 x1 x2 x3 y z k P : Int) (q : Nat) (w : World) (hT : z.tdiv 64 = 0) (hM : z.tmod 64 = k) (hS : ∀ W, (Op.shift BinOp.shl IntKind.u64 1 IntKind.u8 k).run Tryd.prog W = .ok (.int .u64 P) W) (hO : bits BinOp.or IntKind.u64 x0 P = y)
    (hb : w.heap[q]? = some (.cells #[.int .u64 x0, .int .u64 x1, .int .u64 x2, .int .u64 x3] 35 (0, 0))) :
    Calls Tryd.prog 33 #[.pointer (some ⟨q, 0, none⟩), .int .u8 z] w fun e w' => e = .returned (.tuple #[]) ∧ w'.heap[q]? = some (.cells #[.int .u64 y, .int .u64 x1, .int .u64 x2, .int .u64 x3] 35 (0, 0)) ∧ Only q w w' := by
  have hw : IntKind.u8.wrap 0 = 0 := by decide
  have y0 := blk_cell hb 0 (.int .u64 x0) rfl
  have f0 := blk_free hb 0
  have HN := Lib.hid (set_blk (i := 0) hb (.int .u64 y))
  have HO := Lib.hid (Only.set w q 0 (.int .u64 y))
  clear hb
  go_enter Tryd.func33, Tryd.ntmps33
  go_wp2
  refine start_ (n := 15) (S := fun w' => w'.cell? ⟨q, 0, none⟩ = some (.int .u64 x0)) (ds := [14]) #[false, false, false, false, false, false, false, false, false, false, false, false, false, false, false] (by kernel_rfl) rfl rfl (y0) (fun hHeld => ?_)
  refine pure_ (i := 0) (N := some 4) (v := ?_) (a' := ?_) #[true, false, false, false, false, false, false, false, false, false, false, false, false, false, false] rfl rfl (by kernel_rfl) (fun _ _ _ h => h) (Or.inl ⟨by rfl, ?_⟩) ?_ ?_
  rotate_left
  · intro w'
    go_simp
    with_reducible rfl
  rotate_left
  · simp only [Act.put, List.setIfInBounds_toArray, List.set_cons_zero, List.set_cons_succ, i64_w, i32_w]
    rfl
  refine pure_ (i := 1) (N := some 5) (v := ?_) (a' := ?_) #[true, true, false, false, false, false, false, false, false, false, false, false, false, false, false] rfl rfl (by kernel_rfl) (fun _ _ _ h => h) (Or.inl ⟨by rfl, ?_⟩) ?_ ?_
  rotate_left
  · intro w'
    go_simp
    with_reducible rfl
  rotate_left
  · simp only [Act.put, List.setIfInBounds_toArray, List.set_cons_zero, List.set_cons_succ, i64_w, i32_w]
    rfl
  refine pure_ (i := 2) (N := some 6) (v := ?_) (a' := ?_) #[true, true, true, false, false, false, false, false, false, false, false, false, false, false, false] rfl rfl (by kernel_rfl) (fun _ _ _ h => h) (Or.inl ⟨by rfl, ?_⟩) ?_ ?_
  rotate_left
  · intro w'
    go_simp
    with_reducible rfl
  rotate_left
  · simp only [Act.put, List.setIfInBounds_toArray, List.set_cons_zero, List.set_cons_succ, i64_w, i32_w]
    rfl
  refine pure_ (i := 3) (N := some 7) (v := ?_) (a' := ?_) #[true, true, true, true, false, false, false, false, false, false, false, false, false, false, false] rfl rfl (by kernel_rfl) (fun _ _ _ h => h) (Or.inl ⟨by rfl, ?_⟩) ?_ ?_
  rotate_left
  · intro w'
    go_simp
    with_reducible rfl
  rotate_left
  · simp only [Act.put, List.setIfInBounds_toArray, List.set_cons_zero, List.set_cons_succ, i64_w, i32_w]
    rfl
  refine pure_ (i := 4) (N := some 8) (v := ?_) (a' := ?_) #[true, true, true, true, true, false, false, false, false, false, false, false, false, false, false] rfl rfl (by kernel_rfl) (fun _ _ _ h => h) (Or.inl ⟨by rfl, ?_⟩) ?_ ?_
  rotate_left
  · intro w'
    go_simp
    with_reducible rfl
  rotate_left
  · simp only [Act.put, List.setIfInBounds_toArray, List.set_cons_zero, List.set_cons_succ, i64_w, i32_w]
    rfl
  refine pure_ (i := 5) (N := some 9) (v := ?_) (a' := ?_) #[true, true, true, true, true, true, false, false, false, false, false, false, false, false, false] rfl rfl (by kernel_rfl) (fun _ _ _ h => h) (Or.inl ⟨by rfl, ?_⟩) ?_ ?_
  rotate_left
  · intro w'
    go_simp
    with_reducible rfl
  rotate_left
  · simp only [Act.put, List.setIfInBounds_toArray, List.set_cons_zero, List.set_cons_succ, i64_w, i32_w]
    rfl
  refine pure_ (i := 7) (N := some 11) (v := ?_) (a' := ?_) #[true, true, true, true, true, true, false, true, false, false, false, false, false, false, false] rfl rfl (by kernel_rfl) (fun _ _ _ h => h) (Or.inl ⟨by rfl, ?_⟩) ?_ ?_
  rotate_left
  · intro w'
    go_simp
    with_reducible rfl
  rotate_left
  · simp only [Act.put, List.setIfInBounds_toArray, List.set_cons_zero, List.set_cons_succ, i64_w, i32_w]
    rfl
  refine pure_ (i := 8) (N := some 12) (v := ?_) (a' := ?_) #[true, true, true, true, true, true, false, true, true, false, false, false, false, false, false] rfl rfl (by kernel_rfl) (fun _ _ _ h => h) (Or.inl ⟨by rfl, ?_⟩) ?_ ?_
  rotate_left
  · intro w'
    go_simp
    with_reducible rfl
  rotate_left
  · simp only [Act.put, List.setIfInBounds_toArray, List.set_cons_zero, List.set_cons_succ, i64_w, i32_w]
    rfl
  refine pure_ (i := 9) (N := some 13) (v := ?_) (a' := ?_) #[true, true, true, true, true, true, false, true, true, true, false, false, false, false, false] rfl rfl (by kernel_rfl) (fun _ _ _ h => h) (Or.inl ⟨by rfl, ?_⟩) ?_ ?_
  rotate_left
  · intro w'
    go_simp
    with_reducible rfl
  rotate_left
  · simp only [Act.put, List.setIfInBounds_toArray, List.set_cons_zero, List.set_cons_succ, i64_w, i32_w]
    rfl
  refine pure_ (i := 11) (N := some 15) (v := ?_) (a' := ?_) #[true, true, true, true, true, true, false, true, true, true, false, true, false, false, false] rfl rfl (by kernel_rfl) (fun _ _ _ h => h) (Or.inl ⟨by rfl, ?_⟩) ?_ ?_
  rotate_left
  · intro w'
    go_simp
    with_reducible rfl
  rotate_left
  · simp only [Act.put, List.setIfInBounds_toArray, List.set_cons_zero, List.set_cons_succ, i64_w, i32_w]
    rfl
  refine pure_ (i := 12) (N := some 16) (v := ?_) (a' := ?_) #[true, true, true, true, true, true, false, true, true, true, false, true, true, false, false] rfl rfl (by kernel_rfl) (fun _ _ _ h => h) (Or.inl ⟨by rfl, ?_⟩) ?_ ?_
  rotate_left
  · intro w'
    go_simp
    with_reducible rfl
  rotate_left
  · simp only [Act.put, List.setIfInBounds_toArray, List.set_cons_zero, List.set_cons_succ, i64_w, i32_w]
    rfl
  refine take_ (i := 6) (N := some 10) (v := ?_) (a' := ?_) #[true, true, true, true, true, true, true, true, true, true, false, true, true, false, false] rfl rfl (by kernel_rfl) (fun _ _ _ h => h) (Or.inl ⟨by rfl, ?_⟩) hHeld ?_ ?_
  rotate_left
  · intro w' s0
    go_simp
    with_reducible rfl
  rotate_left
  · simp only [Act.put, List.setIfInBounds_toArray, List.set_cons_zero, List.set_cons_succ, i64_w, i32_w]
    rfl
  refine pure_ (i := 10) (N := some 14) (v := ?_) (a' := ?_) #[true, true, true, true, true, true, true, true, true, true, true, true, true, false, false] rfl rfl (by kernel_rfl) (fun _ _ _ h => h) (Or.inl ⟨by rfl, ?_⟩) ?_ ?_
  rotate_left
  · intro w'
    go_simp
    with_reducible rfl
  rotate_left
  · simp only [Act.put, List.setIfInBounds_toArray, List.set_cons_zero, List.set_cons_succ, i64_w, i32_w]
    rfl
  refine pure_ (i := 13) (N := some 17) (v := ?_) (a' := ?_) #[true, true, true, true, true, true, true, true, true, true, true, true, true, true, false] rfl rfl (by kernel_rfl) (fun _ _ _ h => h) (Or.inl ⟨by rfl, ?_⟩) ?_ ?_
  rotate_left
  · intro w'
    go_simp
    with_reducible rfl
  rotate_left
  · simp only [Act.put, List.setIfInBounds_toArray, List.set_cons_zero, List.set_cons_succ, i64_w, i32_w]
    rfl
  refine last_ (i := 14) (N := none) #[true, true, true, true, true, true, true, true, true, true, true, true, true, true, true] rfl rfl (by kernel_rfl) (by decide) (fun K hK => ?_)
  refine skip_ (w1 := ?_) (by rfl) rfl ?_ ?_
  rotate_left
  · go_simp
    rfl
  refine hK.out _ _ ?_
  clear hK K
  refine done_ (by kernel_rfl) ?_
  go_wp2
  go_end0
  exact ⟨rfl, HN.out, HO.out.drew⟩
set_option maxHeartbeats 1600000 in
theorem add_1 (x0 x1 x2 x3 y z k P : Int) (q : Nat) (w : World) (hT : z.tdiv 64 = 1) (hM : z.tmod 64 = k) (hS : ∀ W, (Op.shift BinOp.shl IntKind.u64 1 IntKind.u8 k).run Tryd.prog W = .ok (.int .u64 P) W) (hO : bits BinOp.or IntKind.u64 x1 P = y)
    (hb : w.heap[q]? = some (.cells #[.int .u64 x0, .int .u64 x1, .int .u64 x2, .int .u64 x3] 35 (0, 0))) :
    Calls Tryd.prog 33 #[.pointer (some ⟨q, 0, none⟩), .int .u8 z] w fun e w' => e = .returned (.tuple #[]) ∧ w'.heap[q]? = some (.cells #[.int .u64 x0, .int .u64 y, .int .u64 x2, .int .u64 x3] 35 (0, 0)) ∧ Only q w w' := by
  have hw : IntKind.u8.wrap 1 = 1 := by decide
  have y0 := blk_cell hb 1 (.int .u64 x1) rfl
  have f0 := blk_free hb 1
  have HN := Lib.hid (set_blk (i := 1) hb (.int .u64 y))
  have HO := Lib.hid (Only.set w q 1 (.int .u64 y))
  clear hb
  go_enter Tryd.func33, Tryd.ntmps33
  go_wp2
  refine start_ (n := 15) (S := fun w' => w'.cell? ⟨q, 1, none⟩ = some (.int .u64 x1)) (ds := [14]) #[false, false, false, false, false, false, false, false, false, false, false, false, false, false, false] (by kernel_rfl) rfl rfl (y0) (fun hHeld => ?_)
  refine pure_ (i := 0) (N := some 4) (v := ?_) (a' := ?_) #[true, false, false, false, false, false, false, false, false, false, false, false, false, false, false] rfl rfl (by kernel_rfl) (fun _ _ _ h => h) (Or.inl ⟨by rfl, ?_⟩) ?_ ?_
  rotate_left
  · intro w'
    go_simp
    with_reducible rfl
  rotate_left
  · simp only [Act.put, List.setIfInBounds_toArray, List.set_cons_zero, List.set_cons_succ, i64_w, i32_w]
    rfl
  refine pure_ (i := 1) (N := some 5) (v := ?_) (a' := ?_) #[true, true, false, false, false, false, false, false, false, false, false, false, false, false, false] rfl rfl (by kernel_rfl) (fun _ _ _ h => h) (Or.inl ⟨by rfl, ?_⟩) ?_ ?_
  rotate_left
  · intro w'
    go_simp
    with_reducible rfl
  rotate_left
  · simp only [Act.put, List.setIfInBounds_toArray, List.set_cons_zero, List.set_cons_succ, i64_w, i32_w]
    rfl
  refine pure_ (i := 2) (N := some 6) (v := ?_) (a' := ?_) #[true, true, true, false, false, false, false, false, false, false, false, false, false, false, false] rfl rfl (by kernel_rfl) (fun _ _ _ h => h) (Or.inl ⟨by rfl, ?_⟩) ?_ ?_
  rotate_left
  · intro w'
    go_simp
    with_reducible rfl
  rotate_left
  · simp only [Act.put, List.setIfInBounds_toArray, List.set_cons_zero, List.set_cons_succ, i64_w, i32_w]
    rfl
  refine pure_ (i := 3) (N := some 7) (v := ?_) (a' := ?_) #[true, true, true, true, false, false, false, false, false, false, false, false, false, false, false] rfl rfl (by kernel_rfl) (fun _ _ _ h => h) (Or.inl ⟨by rfl, ?_⟩) ?_ ?_
  rotate_left
  · intro w'
    go_simp
    with_reducible rfl
  rotate_left
  · simp only [Act.put, List.setIfInBounds_toArray, List.set_cons_zero, List.set_cons_succ, i64_w, i32_w]
    rfl
  refine pure_ (i := 4) (N := some 8) (v := ?_) (a' := ?_) #[true, true, true, true, true, false, false, false, false, false, false, false, false, false, false] rfl rfl (by kernel_rfl) (fun _ _ _ h => h) (Or.inl ⟨by rfl, ?_⟩) ?_ ?_
  rotate_left
  · intro w'
    go_simp
    with_reducible rfl
  rotate_left
  · simp only [Act.put, List.setIfInBounds_toArray, List.set_cons_zero, List.set_cons_succ, i64_w, i32_w]
    rfl
  refine pure_ (i := 5) (N := some 9) (v := ?_) (a' := ?_) #[true, true, true, true, true, true, false, false, false, false, false, false, false, false, false] rfl rfl (by kernel_rfl) (fun _ _ _ h => h) (Or.inl ⟨by rfl, ?_⟩) ?_ ?_
  rotate_left
  · intro w'
    go_simp
    with_reducible rfl
  rotate_left
  · simp only [Act.put, List.setIfInBounds_toArray, List.set_cons_zero, List.set_cons_succ, i64_w, i32_w]
    rfl
  refine pure_ (i := 7) (N := some 11) (v := ?_) (a' := ?_) #[true, true, true, true, true, true, false, true, false, false, false, false, false, false, false] rfl rfl (by kernel_rfl) (fun _ _ _ h => h) (Or.inl ⟨by rfl, ?_⟩) ?_ ?_
  rotate_left
  · intro w'
    go_simp
    with_reducible rfl
  rotate_left
  · simp only [Act.put, List.setIfInBounds_toArray, List.set_cons_zero, List.set_cons_succ, i64_w, i32_w]
    rfl
  refine pure_ (i := 8) (N := some 12) (v := ?_) (a' := ?_) #[true, true, true, true, true, true, false, true, true, false, false, false, false, false, false] rfl rfl (by kernel_rfl) (fun _ _ _ h => h) (Or.inl ⟨by rfl, ?_⟩) ?_ ?_
  rotate_left
  · intro w'
    go_simp
    with_reducible rfl
  rotate_left
  · simp only [Act.put, List.setIfInBounds_toArray, List.set_cons_zero, List.set_cons_succ, i64_w, i32_w]
    rfl
  refine pure_ (i := 9) (N := some 13) (v := ?_) (a' := ?_) #[true, true, true, true, true, true, false, true, true, true, false, false, false, false, false] rfl rfl (by kernel_rfl) (fun _ _ _ h => h) (Or.inl ⟨by rfl, ?_⟩) ?_ ?_
  rotate_left
  · intro w'
    go_simp
    with_reducible rfl
  rotate_left
  · simp only [Act.put, List.setIfInBounds_toArray, List.set_cons_zero, List.set_cons_succ, i64_w, i32_w]
    rfl
  refine pure_ (i := 11) (N := some 15) (v := ?_) (a' := ?_) #[true, true, true, true, true, true, false, true, true, true, false, true, false, false, false] rfl rfl (by kernel_rfl) (fun _ _ _ h => h) (Or.inl ⟨by rfl, ?_⟩) ?_ ?_
  rotate_left
  · intro w'
    go_simp
    with_reducible rfl
  rotate_left
  · simp only [Act.put, List.setIfInBounds_toArray, List.set_cons_zero, List.set_cons_succ, i64_w, i32_w]
    rfl
  refine pure_ (i := 12) (N := some 16) (v := ?_) (a' := ?_) #[true, true, true, true, true, true, false, true, true, true, false, true, true, false, false] rfl rfl (by kernel_rfl) (fun _ _ _ h => h) (Or.inl ⟨by rfl, ?_⟩) ?_ ?_
  rotate_left
  · intro w'
    go_simp
    with_reducible rfl
  rotate_left
  · simp only [Act.put, List.setIfInBounds_toArray, List.set_cons_zero, List.set_cons_succ, i64_w, i32_w]
    rfl
  refine take_ (i := 6) (N := some 10) (v := ?_) (a' := ?_) #[true, true, true, true, true, true, true, true, true, true, false, true, true, false, false] rfl rfl (by kernel_rfl) (fun _ _ _ h => h) (Or.inl ⟨by rfl, ?_⟩) hHeld ?_ ?_
  rotate_left
  · intro w' s0
    go_simp
    with_reducible rfl
  rotate_left
  · simp only [Act.put, List.setIfInBounds_toArray, List.set_cons_zero, List.set_cons_succ, i64_w, i32_w]
    rfl
  refine pure_ (i := 10) (N := some 14) (v := ?_) (a' := ?_) #[true, true, true, true, true, true, true, true, true, true, true, true, true, false, false] rfl rfl (by kernel_rfl) (fun _ _ _ h => h) (Or.inl ⟨by rfl, ?_⟩) ?_ ?_
  rotate_left
  · intro w'
    go_simp
    with_reducible rfl
  rotate_left
  · simp only [Act.put, List.setIfInBounds_toArray, List.set_cons_zero, List.set_cons_succ, i64_w, i32_w]
    rfl
  refine pure_ (i := 13) (N := some 17) (v := ?_) (a' := ?_) #[true, true, true, true, true, true, true, true, true, true, true, true, true, true, false] rfl rfl (by kernel_rfl) (fun _ _ _ h => h) (Or.inl ⟨by rfl, ?_⟩) ?_ ?_
  rotate_left
  · intro w'
    go_simp
    with_reducible rfl
  rotate_left
  · simp only [Act.put, List.setIfInBounds_toArray, List.set_cons_zero, List.set_cons_succ, i64_w, i32_w]
    rfl
  refine last_ (i := 14) (N := none) #[true, true, true, true, true, true, true, true, true, true, true, true, true, true, true] rfl rfl (by kernel_rfl) (by decide) (fun K hK => ?_)
  refine skip_ (w1 := ?_) (by rfl) rfl ?_ ?_
  rotate_left
  · go_simp
    rfl
  refine hK.out _ _ ?_
  clear hK K
  refine done_ (by kernel_rfl) ?_
  go_wp2
  go_end0
  exact ⟨rfl, HN.out, HO.out.drew⟩
set_option maxHeartbeats 1600000 in
theorem add_2 (x0 x1 x2 x3 y z k P : Int) (q : Nat) (w : World) (hT : z.tdiv 64 = 2) (hM : z.tmod 64 = k) (hS : ∀ W, (Op.shift BinOp.shl IntKind.u64 1 IntKind.u8 k).run Tryd.prog W = .ok (.int .u64 P) W) (hO : bits BinOp.or IntKind.u64 x2 P = y)
    (hb : w.heap[q]? = some (.cells #[.int .u64 x0, .int .u64 x1, .int .u64 x2, .int .u64 x3] 35 (0, 0))) :
    Calls Tryd.prog 33 #[.pointer (some ⟨q, 0, none⟩), .int .u8 z] w fun e w' => e = .returned (.tuple #[]) ∧ w'.heap[q]? = some (.cells #[.int .u64 x0, .int .u64 x1, .int .u64 y, .int .u64 x3] 35 (0, 0)) ∧ Only q w w' := by
  have hw : IntKind.u8.wrap 2 = 2 := by decide
  have y0 := blk_cell hb 2 (.int .u64 x2) rfl
  have f0 := blk_free hb 2
  have HN := Lib.hid (set_blk (i := 2) hb (.int .u64 y))
  have HO := Lib.hid (Only.set w q 2 (.int .u64 y))
  clear hb
  go_enter Tryd.func33, Tryd.ntmps33
  go_wp2
  refine start_ (n := 15) (S := fun w' => w'.cell? ⟨q, 2, none⟩ = some (.int .u64 x2)) (ds := [14]) #[false, false, false, false, false, false, false, false, false, false, false, false, false, false, false] (by kernel_rfl) rfl rfl (y0) (fun hHeld => ?_)
  refine pure_ (i := 0) (N := some 4) (v := ?_) (a' := ?_) #[true, false, false, false, false, false, false, false, false, false, false, false, false, false, false] rfl rfl (by kernel_rfl) (fun _ _ _ h => h) (Or.inl ⟨by rfl, ?_⟩) ?_ ?_
  rotate_left
  · intro w'
    go_simp
    with_reducible rfl
  rotate_left
  · simp only [Act.put, List.setIfInBounds_toArray, List.set_cons_zero, List.set_cons_succ, i64_w, i32_w]
    rfl
  refine pure_ (i := 1) (N := some 5) (v := ?_) (a' := ?_) #[true, true, false, false, false, false, false, false, false, false, false, false, false, false, false] rfl rfl (by kernel_rfl) (fun _ _ _ h => h) (Or.inl ⟨by rfl, ?_⟩) ?_ ?_
  rotate_left
  · intro w'
    go_simp
    with_reducible rfl
  rotate_left
  · simp only [Act.put, List.setIfInBounds_toArray, List.set_cons_zero, List.set_cons_succ, i64_w, i32_w]
    rfl
  refine pure_ (i := 2) (N := some 6) (v := ?_) (a' := ?_) #[true, true, true, false, false, false, false, false, false, false, false, false, false, false, false] rfl rfl (by kernel_rfl) (fun _ _ _ h => h) (Or.inl ⟨by rfl, ?_⟩) ?_ ?_
  rotate_left
  · intro w'
    go_simp
    with_reducible rfl
  rotate_left
  · simp only [Act.put, List.setIfInBounds_toArray, List.set_cons_zero, List.set_cons_succ, i64_w, i32_w]
    rfl
  refine pure_ (i := 3) (N := some 7) (v := ?_) (a' := ?_) #[true, true, true, true, false, false, false, false, false, false, false, false, false, false, false] rfl rfl (by kernel_rfl) (fun _ _ _ h => h) (Or.inl ⟨by rfl, ?_⟩) ?_ ?_
  rotate_left
  · intro w'
    go_simp
    with_reducible rfl
  rotate_left
  · simp only [Act.put, List.setIfInBounds_toArray, List.set_cons_zero, List.set_cons_succ, i64_w, i32_w]
    rfl
  refine pure_ (i := 4) (N := some 8) (v := ?_) (a' := ?_) #[true, true, true, true, true, false, false, false, false, false, false, false, false, false, false] rfl rfl (by kernel_rfl) (fun _ _ _ h => h) (Or.inl ⟨by rfl, ?_⟩) ?_ ?_
  rotate_left
  · intro w'
    go_simp
    with_reducible rfl
  rotate_left
  · simp only [Act.put, List.setIfInBounds_toArray, List.set_cons_zero, List.set_cons_succ, i64_w, i32_w]
    rfl
  refine pure_ (i := 5) (N := some 9) (v := ?_) (a' := ?_) #[true, true, true, true, true, true, false, false, false, false, false, false, false, false, false] rfl rfl (by kernel_rfl) (fun _ _ _ h => h) (Or.inl ⟨by rfl, ?_⟩) ?_ ?_
  rotate_left
  · intro w'
    go_simp
    with_reducible rfl
  rotate_left
  · simp only [Act.put, List.setIfInBounds_toArray, List.set_cons_zero, List.set_cons_succ, i64_w, i32_w]
    rfl
  refine pure_ (i := 7) (N := some 11) (v := ?_) (a' := ?_) #[true, true, true, true, true, true, false, true, false, false, false, false, false, false, false] rfl rfl (by kernel_rfl) (fun _ _ _ h => h) (Or.inl ⟨by rfl, ?_⟩) ?_ ?_
  rotate_left
  · intro w'
    go_simp
    with_reducible rfl
  rotate_left
  · simp only [Act.put, List.setIfInBounds_toArray, List.set_cons_zero, List.set_cons_succ, i64_w, i32_w]
    rfl
  refine pure_ (i := 8) (N := some 12) (v := ?_) (a' := ?_) #[true, true, true, true, true, true, false, true, true, false, false, false, false, false, false] rfl rfl (by kernel_rfl) (fun _ _ _ h => h) (Or.inl ⟨by rfl, ?_⟩) ?_ ?_
  rotate_left
  · intro w'
    go_simp
    with_reducible rfl
  rotate_left
  · simp only [Act.put, List.setIfInBounds_toArray, List.set_cons_zero, List.set_cons_succ, i64_w, i32_w]
    rfl
  refine pure_ (i := 9) (N := some 13) (v := ?_) (a' := ?_) #[true, true, true, true, true, true, false, true, true, true, false, false, false, false, false] rfl rfl (by kernel_rfl) (fun _ _ _ h => h) (Or.inl ⟨by rfl, ?_⟩) ?_ ?_
  rotate_left
  · intro w'
    go_simp
    with_reducible rfl
  rotate_left
  · simp only [Act.put, List.setIfInBounds_toArray, List.set_cons_zero, List.set_cons_succ, i64_w, i32_w]
    rfl
  refine pure_ (i := 11) (N := some 15) (v := ?_) (a' := ?_) #[true, true, true, true, true, true, false, true, true, true, false, true, false, false, false] rfl rfl (by kernel_rfl) (fun _ _ _ h => h) (Or.inl ⟨by rfl, ?_⟩) ?_ ?_
  rotate_left
  · intro w'
    go_simp
    with_reducible rfl
  rotate_left
  · simp only [Act.put, List.setIfInBounds_toArray, List.set_cons_zero, List.set_cons_succ, i64_w, i32_w]
    rfl
  refine pure_ (i := 12) (N := some 16) (v := ?_) (a' := ?_) #[true, true, true, true, true, true, false, true, true, true, false, true, true, false, false] rfl rfl (by kernel_rfl) (fun _ _ _ h => h) (Or.inl ⟨by rfl, ?_⟩) ?_ ?_
  rotate_left
  · intro w'
    go_simp
    with_reducible rfl
  rotate_left
  · simp only [Act.put, List.setIfInBounds_toArray, List.set_cons_zero, List.set_cons_succ, i64_w, i32_w]
    rfl
  refine take_ (i := 6) (N := some 10) (v := ?_) (a' := ?_) #[true, true, true, true, true, true, true, true, true, true, false, true, true, false, false] rfl rfl (by kernel_rfl) (fun _ _ _ h => h) (Or.inl ⟨by rfl, ?_⟩) hHeld ?_ ?_
  rotate_left
  · intro w' s0
    go_simp
    with_reducible rfl
  rotate_left
  · simp only [Act.put, List.setIfInBounds_toArray, List.set_cons_zero, List.set_cons_succ, i64_w, i32_w]
    rfl
  refine pure_ (i := 10) (N := some 14) (v := ?_) (a' := ?_) #[true, true, true, true, true, true, true, true, true, true, true, true, true, false, false] rfl rfl (by kernel_rfl) (fun _ _ _ h => h) (Or.inl ⟨by rfl, ?_⟩) ?_ ?_
  rotate_left
  · intro w'
    go_simp
    with_reducible rfl
  rotate_left
  · simp only [Act.put, List.setIfInBounds_toArray, List.set_cons_zero, List.set_cons_succ, i64_w, i32_w]
    rfl
  refine pure_ (i := 13) (N := some 17) (v := ?_) (a' := ?_) #[true, true, true, true, true, true, true, true, true, true, true, true, true, true, false] rfl rfl (by kernel_rfl) (fun _ _ _ h => h) (Or.inl ⟨by rfl, ?_⟩) ?_ ?_
  rotate_left
  · intro w'
    go_simp
    with_reducible rfl
  rotate_left
  · simp only [Act.put, List.setIfInBounds_toArray, List.set_cons_zero, List.set_cons_succ, i64_w, i32_w]
    rfl
  refine last_ (i := 14) (N := none) #[true, true, true, true, true, true, true, true, true, true, true, true, true, true, true] rfl rfl (by kernel_rfl) (by decide) (fun K hK => ?_)
  refine skip_ (w1 := ?_) (by rfl) rfl ?_ ?_
  rotate_left
  · go_simp
    rfl
  refine hK.out _ _ ?_
  clear hK K
  refine done_ (by kernel_rfl) ?_
  go_wp2
  go_end0
  exact ⟨rfl, HN.out, HO.out.drew⟩
set_option maxHeartbeats 1600000 in
theorem add_3 (x0 x1 x2 x3 y z k P : Int) (q : Nat) (w : World) (hT : z.tdiv 64 = 3) (hM : z.tmod 64 = k) (hS : ∀ W, (Op.shift BinOp.shl IntKind.u64 1 IntKind.u8 k).run Tryd.prog W = .ok (.int .u64 P) W) (hO : bits BinOp.or IntKind.u64 x3 P = y)
    (hb : w.heap[q]? = some (.cells #[.int .u64 x0, .int .u64 x1, .int .u64 x2, .int .u64 x3] 35 (0, 0))) :
    Calls Tryd.prog 33 #[.pointer (some ⟨q, 0, none⟩), .int .u8 z] w fun e w' => e = .returned (.tuple #[]) ∧ w'.heap[q]? = some (.cells #[.int .u64 x0, .int .u64 x1, .int .u64 x2, .int .u64 y] 35 (0, 0)) ∧ Only q w w' := by
  have hw : IntKind.u8.wrap 3 = 3 := by decide
  have y0 := blk_cell hb 3 (.int .u64 x3) rfl
  have f0 := blk_free hb 3
  have HN := Lib.hid (set_blk (i := 3) hb (.int .u64 y))
  have HO := Lib.hid (Only.set w q 3 (.int .u64 y))
  clear hb
  go_enter Tryd.func33, Tryd.ntmps33
  go_wp2
  refine start_ (n := 15) (S := fun w' => w'.cell? ⟨q, 3, none⟩ = some (.int .u64 x3)) (ds := [14]) #[false, false, false, false, false, false, false, false, false, false, false, false, false, false, false] (by kernel_rfl) rfl rfl (y0) (fun hHeld => ?_)
  refine pure_ (i := 0) (N := some 4) (v := ?_) (a' := ?_) #[true, false, false, false, false, false, false, false, false, false, false, false, false, false, false] rfl rfl (by kernel_rfl) (fun _ _ _ h => h) (Or.inl ⟨by rfl, ?_⟩) ?_ ?_
  rotate_left
  · intro w'
    go_simp
    with_reducible rfl
  rotate_left
  · simp only [Act.put, List.setIfInBounds_toArray, List.set_cons_zero, List.set_cons_succ, i64_w, i32_w]
    rfl
  refine pure_ (i := 1) (N := some 5) (v := ?_) (a' := ?_) #[true, true, false, false, false, false, false, false, false, false, false, false, false, false, false] rfl rfl (by kernel_rfl) (fun _ _ _ h => h) (Or.inl ⟨by rfl, ?_⟩) ?_ ?_
  rotate_left
  · intro w'
    go_simp
    with_reducible rfl
  rotate_left
  · simp only [Act.put, List.setIfInBounds_toArray, List.set_cons_zero, List.set_cons_succ, i64_w, i32_w]
    rfl
  refine pure_ (i := 2) (N := some 6) (v := ?_) (a' := ?_) #[true, true, true, false, false, false, false, false, false, false, false, false, false, false, false] rfl rfl (by kernel_rfl) (fun _ _ _ h => h) (Or.inl ⟨by rfl, ?_⟩) ?_ ?_
  rotate_left
  · intro w'
    go_simp
    with_reducible rfl
  rotate_left
  · simp only [Act.put, List.setIfInBounds_toArray, List.set_cons_zero, List.set_cons_succ, i64_w, i32_w]
    rfl
  refine pure_ (i := 3) (N := some 7) (v := ?_) (a' := ?_) #[true, true, true, true, false, false, false, false, false, false, false, false, false, false, false] rfl rfl (by kernel_rfl) (fun _ _ _ h => h) (Or.inl ⟨by rfl, ?_⟩) ?_ ?_
  rotate_left
  · intro w'
    go_simp
    with_reducible rfl
  rotate_left
  · simp only [Act.put, List.setIfInBounds_toArray, List.set_cons_zero, List.set_cons_succ, i64_w, i32_w]
    rfl
  refine pure_ (i := 4) (N := some 8) (v := ?_) (a' := ?_) #[true, true, true, true, true, false, false, false, false, false, false, false, false, false, false] rfl rfl (by kernel_rfl) (fun _ _ _ h => h) (Or.inl ⟨by rfl, ?_⟩) ?_ ?_
  rotate_left
  · intro w'
    go_simp
    with_reducible rfl
  rotate_left
  · simp only [Act.put, List.setIfInBounds_toArray, List.set_cons_zero, List.set_cons_succ, i64_w, i32_w]
    rfl
  refine pure_ (i := 5) (N := some 9) (v := ?_) (a' := ?_) #[true, true, true, true, true, true, false, false, false, false, false, false, false, false, false] rfl rfl (by kernel_rfl) (fun _ _ _ h => h) (Or.inl ⟨by rfl, ?_⟩) ?_ ?_
  rotate_left
  · intro w'
    go_simp
    with_reducible rfl
  rotate_left
  · simp only [Act.put, List.setIfInBounds_toArray, List.set_cons_zero, List.set_cons_succ, i64_w, i32_w]
    rfl
  refine pure_ (i := 7) (N := some 11) (v := ?_) (a' := ?_) #[true, true, true, true, true, true, false, true, false, false, false, false, false, false, false] rfl rfl (by kernel_rfl) (fun _ _ _ h => h) (Or.inl ⟨by rfl, ?_⟩) ?_ ?_
  rotate_left
  · intro w'
    go_simp
    with_reducible rfl
  rotate_left
  · simp only [Act.put, List.setIfInBounds_toArray, List.set_cons_zero, List.set_cons_succ, i64_w, i32_w]
    rfl
  refine pure_ (i := 8) (N := some 12) (v := ?_) (a' := ?_) #[true, true, true, true, true, true, false, true, true, false, false, false, false, false, false] rfl rfl (by kernel_rfl) (fun _ _ _ h => h) (Or.inl ⟨by rfl, ?_⟩) ?_ ?_
  rotate_left
  · intro w'
    go_simp
    with_reducible rfl
  rotate_left
  · simp only [Act.put, List.setIfInBounds_toArray, List.set_cons_zero, List.set_cons_succ, i64_w, i32_w]
    rfl
  refine pure_ (i := 9) (N := some 13) (v := ?_) (a' := ?_) #[true, true, true, true, true, true, false, true, true, true, false, false, false, false, false] rfl rfl (by kernel_rfl) (fun _ _ _ h => h) (Or.inl ⟨by rfl, ?_⟩) ?_ ?_
  rotate_left
  · intro w'
    go_simp
    with_reducible rfl
  rotate_left
  · simp only [Act.put, List.setIfInBounds_toArray, List.set_cons_zero, List.set_cons_succ, i64_w, i32_w]
    rfl
  refine pure_ (i := 11) (N := some 15) (v := ?_) (a' := ?_) #[true, true, true, true, true, true, false, true, true, true, false, true, false, false, false] rfl rfl (by kernel_rfl) (fun _ _ _ h => h) (Or.inl ⟨by rfl, ?_⟩) ?_ ?_
  rotate_left
  · intro w'
    go_simp
    with_reducible rfl
  rotate_left
  · simp only [Act.put, List.setIfInBounds_toArray, List.set_cons_zero, List.set_cons_succ, i64_w, i32_w]
    rfl
  refine pure_ (i := 12) (N := some 16) (v := ?_) (a' := ?_) #[true, true, true, true, true, true, false, true, true, true, false, true, true, false, false] rfl rfl (by kernel_rfl) (fun _ _ _ h => h) (Or.inl ⟨by rfl, ?_⟩) ?_ ?_
  rotate_left
  · intro w'
    go_simp
    with_reducible rfl
  rotate_left
  · simp only [Act.put, List.setIfInBounds_toArray, List.set_cons_zero, List.set_cons_succ, i64_w, i32_w]
    rfl
  refine take_ (i := 6) (N := some 10) (v := ?_) (a' := ?_) #[true, true, true, true, true, true, true, true, true, true, false, true, true, false, false] rfl rfl (by kernel_rfl) (fun _ _ _ h => h) (Or.inl ⟨by rfl, ?_⟩) hHeld ?_ ?_
  rotate_left
  · intro w' s0
    go_simp
    with_reducible rfl
  rotate_left
  · simp only [Act.put, List.setIfInBounds_toArray, List.set_cons_zero, List.set_cons_succ, i64_w, i32_w]
    rfl
  refine pure_ (i := 10) (N := some 14) (v := ?_) (a' := ?_) #[true, true, true, true, true, true, true, true, true, true, true, true, true, false, false] rfl rfl (by kernel_rfl) (fun _ _ _ h => h) (Or.inl ⟨by rfl, ?_⟩) ?_ ?_
  rotate_left
  · intro w'
    go_simp
    with_reducible rfl
  rotate_left
  · simp only [Act.put, List.setIfInBounds_toArray, List.set_cons_zero, List.set_cons_succ, i64_w, i32_w]
    rfl
  refine pure_ (i := 13) (N := some 17) (v := ?_) (a' := ?_) #[true, true, true, true, true, true, true, true, true, true, true, true, true, true, false] rfl rfl (by kernel_rfl) (fun _ _ _ h => h) (Or.inl ⟨by rfl, ?_⟩) ?_ ?_
  rotate_left
  · intro w'
    go_simp
    with_reducible rfl
  rotate_left
  · simp only [Act.put, List.setIfInBounds_toArray, List.set_cons_zero, List.set_cons_succ, i64_w, i32_w]
    rfl
  refine last_ (i := 14) (N := none) #[true, true, true, true, true, true, true, true, true, true, true, true, true, true, true] rfl rfl (by kernel_rfl) (by decide) (fun K hK => ?_)
  refine skip_ (w1 := ?_) (by rfl) rfl ?_ ?_
  rotate_left
  · go_simp
    rfl
  refine hK.out _ _ ?_
  clear hK K
  refine done_ (by kernel_rfl) ?_
  go_wp2
  go_end0
  exact ⟨rfl, HN.out, HO.out.drew⟩
theorem wd_put (N c i : Nat) (h : c / 64 ≠ i) : wd (N ||| 2 ^ c) i = wd N i := by
  apply Nat.eq_of_testBit_eq
  intro k
  rw [tb_wd, tb_wd, Nat.testBit_or, Nat.testBit_two_pow]
  by_cases hk : k < 64
  · have : ¬ c = 64 * i + k := by omega
    simp [hk, this]
  · simp [hk]
theorem wd_puts (N c j : Nat) (h : c / 64 = j) : bits BinOp.or IntKind.u64 ((wd N j : Nat) : Int) ((2 ^ (c % 64) : Nat) : Int) = ((wd (N ||| 2 ^ c) j : Nat) : Int) := by
  have hp : (2 : Nat) ^ (c % 64) < 18446744073709551616 := by
    have := Nat.pow_lt_pow_right (a := 2) (by decide) (show c % 64 < 64 by omega)
    rwa [show (2 : Nat) ^ 64 = 18446744073709551616 by decide] at this
  rw [u64_or_nat _ _ (wd_lt N j) hp]
  congr 1
  apply Nat.eq_of_testBit_eq
  intro k
  rw [Nat.testBit_or, tb_wd, tb_wd, Nat.testBit_or, Nat.testBit_two_pow, Nat.testBit_two_pow]
  by_cases hk : k < 64
  · by_cases e : c = 64 * j + k
    · have : c % 64 = k := by omega
      simp [hk, e] <;> omega
    · have : ¬ c % 64 = k := by omega
      simp [hk, e, this]
  · have : ¬ c % 64 = k := by omega
    simp [hk, this]
theorem add_calls (N c q : Nat) (hc : c < 256) (w : World) (hb : w.heap[q]? = some (.cells (sc N) 35 (0, 0))) :
    Calls Tryd.prog 33 #[.pointer (some ⟨q, 0, none⟩), .int .u8 c] w fun e w' => e = .returned (.tuple #[]) ∧ w'.heap[q]? = some (.cells (sc (N ||| 2 ^ c)) 35 (0, 0)) ∧ Only q w w' := by
  have hj : c / 64 = 0 ∨ c / 64 = 1 ∨ c / 64 = 2 ∨ c / 64 = 3 := by omega
  have hM : (c : Int).tmod 64 = ((c % 64 : Nat) : Int) := rfl
  have hD : (c : Int).tdiv 64 = ((c / 64 : Nat) : Int) := rfl
  have hS := shl_run (c % 64) (by omega)
  unfold sc at hb ⊢
  rcases hj with hj | hj | hj | hj
  · rw [wd_put N c 1 (by omega), wd_put N c 2 (by omega), wd_put N c 3 (by omega)]
    exact add_0 _ _ _ _ _ _ _ _ q w (by rw [hD, hj]; rfl) hM hS (wd_puts N c 0 hj) hb
  · rw [wd_put N c 0 (by omega), wd_put N c 2 (by omega), wd_put N c 3 (by omega)]
    exact add_1 _ _ _ _ _ _ _ _ q w (by rw [hD, hj]; rfl) hM hS (wd_puts N c 1 hj) hb
  · rw [wd_put N c 0 (by omega), wd_put N c 1 (by omega), wd_put N c 3 (by omega)]
    exact add_2 _ _ _ _ _ _ _ _ q w (by rw [hD, hj]; rfl) hM hS (wd_puts N c 2 hj) hb
  · rw [wd_put N c 0 (by omega), wd_put N c 1 (by omega), wd_put N c 2 (by omega)]
    exact add_3 _ _ _ _ _ _ _ _ q w (by rw [hD, hj]; rfl) hM hS (wd_puts N c 3 hj) hb
end Go.Proofs.YtaaihcojedibeaaDoor.CSet
end
section
/- Sets: of one, of a range; not; either, both. -/
namespace Go.Proofs.YtaaihcojedibeaaDoor.CMake
set_option maxRecDepth 100000
open Go.RowKit CMem CBits CSet Go.Proofs.YtaaihcojedibeaaDoorW.PrintWords Go.Proofs.YtaaihcojedibeaaDoorW.PrintLast Go.Proofs.YtaaihcojedibeaaDoorW.PrintMore
set_option linter.unusedVariables false
set_option linter.unusedSimpArgs false

theorem sc_zero : sc 0 = #[.int .u64 0, .int .u64 0, .int .u64 0, .int .u64 0] := by
  unfold sc wd
  simp
theorem set_four {w : World} {b : Nat} {x0 x1 x2 x3 : Value} {t : TypeId} (h : w.heap[b]? = some (.cells #[x0, x1, x2, x3] t (0, 0))) (u0 u1 u2 u3 : Value) :
    w.cell? ⟨b, 0, none⟩ = some x0 ∧ w.cell? ⟨b, 1, none⟩ = some x1 ∧ w.cell? ⟨b, 2, none⟩ = some x2 ∧ w.cell? ⟨b, 3, none⟩ = some x3 ∧
    w.frozen? ⟨b, 0, none⟩ = false ∧ w.frozen? ⟨b, 1, none⟩ = false ∧ w.frozen? ⟨b, 2, none⟩ = false ∧ w.frozen? ⟨b, 3, none⟩ = false ∧
    ((((w.setCell ⟨b, 0, none⟩ u0).setCell ⟨b, 1, none⟩ u1).setCell ⟨b, 2, none⟩ u2).setCell ⟨b, 3, none⟩ u3).heap[b]? = some (.cells #[u0, u1, u2, u3] t (0, 0)) := by
  have h0 := set_blk (i := 0) h u0
  have h1 := set_blk (i := 1) h0 u1
  have h2 := set_blk (i := 2) h1 u2
  have h3 := set_blk (i := 3) h2 u3
  exact ⟨blk_cell h 0 _ rfl, blk_cell h 1 _ rfl, blk_cell h 2 _ rfl, blk_cell h 3 _ rfl, blk_free h 0, blk_free h 1, blk_free h 2, blk_free h 3, h3⟩
theorem below_four {B : Nat} {w w' : World} (h : Below B w w') {b : Nat} (hb : B ≤ b) (u0 u1 u2 u3 : Value) :
    Below B w ((((w'.setCell ⟨b, 0, none⟩ u0).setCell ⟨b, 1, none⟩ u1).setCell ⟨b, 2, none⟩ u2).setCell ⟨b, 3, none⟩ u3) := below_set (below_set (below_set (below_set h hb _) hb _) hb _) hb _
theorem one_calls (c : Nat) (hc : c < 256) (w : World) :
    Calls Tryd.prog 20 #[.int .u8 c] w fun e w' => e = .returned (.agg (sc (2 ^ c))) ∧ Below w.heap.size w w' := by
  have BR := blk_alloc (heap_alloc_new w (.cells #[.int .u64 0, .int .u64 0, .int .u64 0, .int .u64 0] 35)) (.cells #[.int .u64 0, .int .u64 0, .int .u64 0, .int .u64 0] 35)
  have BS := blk2 w (.cells #[.int .u64 0, .int .u64 0, .int .u64 0, .int .u64 0] 35) #[.int .u64 0, .int .u64 0, .int .u64 0, .int .u64 0] 35
  have HB := below2 w (.cells #[.int .u64 0, .int .u64 0, .int .u64 0, .int .u64 0] 35) (.cells #[.int .u64 0, .int .u64 0, .int .u64 0, .int .u64 0] 35)
  rw [← sc_zero] at BS
  have HC := Lib.hid (add_calls 0 c _ hc _ BS)
  rw [Nat.zero_or] at HC
  rw [sc_zero] at HC
  have BR := Lib.hid BR
  have HB := Lib.hid HB
  clear BS
  unfold sc at HC ⊢
  generalize wd (2 ^ c) 0 = x0 at *
  generalize wd (2 ^ c) 1 = x1 at *
  generalize wd (2 ^ c) 2 = x2 at *
  generalize wd (2 ^ c) 3 = x3 at *
  go_enter Tryd.func20, Tryd.ntmps20
  go_wp2_with fail
  refine HC.out.mono ?_
  rintro e w1 ⟨rfl, hq, ho⟩
  have HR := ho.blk BR.out (by omega)
  have HB1 := Lib.hid (Only.below HB.out ho (by omega) (by simp; omega))
  have y0 := blk_cell hq 0 (.int .u64 x0) rfl
  have y1 := blk_cell hq 1 (.int .u64 x1) rfl
  have y2 := blk_cell hq 2 (.int .u64 x2) rfl
  have y3 := blk_cell hq 3 (.int .u64 x3) rfl
  obtain ⟨z0, z1, z2, z3, f0, f1, f2, f3, zz⟩ := set_four HR (.int .u64 x0) (.int .u64 x1) (.int .u64 x2) (.int .u64 x3)
  have ZZ := Lib.hid zz
  clear zz HR hq ho
  go_wp2
  refine bodyPost_ret (results_cell_row rfl _ _ w.heap.size 35 #[.int .u64 x0, .int .u64 x1, .int .u64 x2, .int .u64 x3] (0, 0) _ rfl ZZ.out Tryd.underlying35 rfl (by kernel_rfl)) rfl ?_
  exact ⟨rfl, below_four HB1.out (Nat.le_refl _) _ _ _ _⟩
end Go.Proofs.YtaaihcojedibeaaDoor.CMake
end
section
/- Sets: the runs. -/
namespace Go.Proofs.YtaaihcojedibeaaDoor.CRng
set_option maxRecDepth 100000
open Go.RowKit CMem CBits CSet CMake Go.Proofs.YtaaihcojedibeaaDoorW.PrintWords Go.Proofs.YtaaihcojedibeaaDoorW.PrintLast Go.Proofs.YtaaihcojedibeaaDoorW.PrintMore
set_option linter.unusedVariables false
set_option linter.unusedSimpArgs false

/-- the cells of runs -/
def prs (L : List (Nat × Nat)) : List Value := L.flatMap fun p => [.int .u8 (p.1 : Nat), .int .u8 (p.2 : Nat)]
theorem prs_snoc (L : List (Nat × Nat)) (a b : Nat) : prs (L ++ [(a, b)]) = prs L ++ [.int .u8 (a : Nat), .int .u8 (b : Nat)] := by simp [prs]
structure RS (B : Nat) (w : World) (qs qf qo : Nat) (N : Nat) (f : Int) (L : List (Nat × Nat)) : Prop where
  box : w.heap[qs]? = some (.cells (sc N) 35 (0, 0))
  fr : w.heap[qf]? = some (.cells #[.int .i64 f] 3 (0, 0))
  own : ∃ v, w.heap[qo]? = some (.cells #[v] 67 (0, 0)) ∧ w.ownsRow B 71 2 v L.length (prs L) ∧ v.ownBlock ≠ some qs ∧ v.ownBlock ≠ some qf ∧ v.ownBlock ≠ some qo
  sf : qs ≠ qf
  so : qs ≠ qo
  fo : qf ≠ qo
  b0 : B ≤ qs
  b1 : B ≤ qf
  b2 : B ≤ qo
theorem RS.below {B : Nat} {w w' : World} {qs qf qo N : Nat} {f : Int} {L : List (Nat × Nat)} (h : RS B w qs qf qo N f L) (hb : Below w.heap.size w w') : RS B w' qs qf qo N f L := by
  obtain ⟨v, h1, h2, h3⟩ := h.own
  refine ⟨below_blk hb h.box, below_blk hb h.fr, ⟨v, below_blk hb h1, ?_, h3⟩, h.sf, h.so, h.fo, h.b0, h.b1, h.b2⟩
  obtain ⟨q1, q2⟩ := h2
  refine ⟨q1, ?_⟩
  rcases q2 with ⟨q2, q3⟩ | ⟨g, cap, cur, q2, q3, q4, q5⟩
  · exact .inl ⟨q2, q3⟩
  · exact .inr ⟨g, cap, cur, q2, q3, below_blk hb q4, q5⟩
theorem own_set {B : Nat} {w : World} {e : TypeId} {size n : Nat} {v x : Value} {xs : List Value} {q i : Nat} (h : w.ownsRow B e size v n xs) (hn : v.ownBlock ≠ some q) : (w.setCell ⟨q, i, none⟩ x).ownsRow B e size v n xs := by
  obtain ⟨q1, q2⟩ := h
  refine ⟨q1, ?_⟩
  rcases q2 with ⟨q2, q3⟩ | ⟨g, cap, cur, q2, q3, q4, q5⟩
  · exact .inl ⟨q2, q3⟩
  · refine .inr ⟨g, cap, cur, q2, q3, set_other q4 (fun e => hn ?_), q5⟩
    rw [q2]
    simp [Value.ownBlock, e]
/-- from is set -/
theorem RS.setF {B : Nat} {w : World} {qs qf qo N : Nat} {f : Int} {L : List (Nat × Nat)} (h : RS B w qs qf qo N f L) (f' : Int) : RS B (w.setCell ⟨qf, 0, none⟩ (.int .i64 f')) qs qf qo N f' L := by
  obtain ⟨v, h1, h2, h3, h4, h5⟩ := h.own
  exact ⟨set_other h.box h.sf, set_blk h.fr _, ⟨v, set_other h1 (Ne.symm h.fo), own_set h2 h4, h3, h4, h5⟩, h.sf, h.so, h.fo, h.b0, h.b1, h.b2⟩
theorem info_pair : (Tryd.prog.info? 71).map (fun i => (i.zero, i.size, i.bytes)) = some (some (.agg #[.int .u8 0, .int .u8 0]), 2, 2) := by kernel_rfl
set_option maxHeartbeats 3200000 in
theorem end_no (B : Nat) (w : World) (qs qf qo N : Nat) (f c : Int) (L : List (Nat × Nat)) (H : RS B w qs qf qo N f L) (hf : f < 0) (hB : B ≤ w.heap.size) :
    Calls Tryd.prog 51 #[.int .i64 c, .pointer (some ⟨qf, 0, none⟩), .pointer (some ⟨qo, 0, none⟩)] w fun e w' => e = .returned (.tuple #[]) ∧ RS B w' qs qf qo N (-1) L ∧ Below B w w' := by
  have y0 := blk_cell H.fr 0 (.int .i64 f) rfl
  have y1 := blk_free H.fr 0
  have HN := Lib.hid (H.setF (-1))
  have HB := Lib.hid (below_set (Below.refl B w) (i := 0) H.b1 (.int .i64 (-1)))
  clear H
  go_enter Tryd.func51, Tryd.ntmps51
  go_wp2
  go_end0
  exact ⟨rfl, HN.out, HB.out⟩
set_option maxHeartbeats 3200000 in
theorem end_yes (B : Nat) (w : World) (qs qf qo N : Nat) (a c : Nat) (L : List (Nat × Nat)) (H : RS B w qs qf qo N (a : Nat) L) (ha : a < 256) (hc : 1 ≤ c) (hc1 : c ≤ 256) (hL : L.length ≤ 300) (hB : B ≤ w.heap.size) :
    Calls Tryd.prog 51 #[.int .i64 (c : Nat), .pointer (some ⟨qf, 0, none⟩), .pointer (some ⟨qo, 0, none⟩)] w fun e w' => e = .returned (.tuple #[]) ∧ RS B w' qs qf qo N (-1) (L ++ [(a, c - 1)]) ∧ Below B w w' := by
  obtain ⟨i0, hi, hz0, hz1, hz2⟩ := info_parts info_pair
  have I0 := Lib.hid hi
  have Z0 := Lib.hid hz0
  have Z1 := Lib.hid hz1
  have Z2 := Lib.hid hz2
  clear hi hz0 hz1 hz2
  obtain ⟨v, h1, h2, h3, h4, h5⟩ := H.own
  obtain ⟨d, rfl⟩ : ∃ d, c = d + 1 := ⟨c - 1, by omega⟩
  have hcd : ((d + 1 : Nat) : Int) - 1 = (d : Int) := by omega
  obtain ⟨cc, hcc⟩ : ∃ cc : Int, ((d + 1 : Nat) : Int) = cc := ⟨_, rfl⟩
  rw [hcc] at hcd ⊢
  have g0 : (0 : Int) ≤ (a : Int) := by omega
  have g1 : (a : Int) < 256 := by omega
  have g2 : (0 : Int) ≤ (d : Int) := by omega
  have g3 : (d : Int) < 256 := by omega
  have y0 := blk_cell H.fr 0 (.int .i64 (a : Nat)) rfl
  have u0 := blk_cell h1 0 v rfl
  have OW := Lib.hid h2
  have HH := Lib.hid (show _ ∧ _ ∧ _ from ⟨h3, h4, h5⟩)
  have HO := Lib.hid h1
  have HS := Lib.hid H
  have HL := Lib.hid hL
  have lo := lt_of_blk h1
  have HC := Lib.hid hcc
  clear H h1 h2 h3 h4 h5 hcc hL
  go_enter Tryd.func51, Tryd.ntmps51
  go_wp2_with (at_builtin; refine wpList_append_lies _ rfl (.tmp 6) (.tmp 13) 67 rfl B 71 i0 (.agg #[.int .u8 0, .int .u8 0]) 2 2 Tryd.underlying67 I0.out Z0.out Z1.out Z2.out rfl (by decide) v L.length (prs L) rfl (OW.out.alloc _) ⟨w.heap.size, 0, none⟩ 1 1 [.int .u8 (a : Nat), .int .u8 (d : Nat)] rfl rfl ?c1 (by simp [Value.oneCell']) (by omega) (by have := HL.out; unfold maxLen; omega) (by have := HL.out; omega) (by simp; omega) _ rfl ?_)
  case c1 =>
    intro j u hj
    match j, hj with
    | 0, hj => simp at hj; subst hj; simp [Addr.add]
    | 1, hj => simp at hj; subst hj; simp [Addr.add]
  intro g1 cp1 w5 ho hgr hat hlt
  have ls := HS.out
  have lqs : qs < w.heap.size := lt_of_blk ls.box
  have lqf : qf < w.heap.size := lt_of_blk ls.fr
  obtain ⟨n1, n2, n3⟩ := HH.out
  have m1 : g1 ≠ qs := by
    rcases hat with h | h
    · exact fun e => n1 (by rw [h, e])
    · omega
  have m2 : g1 ≠ qf := by
    rcases hat with h | h
    · exact fun e => n2 (by rw [h, e])
    · omega
  have m3 : g1 ≠ qo := by
    rcases hat with h | h
    · exact fun e => n3 (by rw [h, e])
    · omega
  have kb : ∀ b o, w.heap[b]? = some o → v.ownBlock ≠ some b → w5.heap[b]? = some o := fun b o hb hn => (hgr.block b (by have := lt_of_blk hb; simp; omega) (fun e => hn e.symm)).trans (blk_alloc hb _)
  have kB := OW.out.2
  have h0 : Below B w w5 := ⟨hgr.os, hgr.tape, hgr.output, by have := hgr.size; simp at this; omega, fun k hk => by
    have hne : some k ≠ v.ownBlock := fun e => by
      rcases kB with ⟨q, _⟩ | ⟨g, cap, cur, q, q3, _⟩
      · rw [q] at e; simp [Value.ownBlock] at e
      · rw [q] at e; simp [Value.ownBlock] at e; omega
    rw [hgr.block k (by simp; omega) hne]
    exact Below.heap_alloc w _ k (by omega)⟩
  have q1 := kb qs _ ls.box n1
  have q2 := kb qf _ ls.fr n2
  have q3 := kb qo _ HO.out n3
  have u1 := blk_cell q3 0 v rfl
  have u2 := blk_free q3 0
  have u3 := blk_cell q2 0 (.int .i64 (a : Nat)) rfl
  have u4 := blk_free q2 0
  have R1 : RS B ((w5.setCell ⟨qo, 0, none⟩ (.slice (some ⟨g1, 0, none⟩) (L.length + 1) cp1)).setCell ⟨qf, 0, none⟩ (.int .i64 (-1))) qs qf qo N (-1) (L ++ [(a, d)]) := by
    refine RS.setF (f := (a : Nat)) ⟨set_other q1 ls.so, set_other q2 ls.fo, ⟨_, set_blk q3 _, ?_, ?_, ?_, ?_⟩, ls.sf, ls.so, ls.fo, ls.b0, ls.b1, ls.b2⟩ (-1)
    · rw [prs_snoc, show (L ++ [(a, d)]).length = L.length + 1 by simp]
      exact own_set ho (by simp [Value.ownBlock]; exact m3)
    · simp [Value.ownBlock]; exact m1
    · simp [Value.ownBlock]; exact m2
    · simp [Value.ownBlock]; exact m3
  have R2 := Lib.hid R1
  have R3 := Lib.hid (below_set (below_set h0 (i := 0) ls.b2 (.slice (some ⟨g1, 0, none⟩) (L.length + 1) cp1)) (i := 0) ls.b1 (.int .i64 (-1)))
  have NE := ls.fo
  clear ho hgr hat hlt ls n1 n2 n3 m1 m2 m3 kb kB h0 q1 q2 q3 R1 y0 u0
  go_wp2
  go_end0
  exact ⟨rfl, by simpa using R2.out, R3.out⟩
end Go.Proofs.YtaaihcojedibeaaDoor.CRng
end
section
/- Sets: the runs, by the loop. -/
namespace Go.Proofs.YtaaihcojedibeaaDoor.CRuns
set_option maxRecDepth 100000
open Go.RowKit CMem CBits CSet CMake CRng Go.Proofs.YtaaihcojedibeaaDoorW.PrintWords Go.Proofs.YtaaihcojedibeaaDoorW.PrintLast Go.Proofs.YtaaihcojedibeaaDoorW.PrintMore
set_option linter.unusedVariables false
set_option linter.unusedSimpArgs false

/-- behind the first k bytes: the runs that ended, and where the last one began (or -1) -/
def rst (N : Nat) : Nat → List (Nat × Nat) × Int
  | 0 => ([], -1)
  | k + 1 => if N.testBit k then ((rst N k).1, if (rst N k).2 < 0 then (k : Int) else (rst N k).2) else if (rst N k).2 < 0 then ((rst N k).1, -1) else ((rst N k).1 ++ [((rst N k).2.toNat, k - 1)], -1)
def runs (N : Nat) : List (Nat × Nat) := if (rst N 256).2 < 0 then (rst N 256).1 else (rst N 256).1 ++ [((rst N 256).2.toNat, 255)]
theorem rst_ok (N k : Nat) : -1 ≤ (rst N k).2 ∧ (rst N k).2 < k ∧ (rst N k).1.length ≤ k := by
  induction k with
  | zero => simp [rst]
  | succ k ih =>
    rw [rst]
    split
    · refine ⟨?_, ?_, by simp; omega⟩
      · simp only []; split <;> omega
      · simp only []; split <;> omega
    · split
      · exact ⟨by simp, by simp; omega, by simp; omega⟩
      · exact ⟨by simp, by simp; omega, by simp; omega⟩
set_option maxRecDepth 100000 in
set_option maxHeartbeats 6400000 in
theorem ranges_calls (N : Nat) (w : World) :
    Calls Tryd.prog 34 #[.agg (sc N)] w fun e w' => (∃ v, e = .returned v ∧ w'.ownsRow w.heap.size 71 2 v (runs N).length (prs (runs N))) ∧ Below w.heap.size w w' := by
  have hmf : ∀ (fn : Fn) (first cap : Array Value) (w : World), (Instr.makeFunc fn first cap).run Tryd.prog w = .ok (.func fn first cap) w := fun _ _ _ _ => rfl
  have HH := Lib.hid (fun c (hc : c < 256) W => has_calls N c hc W)
  have HS : RS w.heap.size (((w.alloc (.cells (sc N) 35)).alloc (.cells #[.slice none 0 0] 67)).alloc (.cells #[.int .i64 (-1)] 3)) w.heap.size (w.heap.size + 2) (w.heap.size + 1) N (-1) [] := by
    refine ⟨blk_alloc (blk_alloc (heap_alloc_new w _) _) _, blk3 w _ _ _ _, ⟨.slice none 0 0, blk_alloc (blk2 w _ _ _) _, ⟨rfl, .inl ⟨rfl, rfl⟩⟩, by simp [Value.ownBlock], by simp [Value.ownBlock], by simp [Value.ownBlock]⟩, by omega, by omega, by omega, by omega, by omega, by omega⟩
  have HB := Lib.hid (below3 w (.cells (sc N) 35) (.cells #[.slice none 0 0] 67) (.cells #[.int .i64 (-1)] 3))
  have HS := Lib.hid HS
  have hsc : sc N = #[.int .u64 (wd N 0 : Nat), .int .u64 (wd N 1 : Nat), .int .u64 (wd N 2 : Nat), .int .u64 (wd N 3 : Nat)] := rfl
  have HC := Lib.hid (show ∀ W : World, W.heap[w.heap.size]? = some (.cells (sc N) 35 (0, 0)) → W.heap[w.heap.size]? = some (.cells #[.int .u64 (wd N 0 : Nat), .int .u64 (wd N 1 : Nat), .int .u64 (wd N 2 : Nat), .int .u64 (wd N 3 : Nat)] 35 (0, 0)) from fun W H => H)
  rw [hsc] at HH HS HB ⊢
  clear hsc
  generalize wd N 0 = x0 at *
  generalize wd N 1 = x1 at *
  generalize wd N 2 = x2 at *
  generalize wd N 3 = x3 at *
  go_enter Tryd.func34, Tryd.ntmps34
  go_wp2
  generalize (((w.alloc (.cells #[.int .u64 x0, .int .u64 x1, .int .u64 x2, .int .u64 x3] 35)).alloc (.cells #[.slice none 0 0] 67)).alloc (.cells #[.int .i64 (-1)] 3)) = w3 at *
  rw [show w.heap.size + 1 + 1 = w.heap.size + 2 by omega]
  go_loopw [6, 8] (fun _ t wr => ∃ k : Nat, k ≤ 256 ∧ t = .int .i64 (k : Nat) ∧ Hid (RS w.heap.size wr w.heap.size (w.heap.size + 2) (w.heap.size + 1) N (rst N k).2 (rst N k).1) ∧ Hid (Below w.heap.size w wr)) (fun _ t _ => 256 - (intOf t).toNat)
  case atStart => exact ⟨0, by omega, rfl, HS, HB⟩
  case round =>
    clear HS HB
    obtain ⟨k, hk, rfl, HS, HB⟩ := hrel
    have ho := rst_ok N k
    by_cases h : k < 256
    · have hcell := HC.out _ HS.out.box
      have a0 := blk_cell hcell 0 (.int .u64 x0) rfl
      have a1 := blk_cell hcell 1 (.int .u64 x1) rfl
      have a2 := blk_cell hcell 2 (.int .u64 x2) rfl
      have a3 := blk_cell hcell 3 (.int .u64 x3) rfl
      have hstep : rst N (k + 1) = if N.testBit k then ((rst N k).1, if (rst N k).2 < 0 then (k : Int) else (rst N k).2) else if (rst N k).2 < 0 then ((rst N k).1, -1) else ((rst N k).1 ++ [((rst N k).2.toNat, k - 1)], -1) := rfl
      have HX := Lib.hid hstep
      have H1 := Lib.hid (HH.out k h)
      clear hcell hstep
      obtain ⟨L, hL⟩ : ∃ L, (rst N k).1 = L := ⟨_, rfl⟩
      obtain ⟨f, hf⟩ : ∃ f, (rst N k).2 = f := ⟨_, rfl⟩
      rw [hL, hf] at HX HS ho
      clear hL hf
      go_wp2_with fail
      refine (H1.out _).mono ?_
      rintro e w4 ⟨rfl, hb⟩
      have HS := Lib.hid (HS.out.below hb)
      have HB := Lib.hid (below_step HB.out hb)
      clear hb a0 a1 a2 a3
      cases hB : N.testBit k
      · rw [hB] at HX
        by_cases hf : f < 0
        · go_wp2_with fail
          refine (end_no _ _ _ _ _ N f (k : Int) L HS.out hf HB.out.size).mono ?_
          rintro e w5 ⟨rfl, hs, hb⟩
          have HS := Lib.hid hs
          have HB := Lib.hid (HB.out.trans hb)
          clear hs hb
          go_wp2
          go_roundw
          case rel => exact ⟨k + 1, by omega, by simp, by rw [HX.out]; simpa [hf] using HS, HB⟩
          case measure => simp [intOf]; omega
        · obtain ⟨a, rfl⟩ : ∃ a : Nat, f = (a : Int) := ⟨f.toNat, by omega⟩
          go_wp2_with fail
          refine (end_yes _ _ _ _ _ N a k L HS.out (by omega) (by omega) (by omega) (by omega) HB.out.size).mono ?_
          rintro e w5 ⟨rfl, hs, hb⟩
          have HS := Lib.hid hs
          have HB := Lib.hid (HB.out.trans hb)
          clear hs hb
          go_wp2
          go_roundw
          case rel => exact ⟨k + 1, by omega, by simp, (by (have hn : ¬ ((a : Int) < 0) := by omega); rw [HX.out]; simp only [Bool.false_eq_true, if_false, if_neg hn, Int.toNat_natCast]; exact HS), HB⟩
          case measure => simp [intOf]; omega
      · rw [hB] at HX
        have y0 := blk_cell HS.out.fr 0 (.int .i64 f) rfl
        have y1 := blk_free HS.out.fr 0
        by_cases hf : f < 0
        · have HS2 := Lib.hid (HS.out.setF (k : Int))
          have HB2 := Lib.hid (below_set HB.out (b := w.heap.size + 2) (i := 0) (by omega) (.int .i64 (k : Int)))
          go_wp2
          go_roundw
          case rel => exact ⟨k + 1, by omega, by simp, by rw [HX.out]; simpa [hf] using HS2, HB2⟩
          case measure => simp [intOf]; omega
        · go_wp2
          go_roundw
          case rel => exact ⟨k + 1, by omega, by simp, (by (have hn : ¬ (f < 0) := by omega); rw [HX.out]; simp only [if_true, if_neg hn]; exact HS), HB⟩
          case measure => simp [intOf]; omega
    · obtain rfl : k = 256 := by omega
      have hr : runs N = if (rst N 256).2 < 0 then (rst N 256).1 else (rst N 256).1 ++ [((rst N 256).2.toNat, 255)] := rfl
      have HX := Lib.hid hr
      clear hr
      obtain ⟨L, hL⟩ : ∃ L, (rst N 256).1 = L := ⟨_, rfl⟩
      obtain ⟨f, hf⟩ : ∃ f, (rst N 256).2 = f := ⟨_, rfl⟩
      rw [hL, hf] at HX HS ho
      clear hL hf
      by_cases hf : f < 0
      · go_wp2_with fail
        refine (end_no _ _ _ _ _ N f 256 L HS.out hf HB.out.size).mono ?_
        rintro e w5 ⟨rfl, hs, hb⟩
        obtain ⟨v, v1, v2, _⟩ := hs.own
        have u0 := blk_cell v1 0 v rfl
        have HV := Lib.hid v2
        have HB := Lib.hid (HB.out.trans hb)
        clear hs hb v1 v2
        go_wp2
        go_ret
        exact ⟨⟨v, rfl, by rw [HX.out, if_pos hf]; exact HV.out⟩, HB.out⟩
      · obtain ⟨a, rfl⟩ : ∃ a : Nat, f = (a : Int) := ⟨f.toNat, by omega⟩
        go_wp2_with fail
        refine (end_yes _ _ _ _ _ N a 256 L HS.out (by omega) (by omega) (by omega) (by omega) HB.out.size).mono ?_
        rintro e w5 ⟨rfl, hs, hb⟩
        obtain ⟨v, v1, v2, _⟩ := hs.own
        have u0 := blk_cell v1 0 v rfl
        have HV := Lib.hid v2
        have HB := Lib.hid (HB.out.trans hb)
        clear hs hb v1 v2
        go_wp2
        go_ret
        exact ⟨⟨v, rfl, by rw [HX.out, if_neg (by omega), Int.toNat_natCast]; exact HV.out⟩, HB.out⟩
end Go.Proofs.YtaaihcojedibeaaDoor.CRuns
end
section
/- How many bits: byte by byte. -/
namespace Go.Proofs.YtaaihcojedibeaaDoor.CPop
set_option maxRecDepth 100000
open CBits

theorem and_split (a b c d : Nat) (hc : c < 256) (hd : d < 256) : (256 * a + c) &&& (256 * b + d) = 256 * (a &&& b) + (c &&& d) := by
  have hcd : c &&& d < 256 := Nat.lt_of_le_of_lt Nat.and_le_left hc
  apply Nat.eq_of_testBit_eq
  intro i
  rw [show (256 : Nat) = 2 ^ 8 by decide] at *
  rw [Nat.testBit_and, Nat.testBit_two_pow_mul_add _ hc, Nat.testBit_two_pow_mul_add _ hd, Nat.testBit_two_pow_mul_add _ hcd]
  by_cases h : i < 8
  · simp [h]
  · simp [h]
/-- the same byte, n times -/
def rep (k : Nat) : Nat → Nat
  | 0 => 0
  | n + 1 => 256 * rep k n + k
/-- the digits of base 256, each turned by f -/
def dig (f : Nat → Nat) : Nat → Nat → Nat
  | 0, _ => 0
  | n + 1, x => 256 * dig f n (x / 256) + f (x % 256)
def s1 (n x : Nat) : Nat := (x / 2 &&& rep 85 n) + (x &&& rep 85 n)
def s2 (n x : Nat) : Nat := (x / 4 &&& rep 51 n) + (x &&& rep 51 n)
def s3 (n x : Nat) : Nat := (x / 16 + x) &&& rep 15 n
def t1 (b : Nat) : Nat := (b / 2 &&& 85) + (b &&& 85)
def t2 (b : Nat) : Nat := (b / 4 &&& 51) + (b &&& 51)
def t3 (b : Nat) : Nat := (b / 16 + b) &&& 15
theorem low1 : ∀ (e : Fin 2) (b : Fin 256), (e.val * 128 + b.val / 2) &&& 85 = b.val / 2 &&& 85 := by decide +kernel
theorem low2 : ∀ (e : Fin 4) (b : Fin 256), (e.val * 64 + b.val / 4) &&& 51 = b.val / 4 &&& 51 := by decide +kernel
theorem low3 : ∀ (e : Fin 5) (b : Fin 256), b.val / 16 ≤ 4 → b.val % 16 ≤ 4 → (e.val * 16 + b.val / 16 + b.val) &&& 15 = (b.val / 16 + b.val) &&& 15 ∧ e.val * 16 + b.val / 16 + b.val < 256 := by decide +kernel
theorem s1_dig (n x : Nat) (h : x < 256 ^ n) : s1 n x = dig t1 n x := by
  induction n generalizing x with
  | zero => simp [s1, dig, rep]
  | succ n ih =>
    have hq : x / 256 < 256 ^ n := by rw [Nat.pow_succ] at h; omega
    have hx : x = 256 * (x / 256) + x % 256 := by omega
    have h2 : x / 2 = 256 * (x / 256 / 2) + (x / 256 % 2 * 128 + x % 256 / 2) := by omega
    unfold s1 dig rep
    have := ih (x / 256) hq
    have l := low1 ⟨x / 256 % 2, by omega⟩ ⟨x % 256, by omega⟩
    simp only [] at l
    unfold s1 at this
    rw [← this, h2]
    conv => lhs; arg 2; arg 1; rw [hx]
    rw [and_split _ _ _ _ (by omega) (by decide), and_split _ _ _ _ (by omega) (by decide), l]
    unfold t1
    omega
theorem s2_dig (n x : Nat) (h : x < 256 ^ n) : s2 n x = dig t2 n x := by
  induction n generalizing x with
  | zero => simp [s2, dig, rep]
  | succ n ih =>
    have hq : x / 256 < 256 ^ n := by rw [Nat.pow_succ] at h; omega
    have hx : x = 256 * (x / 256) + x % 256 := by omega
    have h2 : x / 4 = 256 * (x / 256 / 4) + (x / 256 % 4 * 64 + x % 256 / 4) := by omega
    unfold s2 dig rep
    have := ih (x / 256) hq
    have l := low2 ⟨x / 256 % 4, by omega⟩ ⟨x % 256, by omega⟩
    simp only [] at l
    unfold s2 at this
    rw [← this, h2]
    conv => lhs; arg 2; arg 1; rw [hx]
    rw [and_split _ _ _ _ (by omega) (by decide), and_split _ _ _ _ (by omega) (by decide), l]
    unfold t2
    omega
theorem dig_lt (f : Nat → Nat) (hf : ∀ b, b < 256 → f b < 256) (n x : Nat) : dig f n x < 256 ^ n := by
  induction n generalizing x with
  | zero => simp [dig]
  | succ n ih =>
    have := ih (x / 256)
    have := hf (x % 256) (by omega)
    rw [dig, Nat.pow_succ]
    omega
theorem dig_dig (f g : Nat → Nat) (hf : ∀ b, b < 256 → f b < 256) (n x : Nat) : dig g n (dig f n x) = dig (fun b => g (f b)) n x := by
  induction n generalizing x with
  | zero => rfl
  | succ n ih =>
    have := hf (x % 256) (by omega)
    rw [dig, dig, dig, show (256 * dig f n (x / 256) + f (x % 256)) / 256 = dig f n (x / 256) by omega, show (256 * dig f n (x / 256) + f (x % 256)) % 256 = f (x % 256) by omega, ih]
theorem s3_dig (f : Nat → Nat) (hf : ∀ b, b < 256 → f b < 256 ∧ f b / 16 ≤ 4 ∧ f b % 16 ≤ 4) (n x : Nat) : s3 n (dig f n x) = dig (fun b => t3 (f b)) n x := by
  induction n generalizing x with
  | zero => simp [s3, dig, rep]
  | succ n ih =>
    have hc := hf (x % 256) (by omega)
    have hnext : dig f n (x / 256) % 16 ≤ 4 := by
      cases n with
      | zero => simp [dig]
      | succ n =>
        have := hf (x / 256 % 256) (by omega)
        rw [dig]
        omega
    have h1 := ih (x / 256)
    unfold s3 at h1
    rw [dig, dig, ← h1]
    generalize dig f n (x / 256) = y at *
    generalize f (x % 256) = c at *
    have h2 : (256 * y + c) / 16 + (256 * y + c) = 256 * (y / 16 + y) + (y % 16 * 16 + c / 16 + c) := by omega
    have h3 := low3 ⟨y % 16, by omega⟩ ⟨c, hc.1⟩ hc.2.1 hc.2.2
    simp only [] at h3
    show ((256 * y + c) / 16 + (256 * y + c)) &&& (256 * rep 15 n + 15) = 256 * ((y / 16 + y) &&& rep 15 n) + t3 c
    rw [h2, and_split _ _ _ _ h3.2 (by decide), h3.1]
    rfl
theorem t1_ok : ∀ b : Fin 256, t1 b.val < 256 := by decide +kernel
theorem t2_ok : ∀ b : Fin 256, t2 (t1 b.val) < 256 ∧ t2 (t1 b.val) / 16 ≤ 4 ∧ t2 (t1 b.val) % 16 ≤ 4 := by decide +kernel
theorem t3_ok : ∀ b : Fin 256, t3 (t2 (t1 b.val)) = Go.Lib.popAux 8 b.val ∧ Go.Lib.popAux 8 b.val ≤ 8 := by decide +kernel
theorem dig_congr (f g : Nat → Nat) (h : ∀ b, b < 256 → f b = g b) (n x : Nat) : dig f n x = dig g n x := by
  induction n generalizing x with
  | zero => rfl
  | succ n ih => rw [dig, dig, ih, h _ (by omega)]
theorem swar (x : Nat) (h : x < 256 ^ 8) : s3 8 (s2 8 (s1 8 x)) = dig (Go.Lib.popAux 8) 8 x := by
  have e1 := s1_dig 8 x h
  have l1 := dig_lt t1 (fun b hb => t1_ok ⟨b, hb⟩) 8 x
  rw [e1, s2_dig 8 _ l1, dig_dig t1 t2 (fun b hb => t1_ok ⟨b, hb⟩), s3_dig (fun b => t2 (t1 b)) (fun b hb => t2_ok ⟨b, hb⟩)]
  exact dig_congr _ _ (fun b hb => (t3_ok ⟨b, hb⟩).1) 8 x
theorem pop_step (f x : Nat) : Go.Lib.popAux (f + 8) x = Go.Lib.popAux 8 (x % 256) + Go.Lib.popAux f (x / 256) := by
  simp only [Go.Lib.popAux]
  have e : x / 2 / 2 / 2 / 2 / 2 / 2 / 2 / 2 = x / 256 := by omega
  rw [e]
  generalize Go.Lib.popAux f (x / 256) = r
  omega
set_option linter.unusedVariables false in
theorem pop_bytes (x : Nat) (h : x < 256 ^ 8) : ∃ p0 p1 p2 p3 p4 p5 p6 p7 : Nat, p0 ≤ 8 ∧ p1 ≤ 8 ∧ p2 ≤ 8 ∧ p3 ≤ 8 ∧ p4 ≤ 8 ∧ p5 ≤ 8 ∧ p6 ≤ 8 ∧ p7 ≤ 8 ∧
    dig (Go.Lib.popAux 8) 8 x = 256 * (256 * (256 * (256 * (256 * (256 * (256 * p7 + p6) + p5) + p4) + p3) + p2) + p1) + p0 ∧ Go.Lib.onesCount x = p0 + p1 + p2 + p3 + p4 + p5 + p6 + p7 := by
  have hp : ∀ b, b < 256 → Go.Lib.popAux 8 b ≤ 8 := fun b hb => (t3_ok ⟨b, hb⟩).2
  refine ⟨Go.Lib.popAux 8 ((x) % 256), Go.Lib.popAux 8 ((x / 256) % 256), Go.Lib.popAux 8 ((x / 256 / 256) % 256), Go.Lib.popAux 8 ((x / 256 / 256 / 256) % 256), Go.Lib.popAux 8 ((x / 256 / 256 / 256 / 256) % 256), Go.Lib.popAux 8 ((x / 256 / 256 / 256 / 256 / 256) % 256), Go.Lib.popAux 8 ((x / 256 / 256 / 256 / 256 / 256 / 256) % 256), Go.Lib.popAux 8 ((x / 256 / 256 / 256 / 256 / 256 / 256 / 256) % 256), hp _ (Nat.mod_lt _ (by decide)), hp _ (Nat.mod_lt _ (by decide)), hp _ (Nat.mod_lt _ (by decide)), hp _ (Nat.mod_lt _ (by decide)), hp _ (Nat.mod_lt _ (by decide)), hp _ (Nat.mod_lt _ (by decide)), hp _ (Nat.mod_lt _ (by decide)), hp _ (Nat.mod_lt _ (by decide)), ?_, ?_⟩
  · simp only [dig, Nat.mul_zero, Nat.zero_add]
  · show Go.Lib.popAux 64 x = _
    have e0 : Go.Lib.popAux 64 (x) = Go.Lib.popAux 8 ((x) % 256) + Go.Lib.popAux 56 (x / 256) := pop_step 56 (x)
    have e1 : Go.Lib.popAux 56 (x / 256) = Go.Lib.popAux 8 ((x / 256) % 256) + Go.Lib.popAux 48 (x / 256 / 256) := pop_step 48 (x / 256)
    have e2 : Go.Lib.popAux 48 (x / 256 / 256) = Go.Lib.popAux 8 ((x / 256 / 256) % 256) + Go.Lib.popAux 40 (x / 256 / 256 / 256) := pop_step 40 (x / 256 / 256)
    have e3 : Go.Lib.popAux 40 (x / 256 / 256 / 256) = Go.Lib.popAux 8 ((x / 256 / 256 / 256) % 256) + Go.Lib.popAux 32 (x / 256 / 256 / 256 / 256) := pop_step 32 (x / 256 / 256 / 256)
    have e4 : Go.Lib.popAux 32 (x / 256 / 256 / 256 / 256) = Go.Lib.popAux 8 ((x / 256 / 256 / 256 / 256) % 256) + Go.Lib.popAux 24 (x / 256 / 256 / 256 / 256 / 256) := pop_step 24 (x / 256 / 256 / 256 / 256)
    have e5 : Go.Lib.popAux 24 (x / 256 / 256 / 256 / 256 / 256) = Go.Lib.popAux 8 ((x / 256 / 256 / 256 / 256 / 256) % 256) + Go.Lib.popAux 16 (x / 256 / 256 / 256 / 256 / 256 / 256) := pop_step 16 (x / 256 / 256 / 256 / 256 / 256)
    have e6 : Go.Lib.popAux 16 (x / 256 / 256 / 256 / 256 / 256 / 256) = Go.Lib.popAux 8 ((x / 256 / 256 / 256 / 256 / 256 / 256) % 256) + Go.Lib.popAux 8 (x / 256 / 256 / 256 / 256 / 256 / 256 / 256) := pop_step 8 (x / 256 / 256 / 256 / 256 / 256 / 256)
    have e7 : Go.Lib.popAux 8 (x / 256 / 256 / 256 / 256 / 256 / 256 / 256) = Go.Lib.popAux 8 ((x / 256 / 256 / 256 / 256 / 256 / 256 / 256) % 256) + Go.Lib.popAux 0 (x / 256 / 256 / 256 / 256 / 256 / 256 / 256 / 256) := pop_step 0 (x / 256 / 256 / 256 / 256 / 256 / 256 / 256)
    have z : Go.Lib.popAux 0 (x / 256 / 256 / 256 / 256 / 256 / 256 / 256 / 256) = 0 := rfl
    omega
/-- the last sums -/
theorem sums (p0 p1 p2 p3 p4 p5 p6 p7 y a b c : Nat) (h0 : p0 ≤ 8) (h1 : p1 ≤ 8) (h2 : p2 ≤ 8) (h3 : p3 ≤ 8) (h4 : p4 ≤ 8) (h5 : p5 ≤ 8) (h6 : p6 ≤ 8) (h7 : p7 ≤ 8)
    (hy : y = 256 * (256 * (256 * (256 * (256 * (256 * (256 * p7 + p6) + p5) + p4) + p3) + p2) + p1) + p0) (ha : a = y + y / 256) (hb : b = a + a / 65536) (hc : c = b + b / 4294967296) :
    a < 9223372036854775808 ∧ b < 9223372036854775808 ∧ c < 9223372036854775808 ∧ c % 128 = p0 + p1 + p2 + p3 + p4 + p5 + p6 + p7 := by
  have e1 : y / 256 = 256 * (256 * (256 * (256 * (256 * (256 * p7 + p6) + p5) + p4) + p3) + p2) + p1 := by omega
  have e2 : a / 65536 = 256 * (256 * (256 * (256 * (256 * p7 + (p6 + p7)) + (p5 + p6)) + (p4 + p5)) + (p3 + p4)) + (p2 + p3) := by omega
  have e3 : b = 256 * (256 * (256 * (256 * (256 * (256 * (256 * p7 + (p6 + p7)) + (p5 + p6 + p7)) + (p4 + p5 + p6 + p7)) + (p3 + p4 + p5 + p6)) + (p2 + p3 + p4 + p5)) + (p1 + p2 + p3 + p4)) + (p0 + p1 + p2 + p3) := by omega
  have e4 : b / 4294967296 = 256 * (256 * (256 * p7 + (p6 + p7)) + (p5 + p6 + p7)) + (p4 + p5 + p6 + p7) := by omega
  have hyl : y ≤ 578721382704613384 := by omega
  obtain ⟨B, hB⟩ : ∃ B, b = 256 * B + (p0 + p1 + p2 + p3) := ⟨_, e3⟩
  obtain ⟨C, hC⟩ : ∃ C, b / 4294967296 = 256 * C + (p4 + p5 + p6 + p7) := ⟨_, e4⟩
  clear e1 e2 e3 e4 hy
  have g1 : a < 9223372036854775808 := by omega
  have g2 : b < 9223372036854775808 := by clear hB hC; omega
  have g3 : c < 9223372036854775808 := by clear hB hC; omega
  clear ha hb hyl
  refine ⟨g1, g2, g3, ?_⟩
  rw [hC] at hc
  clear hC g1 g2 g3
  omega
end Go.Proofs.YtaaihcojedibeaaDoor.CPop
end
section
/- Sets: how many, the least one. -/
namespace Go.Proofs.YtaaihcojedibeaaDoor.CLen
set_option maxRecDepth 100000
open Go.RowKit CMem CBits CSet CMake CPop Go.Proofs.YtaaihcojedibeaaDoorW.PrintWords Go.Proofs.YtaaihcojedibeaaDoorW.PrintLast Go.Proofs.YtaaihcojedibeaaDoorW.PrintMore
set_option linter.unusedVariables false
set_option linter.unusedSimpArgs false

theorem ones_walk (x A B y1 C D y2 z2 y3 y4 y5 y6 r : Int) (w : World) (hA : bits BinOp.and IntKind.u64 (x / 2) 6148914691236517205 = A) (hB : bits BinOp.and IntKind.u64 x 6148914691236517205 = B) (h1 : IntKind.u64.wrap (A + B) = y1)
    (hC : bits BinOp.and IntKind.u64 (y1 / 4) 3689348814741910323 = C) (hD : bits BinOp.and IntKind.u64 y1 3689348814741910323 = D) (h2 : IntKind.u64.wrap (C + D) = y2) (h3 : IntKind.u64.wrap (y2 / 16 + y2) = z2)
    (hE : bits BinOp.and IntKind.u64 z2 1085102592571150095 = y3) (h4 : IntKind.u64.wrap (y3 + y3 / 256) = y4) (h5 : IntKind.u64.wrap (y4 + y4 / 65536) = y5) (h6 : IntKind.u64.wrap (y5 + y5 / 4294967296) = y6) (h7 : wrap64 y6 = y6) (h8 : IntKind.i64.wrap y6 = y6)
    (hF : bits BinOp.and IntKind.i64 y6 127 = r) :
    Calls Tryd.prog 53 #[.int .u64 x] w fun e w' => e = .returned (.int .i64 r) ∧ w' = w := by
  go_enter Tryd.func53, Tryd.ntmps53
  go_wp2
  go_ret
  exact ⟨rfl, rfl⟩
theorem ones_calls (x : Nat) (hx : x < 18446744073709551616) (w : World) : Calls Tryd.prog 53 #[.int .u64 x] w fun e w' => e = .returned (.int .i64 (Go.Lib.onesCount x : Nat)) ∧ w' = w := by
  have hx' : x < 256 ^ 8 := by rw [show (256 : Nat) ^ 8 = 18446744073709551616 by decide]; exact hx
  obtain ⟨p0, p1, p2, p3, p4, p5, p6, p7, b0, b1, b2, b3, b4, b5, b6, b7, hd, ho⟩ := pop_bytes x hx'
  rw [← swar x hx'] at hd
  have r1 : rep 85 8 = 6148914691236517205 := by decide
  have r2 : rep 51 8 = 3689348814741910323 := by decide
  have r3 : rep 15 8 = 1085102592571150095 := by decide
  have l1 : s1 8 x < 18446744073709551616 := by
    rw [s1_dig 8 x hx']
    exact dig_lt t1 (fun b hb => t1_ok ⟨b, hb⟩) 8 x
  have l2 : s2 8 (s1 8 x) < 18446744073709551616 ∧ s2 8 (s1 8 x) / 16 + s2 8 (s1 8 x) < 18446744073709551616 := by
    have hA : s2 8 (s1 8 x) ≤ 3689348814741910323 + 3689348814741910323 := by
      unfold s2
      rw [r2]
      exact Nat.add_le_add Nat.and_le_right Nat.and_le_right
    omega
  obtain ⟨s, t, u, v⟩ := sums p0 p1 p2 p3 p4 p5 p6 p7 _ _ _ _ b0 b1 b2 b3 b4 b5 b6 b7 hd rfl rfl rfl
  have w1 : ∀ q : Nat, q < 18446744073709551616 → IntKind.u64.wrap (q : Int) = q := fun q h => u64w (by omega) (by omega)
  rw [ho, ← v]
  have e1 : s1 8 x = (x / 2 &&& 6148914691236517205) + (x &&& 6148914691236517205) := by unfold s1; rw [r1]
  have e2 : s2 8 (s1 8 x) = (s1 8 x / 4 &&& 3689348814741910323) + (s1 8 x &&& 3689348814741910323) := by
    conv => lhs; unfold s2
    rw [r2]
  have e3 : s3 8 (s2 8 (s1 8 x)) = (s2 8 (s1 8 x) / 16 + s2 8 (s1 8 x)) &&& 1085102592571150095 := by
    conv => lhs; unfold s3
    rw [r3]
  clear v hd ho b0 b1 b2 b3 b4 b5 b6 b7
  generalize s3 8 (s2 8 (s1 8 x)) = y3 at *
  generalize s2 8 (s1 8 x) = y2 at *
  generalize s1 8 x = y1 at *
  refine ones_walk (x : Int) ((x / 2 &&& 6148914691236517205 : Nat) : Int) ((x &&& 6148914691236517205 : Nat) : Int) (y1 : Int) ((y1 / 4 &&& 3689348814741910323 : Nat) : Int) ((y1 &&& 3689348814741910323 : Nat) : Int) (y2 : Int) ((y2 / 16 + y2 : Nat) : Int) (y3 : Int)
    ((y3 + y3 / 256 : Nat) : Int) ((y3 + y3 / 256 + (y3 + y3 / 256) / 65536 : Nat) : Int) ((y3 + y3 / 256 + (y3 + y3 / 256) / 65536 + (y3 + y3 / 256 + (y3 + y3 / 256) / 65536) / 4294967296 : Nat) : Int) _ w
    (u64_and_nat (x / 2) 6148914691236517205 (by omega) (by decide)) (u64_and_nat x 6148914691236517205 hx (by decide)) ?_ (u64_and_nat (y1 / 4) 3689348814741910323 (by omega) (by decide)) (u64_and_nat y1 3689348814741910323 l1 (by decide)) ?_ ?_
    ((u64_and_nat (y2 / 16 + y2) 1085102592571150095 l2.2 (by decide)).trans (by rw [e3])) ?_ ?_ ?_ ?_ ?_ ?_
  · rw [e1] at l1 ⊢; exact w1 _ l1
  · have := l2.1; rw [e2] at this ⊢; exact w1 _ this
  · exact w1 _ l2.2
  · exact w1 (y3 + y3 / 256) (by omega)
  · exact w1 (y3 + y3 / 256 + (y3 + y3 / 256) / 65536) (by omega)
  · exact w1 (y3 + y3 / 256 + (y3 + y3 / 256) / 65536 + (y3 + y3 / 256 + (y3 + y3 / 256) / 65536) / 4294967296) (by omega)
  · unfold wrap64; omega
  · simp only [IntKind.wrap, IntKind.signed, IntKind.bits]; simp; omega
  · rw [i64_and127]; omega
theorem ones_le (x : Nat) : Go.Lib.onesCount x ≤ 64 := by
  unfold Go.Lib.onesCount
  rw [pop_cnt]
  unfold cnt
  exact Nat.le_trans List.countP_le_length (by simp)
theorem len_calls (N : Nat) (w : World) : Calls Tryd.prog 35 #[.agg (sc N)] w fun e w' => e = .returned (.int .i64 (cnt N 256 : Nat)) ∧ Below w.heap.size w w' := by
  have c0 := Lib.hid (ones_calls (wd N 0) (wd_lt N 0))
  have c1 := Lib.hid (ones_calls (wd N 1) (wd_lt N 1))
  have c2 := Lib.hid (ones_calls (wd N 2) (wd_lt N 2))
  have c3 := Lib.hid (ones_calls (wd N 3) (wd_lt N 3))
  have l0 := ones_le (wd N 0)
  have l1 := ones_le (wd N 1)
  have l2 := ones_le (wd N 2)
  have l3 := ones_le (wd N 3)
  have HC := cnt_words N
  have hs : cnt N 256 = cnt N 256 := rfl
  unfold sc
  generalize Go.Lib.onesCount (wd N 0) = p0 at *
  generalize Go.Lib.onesCount (wd N 1) = p1 at *
  generalize Go.Lib.onesCount (wd N 2) = p2 at *
  generalize Go.Lib.onesCount (wd N 3) = p3 at *
  rw [← HC]
  clear HC hs
  generalize wd N 0 = x0 at *
  generalize wd N 1 = x1 at *
  generalize wd N 2 = x2 at *
  generalize wd N 3 = x3 at *
  have BA := Lib.hid (heap_alloc_new w (.cells #[.int .u64 x0, .int .u64 x1, .int .u64 x2, .int .u64 x3] 35))
  have HB := Lib.hid (below1 w (.cells #[.int .u64 x0, .int .u64 x1, .int .u64 x2, .int .u64 x3] 35))
  have I0 : ∀ W, (Instr.index 33 (.agg #[.int .u64 x0, .int .u64 x1, .int .u64 x2, .int .u64 x3]) (.int .i64 0)).run Tryd.prog W = .ok (.int .u64 x0) W := fun W => by kernel_rfl
  have I1 : ∀ W, (Instr.index 33 (.agg #[.int .u64 x0, .int .u64 x1, .int .u64 x2, .int .u64 x3]) (.int .i64 1)).run Tryd.prog W = .ok (.int .u64 x1) W := fun W => by kernel_rfl
  have I2 : ∀ W, (Instr.index 33 (.agg #[.int .u64 x0, .int .u64 x1, .int .u64 x2, .int .u64 x3]) (.int .i64 2)).run Tryd.prog W = .ok (.int .u64 x2) W := fun W => by kernel_rfl
  have I3 : ∀ W, (Instr.index 33 (.agg #[.int .u64 x0, .int .u64 x1, .int .u64 x2, .int .u64 x3]) (.int .i64 3)).run Tryd.prog W = .ok (.int .u64 x3) W := fun W => by kernel_rfl
  go_enter Tryd.func35, Tryd.ntmps35
  go_wp2
  go_loopw [3, 5, 8] (fun q v t wr => ∃ k : Nat, k ≤ 4 ∧ t = .int .i64 (k : Nat) ∧ q = .int .i64 ((if 0 < k then p0 else 0) + (if 1 < k then p1 else 0) + (if 2 < k then p2 else 0) + (if 3 < k then p3 else 0) : Nat) ∧ Hid (Below w.heap.size w wr)) (fun _ _ t _ => 4 - (intOf t).toNat)
  case atStart => exact ⟨0, by omega, rfl, rfl, HB⟩
  case round =>
    obtain ⟨k, hk, rfl, rfl, HB1⟩ := hrel
    clear HB
    have hc : k = 0 ∨ k = 1 ∨ k = 2 ∨ k = 3 ∨ k = 4 := by omega
    rcases hc with rfl | rfl | rfl | rfl | rfl
    · simp only [Nat.lt_irrefl, if_false, Nat.reduceLT, if_true, Nat.add_zero, Nat.zero_add]
      rw [show ((0 : Nat) : Int) = 0 from rfl]
      go_wp2_with (go_at_call 53; (with_reducible refine (c0.out _).mono ?_); rintro e w6 ⟨rfl, rfl⟩)
      go_roundw
      case rel => exact ⟨1, by omega, by simp, by simp, HB1⟩
      case measure => simp [intOf]
    · simp only [Nat.lt_irrefl, if_false, Nat.reduceLT, if_true, Nat.add_zero, Nat.zero_add]
      rw [show ((1 : Nat) : Int) = 1 from rfl]
      go_wp2_with (go_at_call 53; (with_reducible refine (c1.out _).mono ?_); rintro e w6 ⟨rfl, rfl⟩)
      go_roundw
      case rel => exact ⟨2, by omega, by simp, by simp, HB1⟩
      case measure => simp [intOf]
    · simp only [Nat.lt_irrefl, if_false, Nat.reduceLT, if_true, Nat.add_zero, Nat.zero_add]
      rw [show ((2 : Nat) : Int) = 2 from rfl]
      go_wp2_with (go_at_call 53; (with_reducible refine (c2.out _).mono ?_); rintro e w6 ⟨rfl, rfl⟩)
      go_roundw
      case rel => exact ⟨3, by omega, by simp, by simp, HB1⟩
      case measure => simp [intOf]
    · simp only [Nat.lt_irrefl, if_false, Nat.reduceLT, if_true, Nat.add_zero, Nat.zero_add]
      rw [show ((3 : Nat) : Int) = 3 from rfl]
      go_wp2_with (go_at_call 53; (with_reducible refine (c3.out _).mono ?_); rintro e w6 ⟨rfl, rfl⟩)
      go_roundw
      case rel => exact ⟨4, by omega, by simp, by simp, HB1⟩
      case measure => simp [intOf]
    · simp only [Nat.reduceLT, if_true]
      go_wp2
      go_ret
      exact ⟨rfl, HB1.out⟩
end Go.Proofs.YtaaihcojedibeaaDoor.CLen
end
section
/- How trees are shown: the text, plain. -/
namespace Go.Proofs.YtaaihcojedibeaaDoor.SSpec
open Go.RowKit CMem CBits CSet CRng CRuns DRow SText Q
set_option linter.unusedVariables false
set_option linter.unusedSimpArgs false
set_option maxRecDepth 100000
def num (n : Int) : ByteArray := ⟨(Lib.itoa n).toArray⟩
theorem num_size {n : Int} (h0 : -9223372036854775808 ≤ n) (h1 : n ≤ 9223372036854775807) : (num n).size ≤ 21 := by
  show (Lib.itoa n).toArray.size ≤ 21
  rw [List.size_toArray]
  exact Go.Lib.itoa_length_le n h0 h1
theorem txt_size (c : Nat) : (txt c).size ≤ 4 := by
  unfold txt
  split
  · exact Nat.le_of_lt_succ (by decide : 1 < 5)
  · rw [ByteArray.size_append, ByteArray.size_append]; exact Nat.le_refl 4
/-- what of a set's runs is shown -/
def sst (o : ByteArray) (p : Nat × Nat) : ByteArray := if p.1 < p.2 then o ++ txt p.1 ++ (⟨#[45]⟩ ++ txt p.2) else o ++ txt p.1
def rngs (L : List (Nat × Nat)) (o : ByteArray) : ByteArray := L.foldl sst o
theorem rngs_snoc (L : List (Nat × Nat)) (o : ByteArray) (k : Nat) (p : Nat × Nat) (h : L[k]? = some p) : rngs (L.take (k + 1)) o = sst (rngs (L.take k) o) p := by
  unfold rngs
  rw [List.take_add_one, h, List.foldl_append]
  rfl
theorem sst_size (o : ByteArray) (p : Nat × Nat) : (sst o p).size ≤ o.size + 9 := by
  have h1 := txt_size p.1
  have h2 := txt_size p.2
  unfold sst
  split
  · rw [ByteArray.size_append, ByteArray.size_append, ByteArray.size_append]
    show _ + _ + (1 + _) ≤ _
    omega
  · rw [ByteArray.size_append]; omega
theorem rngs_size : ∀ (L : List (Nat × Nat)) (o : ByteArray), (rngs L o).size ≤ o.size + 9 * L.length
  | [], o => Nat.le_refl _
  | p :: r, o => by
    have h1 := rngs_size r (sst o p)
    have h2 := sst_size o p
    show (rngs r (sst o p)).size ≤ _
    rw [List.length_cons]
    omega
theorem rst_rng (N : Nat) : ∀ k, k ≤ 256 → ∀ p ∈ (rst N k).1, p.1 < 256 ∧ p.2 < 256
  | 0, _, p, h => by simp [rst] at h
  | k + 1, hk, p, h => by
    have ih := rst_rng N k (by omega)
    have ho := rst_ok N k
    rw [rst] at h
    split at h
    · exact ih p h
    · split at h
      · exact ih p h
      · simp only [List.mem_append, List.mem_singleton] at h
        rcases h with h | h
        · exact ih p h
        · subst h
          exact ⟨by show (rst N k).2.toNat < 256; omega, by show k - 1 < 256; omega⟩
theorem runs_rng (N : Nat) : ∀ p ∈ runs N, p.1 < 256 ∧ p.2 < 256 := by
  intro p h
  have ho := rst_ok N 256
  unfold runs at h
  split at h
  · exact rst_rng N 256 (Nat.le_refl _) p h
  · simp only [List.mem_append, List.mem_singleton] at h
    rcases h with h | h
    · exact rst_rng N 256 (Nat.le_refl _) p h
    · subst h
      exact ⟨by show (rst N 256).2.toNat < 256; omega, by show 255 < 256; omega⟩
theorem runs_len (N : Nat) : (runs N).length ≤ 257 := by
  have ho := rst_ok N 256
  unfold runs
  split
  · omega
  · rw [List.length_append]; simp; omega
def setB (N : Nat) : ByteArray := if (runs N).length = 0 then ⟨#[91, 94, 92, 120, 48, 48, 45, 92, 120, 102, 102, 93]⟩ else if cnt N 256 = 1 then txt ((runs N).getD 0 (0, 0)).1 else rngs (runs N) ⟨#[91]⟩ ++ ⟨#[93]⟩
theorem setB_size (N : Nat) : (setB N).size ≤ 2400 := by
  unfold setB
  split
  · exact Nat.le_of_lt_succ (by decide : 12 < 2401)
  · split
    · have := txt_size ((runs N).getD 0 (0, 0)).1; omega
    · rw [ByteArray.size_append]
      have h1 := rngs_size (runs N) ⟨#[91]⟩
      have h2 := runs_len N
      have e1 : (⟨#[91]⟩ : ByteArray).size = 1 := rfl
      have e2 : (⟨#[93]⟩ : ByteArray).size = 1 := rfl
      omega
/-- the set's number -/
def nw (s : S35) : Nat := s.f0.f0.toNat + 2 ^ 64 * (s.f0.f1.toNat + 2 ^ 64 * (s.f0.f2.toNat + 2 ^ 64 * s.f0.f3.toNat))
def in64 (x : Int) : Prop := 0 ≤ x ∧ x < 18446744073709551616
/-- a node's numbers are those of a program -/
def OkN (x : S37) : Prop := in64 x.f3.f0.f0 ∧ in64 x.f3.f0.f1 ∧ in64 x.f3.f0.f2 ∧ in64 x.f3.f0.f3 ∧ (-9223372036854775808 ≤ x.f7 ∧ x.f7 ≤ 9223372036854775807)
theorem sc_nw (s : S35) (h : in64 s.f0.f0 ∧ in64 s.f0.f1 ∧ in64 s.f0.f2 ∧ in64 s.f0.f3) : sc (nw s) = #[.int .u64 s.f0.f0, .int .u64 s.f0.f1, .int .u64 s.f0.f2, .int .u64 s.f0.f3] := by
  obtain ⟨⟨a, b, c, d⟩⟩ := s
  simp only [in64] at h
  obtain ⟨⟨a0, a1⟩, ⟨b0, b1⟩, ⟨c0, c1⟩, d0, d1⟩ := h
  obtain ⟨a, rfl⟩ := Int.eq_ofNat_of_zero_le a0
  obtain ⟨b, rfl⟩ := Int.eq_ofNat_of_zero_le b0
  obtain ⟨c, rfl⟩ := Int.eq_ofNat_of_zero_le c0
  obtain ⟨d, rfl⟩ := Int.eq_ofNat_of_zero_le d0
  have e : nw ⟨⟨(a : Int), b, c, d⟩⟩ = a + 2 ^ 64 * (b + 2 ^ 64 * (c + 2 ^ 64 * d)) := by simp [nw]
  have w0 : wd (a + 2 ^ 64 * (b + 2 ^ 64 * (c + 2 ^ 64 * d))) 0 = a := by unfold wd; omega
  have w1 : wd (a + 2 ^ 64 * (b + 2 ^ 64 * (c + 2 ^ 64 * d))) 1 = b := by unfold wd; omega
  have w2 : wd (a + 2 ^ 64 * (b + 2 ^ 64 * (c + 2 ^ 64 * d))) 2 = c := by unfold wd; omega
  have w3 : wd (a + 2 ^ 64 * (b + 2 ^ 64 * (c + 2 ^ 64 * d))) 3 = d := by unfold wd; omega
  rw [e]
  unfold sc
  rw [w0, w1, w2, w3]
def mode (o : Int) : ByteArray := if o = 0 then ⟨#[]⟩ else if o = 1 then ⟨#[63]⟩ else ⟨#[43]⟩
def often (mi ma o : Int) : ByteArray :=
  if mi = 0 ∧ ma = -1 then ⟨#[42]⟩ ++ mode o else if mi = 1 ∧ ma = -1 then ⟨#[43]⟩ ++ mode o else if mi = 0 ∧ ma = 1 then ⟨#[63]⟩ ++ mode o
  else if mi = ma then ⟨#[123]⟩ ++ num mi ++ ⟨#[125]⟩ ++ mode o else if ma = -1 then ⟨#[123]⟩ ++ num mi ++ ⟨#[44, 125]⟩ ++ mode o
  else ⟨#[123]⟩ ++ num mi ++ ⟨#[44]⟩ ++ num ma ++ ⟨#[125]⟩ ++ mode o
def back (n : Int) (fo : Bool) : ByteArray := if fo = true then ⟨#[40, 63, 105, 58]⟩ ++ (⟨#[92]⟩ ++ num n) ++ ⟨#[41]⟩ else ⟨#[92]⟩ ++ num n
/-- a node's pattern, in parentheses, if it is of one of some kinds -/
def wi (L : List S37) (g : Int → ByteArray) (i : Int) (ks : List Int) : ByteArray := if (rd_T37 L i).f0 ∈ ks then ⟨#[40, 63, 58]⟩ ++ g i ++ ⟨#[41]⟩ else g i
/-- how a kind is shown: what is ahead -/
def head (k : Int) : ByteArray :=
  if k = 0 then ⟨#[40, 63, 58, 41]⟩ else if k = 2 then ⟨#[94]⟩ else if k = 3 then ⟨#[36]⟩ else if k = 4 then ⟨#[40, 63, 109, 58, 94, 41]⟩ else if k = 5 then ⟨#[40, 63, 109, 58, 36, 41]⟩
  else if k = 6 then ⟨#[92, 98]⟩ else if k = 7 then ⟨#[92, 66]⟩ else if k = 11 then ⟨#[40]⟩ else if k = 13 then ⟨#[40, 63, 61]⟩ else if k = 14 then ⟨#[40, 63, 33]⟩ else if k = 15 then ⟨#[40, 63, 60, 61]⟩
  else if k = 16 then ⟨#[40, 63, 60, 33]⟩ else if k = 17 then ⟨#[40, 63, 62]⟩ else ⟨#[]⟩
/-- and what follows -/
def body (L : List S37) (g : Int → ByteArray) (x : S37) : ByteArray :=
  if x.f0 = 1 then setB (nw x.f3) else if x.f0 = 12 then back x.f7 x.f8
  else if x.f0 = 8 then wi L g x.f1 [9] ++ wi L g x.f2 [8, 9] else if x.f0 = 9 then g x.f1 ++ ⟨#[124]⟩ ++ wi L g x.f2 [9]
  else if x.f0 = 10 then wi L g x.f1 [8, 9, 10] ++ often x.f4 x.f5 x.f6
  else if x.f0 = 11 ∨ 13 ≤ x.f0 then g x.f1 ++ ⟨#[41]⟩ else ⟨#[]⟩
def shwf (L : List S37) : Nat → Int → ByteArray
  | 0, _ => ⟨#[]⟩
  | f + 1, i => head (rd_T37 L i).f0 ++ body L (shwf L f) (rd_T37 L i)
end Go.Proofs.YtaaihcojedibeaaDoor.SSpec
end
section
/- Of: the set of a text's bytes. -/
namespace Go.Proofs.YtaaihcojedibeaaDoor.COf
set_option maxRecDepth 100000
open Go.RowKit CMem CBits CSet CMake Go.Proofs.YtaaihcojedibeaaDoorW.PrintWords Go.Proofs.YtaaihcojedibeaaDoorW.PrintLast Go.Proofs.YtaaihcojedibeaaDoorW.PrintMore
set_option linter.unusedVariables false
set_option linter.unusedSimpArgs false

/-- the byte at k -/
def bat (t : ByteArray) (k : Nat) : Nat := (t.data.toList.getD k 0).toNat
theorem bat_lt (t : ByteArray) (k : Nat) : bat t k < 256 := (t.data.toList.getD k 0).toNat_lt
/-- the set of the first k bytes -/
def tx (t : ByteArray) : Nat → Nat
  | 0 => 0
  | k + 1 => tx t k ||| 2 ^ bat t k
theorem tb_tx (t : ByteArray) (k i : Nat) : (tx t k).testBit i = true ↔ ∃ j, j < k ∧ bat t j = i := by
  induction k with
  | zero => simp [tx]
  | succ k ih =>
    rw [tx, Nat.testBit_or, Bool.or_eq_true, ih, Nat.testBit_two_pow, decide_eq_true_eq]
    constructor
    · rintro (⟨j, h1, h2⟩ | h)
      · exact ⟨j, by omega, h2⟩
      · exact ⟨k, by omega, h⟩
    · rintro ⟨j, h1, h2⟩
      by_cases h : j = k
      · exact .inr (h ▸ h2)
      · exact .inl ⟨j, by omega, h2⟩
set_option maxHeartbeats 1600000 in
theorem of_calls (t : ByteArray) (ht : t.size ≤ 140737488351232) (w : World) :
    Calls Tryd.prog 18 #[.string t] w fun e w' => e = .returned (.agg (sc (tx t t.size))) ∧ Below w.heap.size w w' := by
  have BR := blk_alloc (heap_alloc_new w (.cells #[.int .u64 0, .int .u64 0, .int .u64 0, .int .u64 0] 35)) (.cells #[.int .u64 0, .int .u64 0, .int .u64 0, .int .u64 0] 35)
  have BS : ((w.alloc (.cells #[.int .u64 0, .int .u64 0, .int .u64 0, .int .u64 0] 35)).alloc (.cells #[.int .u64 0, .int .u64 0, .int .u64 0, .int .u64 0] 35)).heap[w.heap.size + 1]? = some (.cells (sc 0) 35 (0, 0)) := by rw [sc_zero]; exact blk2 w _ _ _
  have HB := below2 w (.cells #[.int .u64 0, .int .u64 0, .int .u64 0, .int .u64 0] 35) (.cells #[.int .u64 0, .int .u64 0, .int .u64 0, .int .u64 0] 35)
  have HZ : ((w.alloc (.cells #[.int .u64 0, .int .u64 0, .int .u64 0, .int .u64 0] 35)).alloc (.cells #[.int .u64 0, .int .u64 0, .int .u64 0, .int .u64 0] 35)).heap.size = w.heap.size + 2 := by simp
  have BR := Lib.hid BR
  have BS := Lib.hid BS
  have HB := Lib.hid HB
  have HZ := Lib.hid HZ
  have kb := fun W => print_bytes (P := Tryd.prog) 9 65 5 Tryd.underlying9 Tryd.underlying65 Tryd.underlying5 t W
  go_enter Tryd.func18, Tryd.ntmps18
  go_wp2
  generalize ((w.alloc (.cells #[.int .u64 0, .int .u64 0, .int .u64 0, .int .u64 0] 35)).alloc (.cells #[.int .u64 0, .int .u64 0, .int .u64 0, .int .u64 0] 35)) = w2 at *
  have hz := HZ.out
  have HC := Lib.hid (fun i hi => Lib.bytesWorld_cell w2 5 t i hi)
  have BR := Lib.hid ((Lib.bytesWorld_at_old w2 5 t w.heap.size (by omega)).trans BR.out)
  have BS := Lib.hid ((Lib.bytesWorld_at_old w2 5 t (w.heap.size + 1) (by omega)).trans BS.out)
  have HB := Lib.hid (bytes_below HB.out HB.out.size 5 t)
  generalize (Lib.bytesWorld w2 5 t) = w3 at *
  rw [hz] at HC
  clear HZ kb
  go_loopw [9] (fun x wr => ∃ k : Nat, k ≤ t.size ∧ x = .int .i64 (k : Nat) ∧ Hid (wr.heap[w.heap.size]? = some (.cells #[.int .u64 0, .int .u64 0, .int .u64 0, .int .u64 0] 35 (0, 0))) ∧ Hid (wr.heap[w.heap.size + 1]? = some (.cells (sc (tx t k)) 35 (0, 0))) ∧ Hid (∀ i, i < t.size → wr.cell? ⟨w.heap.size + 2, i, none⟩ = some (.int .u8 (bat t i : Nat))) ∧ Hid (Below w.heap.size w wr)) (fun x _ => t.size - (intOf x).toNat)
  case atStart => exact ⟨0, by omega, rfl, BR, BS, HC, HB⟩
  case round =>
    obtain ⟨k, hk, rfl, BR1, BS1, HC1, HB1⟩ := hrel
    clear BR BS HC HB
    by_cases h : k < t.size
    · have hlt : (k : Int) < (t.size : Int) := by omega
      have hc := HC1.out k h
      have hb := bat_lt t k
      have HA := Lib.hid (add_calls (tx t k) (bat t k) (w.heap.size + 1) hb)
      have HT := Lib.hid (show tx t (k + 1) = tx t k ||| 2 ^ bat t k from rfl)
      generalize bat t k = c at HA HT hc
      clear hb
      go_wp2_with fail
      refine (HA.out _ BS1.out).mono ?_
      rintro e w4 ⟨rfl, hq, ho⟩
      have HR := Lib.hid (ho.blk BR1.out (by omega))
      have HB2 := Lib.hid (Only.below HB1.out ho (by omega) HB1.out.size)
      have HQ := Lib.hid hq
      have HC2 := Lib.hid (show ∀ i, i < t.size → w4.cell? ⟨w.heap.size + 2, i, none⟩ = some (.int .u8 (bat t i : Nat)) from fun i hi => (World.cell?_of_block (ho.block (w.heap.size + 2) (World.block_lt_of_cell? _ _ (HC1.out i hi)) (by omega))).trans (HC1.out i hi))
      clear hq ho hc
      go_wp2
      go_roundw
      case rel => exact ⟨k + 1, by omega, by simp, HR, by rw [HT.out]; exact HQ, HC2, HB2⟩
      case measure => simp [intOf]; omega
    · obtain rfl : k = t.size := by omega
      have hq := BS1.out
      have HE := Lib.hid (show sc (tx t t.size) = #[.int .u64 (wd (tx t t.size) 0 : Nat), .int .u64 (wd (tx t t.size) 1 : Nat), .int .u64 (wd (tx t t.size) 2 : Nat), .int .u64 (wd (tx t t.size) 3 : Nat)] from rfl)
      unfold sc at hq
      generalize wd (tx t t.size) 0 = x0 at *
      generalize wd (tx t t.size) 1 = x1 at *
      generalize wd (tx t t.size) 2 = x2 at *
      generalize wd (tx t t.size) 3 = x3 at *
      have y0 := blk_cell hq 0 (.int .u64 x0) rfl
      have y1 := blk_cell hq 1 (.int .u64 x1) rfl
      have y2 := blk_cell hq 2 (.int .u64 x2) rfl
      have y3 := blk_cell hq 3 (.int .u64 x3) rfl
      obtain ⟨z0, z1, z2, z3, f0, f1, f2, f3, zz⟩ := set_four BR1.out (.int .u64 x0) (.int .u64 x1) (.int .u64 x2) (.int .u64 x3)
      have ZZ := Lib.hid zz
      clear zz hq BS1
      go_wp2
      refine bodyPost_ret (results_cell_row rfl _ _ w.heap.size 35 #[.int .u64 x0, .int .u64 x1, .int .u64 x2, .int .u64 x3] (0, 0) _ rfl ZZ.out Tryd.underlying35 rfl (by kernel_rfl)) rfl ?_
      exact ⟨by rw [HE.out], below_four HB1.out (Nat.le_refl _) _ _ _ _⟩
end Go.Proofs.YtaaihcojedibeaaDoor.COf
end
section
/- Trees and nodes that came in. -/
namespace Go.Proofs.YtaaihcojedibeaaDoor.DArgS
open Go.RowKit Go.ChangeShapes Go.WideShapes Go.Deep DSizes SSpec Q Go.Proofs.YtaaihcojedibeaaDoorW.PrintWords
set_option linter.unusedVariables false
set_option maxRecDepth 100000
variable {H : Type} {enc : TypeId × Value → H} {w : World} {base : Nat} {spare : Nat → Bool} {held : Bool}
theorem one_of {cs : List Value} {i : Nat} {v : Value} (h : (cs.drop i).take 1 = [v]) : cs[i]? = some v := by
  have := congrArg (·[0]?) h
  simpa [List.getElem?_take, List.getElem?_drop] using this
theorem arr_ints {P : Program} {k : IntKind} {n fuel : Nat} {t e : TypeId} {cs : List Value} {x : DataW H × List MemPlace} (ht : P.underlying t = some (.array n e)) (he : P.underlying e = some (.int k)) (hc : P.cellsOf e = 1)
    (h : DataW.trod enc P w base spare held fuel t cs = some x) : ∃ L : Nat → Int, ∀ i, i < n → cs[i]? = some (.int k (L i)) ∧ (Lit.int k (L i)).wf = true := by
  obtain ⟨xs, m, _, _, _, hxl, hel⟩ := DataW.trod_array ht h
  have each : ∀ i, i < n → ∃ f : Int, cs[i]? = some (.int k f) ∧ (Lit.int k f).wf = true := by
    intro i hi
    have g := hel i hi
    rw [hc, Nat.mul_one, List.getElem?_eq_getElem (by omega)] at g
    obtain ⟨f, q, _, wf⟩ := DataW.trod_int he g
    exact ⟨f, one_of q, wf⟩
  exact choose_lt (α := Int) each
theorem node_cells {fuel : Nat} {cs : List Value} {x : DataW H × List MemPlace} (hl : cs.length = 12) (h : DataW.trod enc Tryd.prog w base spare held fuel 37 cs = some x) : ∃ z : S37, cs = (nc z).toList ∧ OkN z := by
  have ci : Tryd.prog.cellsOf 3 = 1 := by kernel_rfl
  have cb : Tryd.prog.cellsOf 4 = 1 := by kernel_rfl
  have cS : Tryd.prog.cellsOf 35 = 4 := by kernel_rfl
  have cA : Tryd.prog.cellsOf 33 = 4 := by kernel_rfl
  obtain ⟨xs, k, hk, hxy, _, hxl, hff⟩ := DataW.trod_struct Tryd.underlying37 h
  match xs, hxl, cs, hl with
  | [y0, y1, y2, y3, y4, y5, y6, y7, y8], _, [v0, v1, v2, v3, v4, v5, v6, v7, v8, v9, v10, v11], _ =>
    have g0 := hff 0 _ rfl
    have g1 := hff 1 _ rfl
    have g2 := hff 2 _ rfl
    have g3 := hff 3 _ rfl
    have g4 := hff 4 _ rfl
    have g5 := hff 5 _ rfl
    have g6 := hff 6 _ rfl
    have g7 := hff 7 _ rfl
    have g8 := hff 8 _ rfl
    simp [ci, cb, cS] at g0 g1 g2 g3 g4 g5 g6 g7 g8
    obtain ⟨n0, q0, _, _⟩ := DataW.trod_int Tryd.underlying3 g0
    obtain ⟨n1, q1, _, _⟩ := DataW.trod_int Tryd.underlying3 g1
    obtain ⟨n2, q2, _, _⟩ := DataW.trod_int Tryd.underlying3 g2
    obtain ⟨n4, q4, _, _⟩ := DataW.trod_int Tryd.underlying3 g4
    obtain ⟨n5, q5, _, _⟩ := DataW.trod_int Tryd.underlying3 g5
    obtain ⟨n6, q6, _, _⟩ := DataW.trod_int Tryd.underlying3 g6
    obtain ⟨n7, q7, _, v7⟩ := DataW.trod_int Tryd.underlying3 g7
    obtain ⟨n8, q8, _⟩ := DataW.trod_bool Tryd.underlying4 g8
    obtain ⟨zs, k2, _, _, _, hzl, hzf⟩ := DataW.trod_struct Tryd.underlying35 g3
    match zs, hzl with
    | [u0], _ =>
      have r0 := hzf 0 _ rfl
      simp [cA] at r0
      obtain ⟨L, hL⟩ := arr_ints Tryd.underlying33 Tryd.underlying32 (by kernel_rfl) r0
      have l0 := (hL 0 (by omega)).1
      have u64r : ∀ i, i < 4 → in64 (L i) := fun i hi => by
        have h := (hL i hi).2
        have m1 : IntKind.u64.min = 0 := rfl
        have m2 : IntKind.u64.max = 18446744073709551615 := rfl
        simp [Lit.wf, m1, m2] at h
        unfold in64
        omega
      have i64r : -9223372036854775808 ≤ n7 ∧ n7 ≤ 9223372036854775807 := by
        have m1 : IntKind.i64.min = -9223372036854775808 := rfl
        have m2 : IntKind.i64.max = 9223372036854775807 := rfl
        simp [Lit.wf, m1, m2] at v7
        exact v7
      have l1 := (hL 1 (by omega)).1
      have l2 := (hL 2 (by omega)).1
      have l3 := (hL 3 (by omega)).1
      simp at l0 l1 l2 l3 q0 q1 q2 q4 q5 q6 q7 q8
      subst l0 l1 l2 l3 q0 q1 q2 q4 q5 q6 q7 q8
      exact ⟨⟨n0, n1, n2, ⟨⟨L 0, L 1, L 2, L 3⟩⟩, n4, n5, n6, n7, n8⟩, rfl, u64r 0 (by omega), u64r 1 (by omega), u64r 2 (by omega), u64r 3 (by omega), i64r⟩
/-- a tree that came in: address, nodes, room -/
structure TreeArg where
  A : Option Addr
  n : Nat
  c : Nat
  L : List S37
def TreeIn (W : World) (z : TreeArg) : Prop := z.L.length = z.n ∧ z.n ≤ z.c ∧ z.c ≤ 9223372036854775807 ∧ Kd.C k37 W z.A z.n z.L ∧ ∀ x ∈ z.L, OkN x
theorem open_nodes {a : Option Addr} {len cap : Nat} {fuel : Nat} {x : DataW H × List MemPlace} (h : DataW.trod enc Tryd.prog w base spare held fuel 22 [.slice a len cap] = some x) : ∃ L : List S37, L.length = len ∧ len ≤ cap ∧ cap ≤ 9223372036854775807 ∧ Kd.C k37 w a len L ∧ ∀ x ∈ L, OkN x := by
  have ce : Tryd.prog.cellsOf 37 = 12 := by kernel_rfl
  rcases open_slice Tryd.underlying22 h with ⟨hcs, _⟩ | ⟨x, l, c, m, n, D, Pl, hcs, _, hlc, hcm, hmm, _, hx⟩
  · simp at hcs
    obtain ⟨rfl, rfl, rfl⟩ := hcs
    exact ⟨[], rfl, by decide, by decide, ⟨rfl, by decide, fun h => absurd h (Nat.lt_irrefl _)⟩, fun x hx => by simp at hx⟩
  · simp at hcs
    obtain ⟨rfl, rfl, rfl⟩ := hcs
    have hlm : len ≤ m := by rw [hmm]; split <;> omega
    have each : ∀ i, i < len → ∃ f : S37, (∀ j u, (nc f).toList[j]? = some u → w.cell? (x.add (i * 12 + j)) = some u) ∧ OkN f := by
      intro i hi
      obtain ⟨cs', h1, h2⟩ := hx i (by omega)
      rw [ce] at h1
      obtain ⟨_, hlen, hcell⟩ := World.cells?_some h1
      obtain ⟨f, rfl, hok⟩ := node_cells hlen h2
      refine ⟨f, fun j u hj => ?_, hok⟩
      have hj2 : j < 12 := by
        rcases Nat.lt_or_ge j 12 with h | h
        · exact h
        · rw [List.getElem?_eq_none (by exact h)] at hj; cases hj
      have := hcell j hj2
      rw [Deep.add_add] at this
      rw [this, hj]
    haveI : Inhabited S37 := ⟨z37⟩
    obtain ⟨F, hF⟩ := choose_lt (α := S37) each
    have hcm2 : cap ≤ 9223372036854775807 := by first | exact hcm | (unfold maxLen at hcm; omega)
    refine ⟨(List.range len).map F, by simp, hlc, hcm2, ⟨by simp, by omega, fun _ => ⟨x, rfl, fun j p hj => ?_⟩⟩, fun y hy => ?_⟩
    rotate_left
    · obtain ⟨i, hi, rfl⟩ := List.mem_map.1 hy
      exact (hF i (List.mem_range.1 hi)).2
    rw [List.getElem?_map, Option.map_eq_some_iff] at hj
    obtain ⟨i, hi, rfl⟩ := hj
    have hqi := List.getElem?_eq_some_iff.1 hi
    obtain ⟨hlt, hqe⟩ := hqi
    have hlt : j < len := by simpa using hlt
    obtain rfl : j = i := by simpa using hqe
    exact ⟨(nc (F j)).toList, rfl, k37_mk w (F j), fun k u hu => (hF j hlt).1 k u hu⟩
theorem open_tree {r : Reach} {b0 : Nat} {v : Value} {d : DataW H} {p : List MemPlace} (hv : Value.okWide Tryd.prog w r b0 24 v) (h : DataW.Trod enc Tryd.prog w base spare held 24 v d p) :
    ∃ z : TreeArg, v = .agg #[.slice z.A z.n z.c] ∧ TreeIn w z := by
  have ha : ∃ cs, v = .agg cs ∧ cs.size = 1 := by
    simp only [Value.okWide, Tryd.underlying24] at hv
    obtain ⟨cs, h1, h2, _⟩ := hv
    exact ⟨cs, h1, by rw [h2]; kernel_rfl⟩
  obtain ⟨cs, rfl, hs⟩ := ha
  obtain ⟨fuel, hf⟩ := h
  obtain ⟨xs, m, _, _, _, hxl, hff⟩ := DataW.trod_struct Tryd.underlying24 hf
  obtain ⟨l, rfl⟩ : ∃ l : List Value, cs = l.toArray := ⟨cs.toList, by simp⟩
  have hl : l.length = 1 := by simpa using hs
  have cS : Tryd.prog.cellsOf 22 = 1 := by kernel_rfl
  match l, hl, xs, hxl with
  | [v0], _, [x0], _ =>
    have g0 := hff 0 _ rfl
    simp [Value.cells, cS] at g0
    have hsl : ∃ a n c, v0 = .slice a n c := by
      rcases open_slice Tryd.underlying22 g0 with ⟨hcs, _⟩ | ⟨x, l, c, m, n, D, Pl, hcs, _⟩
      · simp at hcs; exact ⟨_, _, _, hcs⟩
      · simp at hcs; exact ⟨_, _, _, hcs⟩
    obtain ⟨a, len, cap, rfl⟩ := hsl
    obtain ⟨L, h1, h2, h3, h4, h5⟩ := open_nodes g0
    exact ⟨⟨a, len, cap, L⟩, rfl, h1, h2, h3, h4, h5⟩
end Go.Proofs.YtaaihcojedibeaaDoor.DArgS
end
