import Derived.ProofKit
import Derived.Lib.BitFns
import Derived.Test.YtaaihcojedibeaaGreatDoorZ0
import Derived.Laws.BitsAllLaws
import Derived.Laws.Bits128
import Derived.Lib.TrailingZeros
import Derived.Lib.ItoaLen
import Derived.Laws.Rows
import Derived.Laws.Tables
import Derived.Test.YtaaihcojedibeaaGreatDoorZ4
import Derived.Deep.Slices
import Derived.ChangeSame
import Derived.OpenShut
section
/- Sets of bytes as numbers: plain. -/
namespace Go.Proofs.YtaaihcojedibeaaGreatDoor.CBits
set_option maxRecDepth 100000
def wd (N j : Nat) : Nat := N / 2 ^ (64 * j) % 2 ^ 64
theorem tb_wd (N j i : Nat) : (wd N j).testBit i = (decide (i < 64) && N.testBit (64 * j + i)) := by
  unfold wd
  rw [Nat.testBit_mod_two_pow, Nat.testBit_div_two_pow, Nat.add_comm]
theorem wd_lt (N j : Nat) : wd N j < 2 ^ 64 := Nat.mod_lt _ (by decide)
theorem ext_wd {N M : Nat} (hN : N < 2 ^ 256) (hM : M < 2 ^ 256) (h : ∀ j, j < 4 → wd N j = wd M j) : N = M := by
  apply Nat.eq_of_testBit_eq
  intro i
  by_cases hi : i < 256
  · have h1 := tb_wd N (i / 64) (i % 64)
    have h2 := tb_wd M (i / 64) (i % 64)
    rw [h (i / 64) (by omega)] at h1
    rw [show 64 * (i / 64) + i % 64 = i by omega] at h1 h2
    simp [show i % 64 < 64 by omega] at h1 h2
    rw [← h1, ← h2]
  · have hp : 2 ^ 256 ≤ 2 ^ i := Nat.pow_le_pow_right (by decide) (by omega)
    rw [Nat.testBit_lt_two_pow (by omega), Nat.testBit_lt_two_pow (by omega)]
theorem wd_or (N M j : Nat) : wd (N ||| M) j = wd N j ||| wd M j := by
  apply Nat.eq_of_testBit_eq
  intro i
  rw [Nat.testBit_or, tb_wd, tb_wd, tb_wd, Nat.testBit_or]
  cases decide (i < 64) <;> simp
theorem wd_and (N M j : Nat) : wd (N &&& M) j = wd N j &&& wd M j := by
  apply Nat.eq_of_testBit_eq
  intro i
  rw [Nat.testBit_and, tb_wd, tb_wd, tb_wd, Nat.testBit_and]
  cases decide (i < 64) <;> simp
/-- what is not in -/
def notN (N : Nat) : Nat := 2 ^ 256 - 1 - N
theorem tb_not {N : Nat} (hN : N < 2 ^ 256) (i : Nat) : (notN N).testBit i = (decide (i < 256) && !N.testBit i) := by
  unfold notN
  rw [show 2 ^ 256 - 1 - N = 2 ^ 256 - (N + 1) by omega, Nat.testBit_two_pow_sub_succ hN]
theorem wd_not {N : Nat} (hN : N < 2 ^ 256) (j : Nat) (hj : j < 4) : wd (notN N) j = 2 ^ 64 - 1 - wd N j := by
  apply Nat.eq_of_testBit_eq
  intro i
  rw [tb_wd, tb_not hN, show 2 ^ 64 - 1 - wd N j = 2 ^ 64 - (wd N j + 1) by omega, Nat.testBit_two_pow_sub_succ (wd_lt N j), tb_wd]
  by_cases h : i < 64
  · simp [h, show 64 * j + i < 256 by omega]
  · simp [h]
theorem not_lt (N : Nat) : notN N < 2 ^ 256 := by unfold notN; omega
theorem or_lt {N M : Nat} (h : N < 2 ^ 256) (g : M < 2 ^ 256) : N ||| M < 2 ^ 256 := Nat.or_lt_two_pow h g
theorem and_lt {N : Nat} (M : Nat) (h : N < 2 ^ 256) : N &&& M < 2 ^ 256 := Nat.lt_of_le_of_lt Nat.and_le_left h
/-- how many -/
def cnt (N n : Nat) : Nat := (List.range n).countP fun i => N.testBit i
theorem pop_cnt (f x : Nat) : Go.Lib.popAux f x = cnt x f := by
  induction f generalizing x with
  | zero => rfl
  | succ f ih =>
    unfold Go.Lib.popAux cnt
    rw [ih, List.range_succ_eq_map, List.countP_cons, List.countP_map, Nat.add_comm]
    congr 1
    · unfold cnt
      congr 1
      funext i
      simp [Nat.testBit_succ]
    · rw [Nat.testBit_zero]
      by_cases h : x % 2 = 1
      · simp [h]
      · simp [h]; omega
theorem cnt_wd (N j : Nat) : Go.Lib.onesCount (wd N j) = (List.range 64).countP fun i => N.testBit (64 * j + i) := by
  unfold Go.Lib.onesCount
  rw [pop_cnt]
  unfold cnt
  apply List.countP_congr
  intro i hi
  simp at hi
  rw [tb_wd]
  simp [hi]
theorem cnt_words (N : Nat) : Go.Lib.onesCount (wd N 0) + Go.Lib.onesCount (wd N 1) + Go.Lib.onesCount (wd N 2) + Go.Lib.onesCount (wd N 3) = cnt N 256 := by
  rw [cnt_wd, cnt_wd, cnt_wd, cnt_wd]
  unfold cnt
  have e : List.range 256 = List.range 64 ++ (List.range 64).map (64 + ·) ++ (List.range 64).map (128 + ·) ++ (List.range 64).map (192 + ·) := by decide +kernel
  rw [e]
  simp only [List.countP_append, List.countP_map, Function.comp_def]
  simp
end Go.Proofs.YtaaihcojedibeaaGreatDoor.CBits
end
section
/- Sets: what has, what is put in. -/
namespace Go.Proofs.YtaaihcojedibeaaGreatDoor.CSet
set_option maxRecDepth 100000
open Go.RowKit CMem CBits Go.Proofs.YtaaihcojedibeaaGreatDoorW.PrintWords Go.Proofs.YtaaihcojedibeaaGreatDoorW.PrintLast Go.Proofs.YtaaihcojedibeaaGreatDoorW.PrintMore
set_option linter.unusedVariables false
set_option linter.unusedSimpArgs false

/-- a set's cells -/
def sc (N : Nat) : Array Value := #[.int .u64 (wd N 0 : Nat), .int .u64 (wd N 1 : Nat), .int .u64 (wd N 2 : Nat), .int .u64 (wd N 3 : Nat)]
theorem bit_run (N c j : Nat) (hj : c / 64 = j) : (bits BinOp.and IntKind.u64 (((wd N j : Nat) : Int) / 2 ^ (c % 64)) 1 == 1) = N.testBit c := by
  have hd : ((wd N j : Nat) : Int) / 2 ^ (c % 64) = ((wd N j / 2 ^ (c % 64) : Nat) : Int) := by
    rw [Int.natCast_ediv, Int.natCast_pow]
    rfl
  have hlt : wd N j / 2 ^ (c % 64) < 18446744073709551616 := Nat.lt_of_le_of_lt (Nat.div_le_self _ _) (wd_lt N j)
  rw [hd, show (1 : Int) = ((1 : Nat) : Int) from rfl, u64_and_nat _ _ hlt (by decide), Nat.and_one_is_mod]
  have ht : N.testBit c = (wd N j).testBit (c % 64) := by
    rw [tb_wd, show 64 * j + c % 64 = c by omega]
    simp; omega
  rw [ht, Nat.testBit_eq_decide_div_mod_eq]
  have hm : wd N j / 2 ^ (c % 64) % 2 < 2 := Nat.mod_lt _ (by decide)
  generalize wd N j / 2 ^ (c % 64) % 2 = r at *
  have : r = 0 ∨ r = 1 := by omega
  rcases this with rfl | rfl <;> rfl
theorem has_calls (N c : Nat) (hc : c < 256) (w : World) :
    Calls Tryz.prog 39 #[.agg (sc N), .int .u8 c] w fun e w' => e = .returned (.bool (N.testBit c)) ∧ Below w.heap.size w w' := by
  unfold sc
  have hj : c / 64 = 0 ∨ c / 64 = 1 ∨ c / 64 = 2 ∨ c / 64 = 3 := by omega
  rcases hj with hj | hj | hj | hj <;> (
    have h1 := bit_run N c _ hj
    first
      | have h2 : (c : Int) / 64 = 0 := by omega
      | have h2 : (c : Int) / 64 = 1 := by omega
      | have h2 : (c : Int) / 64 = 2 := by omega
      | have h2 : (c : Int) / 64 = 3 := by omega
    generalize N.testBit c = B at *
    generalize wd N 0 = x0 at *
    generalize wd N 1 = x1 at *
    generalize wd N 2 = x2 at *
    generalize wd N 3 = x3 at *
    go_enter Tryz.func39, Tryz.ntmps39
    go_wp2
    go_ret
    exact ⟨rfl, below1 _ _⟩)
theorem u64w {q : Int} (h0 : 0 ≤ q) (h1 : q < 18446744073709551616) : IntKind.u64.wrap q = q := by
  simp [IntKind.wrap, IntKind.signed, IntKind.bits]
  omega
theorem shl_run (k : Nat) (hk : k < 64) (W : World) : (Op.shift BinOp.shl IntKind.u64 1 IntKind.u8 (k : Int)).run Tryz.prog W = .ok (.int .u64 ((2 ^ k : Nat) : Int)) W := by
  have hp : (2 : Nat) ^ k < 18446744073709551616 := by
    have := Nat.pow_lt_pow_right (a := 2) (by decide) hk
    rwa [show (2 : Nat) ^ 64 = 18446744073709551616 by decide] at this
  have hw : IntKind.u64.wrap (1 * 2 ^ k) = ((2 ^ k : Nat) : Int) := by
    rw [Int.one_mul, show (2 : Int) ^ k = ((2 ^ k : Nat) : Int) by rw [Int.natCast_pow]; rfl]
    have hg : ∀ P : Nat, P < 18446744073709551616 → IntKind.u64.wrap (P : Int) = P := fun P h => u64w (by omega) (by omega)
    exact hg _ hp
  unfold Op.shift
  rw [if_neg (by omega)]
  simp only [Int.toNat_natCast]
  rw [show min k IntKind.u64.bits = k from Nat.min_eq_left (Nat.le_of_lt hk), hw]
  rfl
set_option maxHeartbeats 1600000 in
theorem add_0 (x0 x1 x2 x3 y z k P : Int) (q : Nat) (w : World) (hT : z.tdiv 64 = 0) (hM : z.tmod 64 = k) (hS : ∀ W, (Op.shift BinOp.shl IntKind.u64 1 IntKind.u8 k).run Tryz.prog W = .ok (.int .u64 P) W) (hO : bits BinOp.or IntKind.u64 x0 P = y)
    (hb : w.heap[q]? = some (.cells #[.int .u64 x0, .int .u64 x1, .int .u64 x2, .int .u64 x3] 28 (0, 0))) :
    Calls Tryz.prog 41 #[.pointer (some ⟨q, 0, none⟩), .int .u8 z] w fun e w' => e = .returned (.tuple #[]) ∧ w'.heap[q]? = some (.cells #[.int .u64 y, .int .u64 x1, .int .u64 x2, .int .u64 x3] 28 (0, 0)) ∧ Only q w w' := by
  have hw : IntKind.u8.wrap 0 = 0 := by decide
  have y0 := blk_cell hb 0 (.int .u64 x0) rfl
  have f0 := blk_free hb 0
  have HN := Lib.hid (set_blk (i := 0) hb (.int .u64 y))
  have HO := Lib.hid (Only.set w q 0 (.int .u64 y))
  clear hb
  go_enter Tryz.func41, Tryz.ntmps41
  go_wp2
  refine start_ (n := 15) (S := fun w' => w'.cell? ⟨q, 0, none⟩ = some (.int .u64 x0)) (ds := [14]) #[false, false, false, false, false, false, false, false, false, false, false, false, false, false, false] (by kernel_rfl) rfl rfl (y0) (fun hHeld => ?_)
  refine pure_ (i := 0) (N := some 4) (v := ?_) (a' := ?_) #[true, false, false, false, false, false, false, false, false, false, false, false, false, false, false] rfl rfl (by kernel_rfl) (fun _ _ _ h => h) (Or.inl ⟨by rfl, ?_⟩) ?_ ?_
  rotate_left
  · intro w'
    go_simp
    with_reducible rfl
  rotate_left
  · simp only [Act.put, List.setIfInBounds_toArray, List.set_cons_zero, List.set_cons_succ, i64_w, i32_w]
    rfl
  refine pure_ (i := 1) (N := some 5) (v := ?_) (a' := ?_) #[true, true, false, false, false, false, false, false, false, false, false, false, false, false, false] rfl rfl (by kernel_rfl) (fun _ _ _ h => h) (Or.inl ⟨by rfl, ?_⟩) ?_ ?_
  rotate_left
  · intro w'
    go_simp
    with_reducible rfl
  rotate_left
  · simp only [Act.put, List.setIfInBounds_toArray, List.set_cons_zero, List.set_cons_succ, i64_w, i32_w]
    rfl
  refine pure_ (i := 2) (N := some 6) (v := ?_) (a' := ?_) #[true, true, true, false, false, false, false, false, false, false, false, false, false, false, false] rfl rfl (by kernel_rfl) (fun _ _ _ h => h) (Or.inl ⟨by rfl, ?_⟩) ?_ ?_
  rotate_left
  · intro w'
    go_simp
    with_reducible rfl
  rotate_left
  · simp only [Act.put, List.setIfInBounds_toArray, List.set_cons_zero, List.set_cons_succ, i64_w, i32_w]
    rfl
  refine pure_ (i := 3) (N := some 7) (v := ?_) (a' := ?_) #[true, true, true, true, false, false, false, false, false, false, false, false, false, false, false] rfl rfl (by kernel_rfl) (fun _ _ _ h => h) (Or.inl ⟨by rfl, ?_⟩) ?_ ?_
  rotate_left
  · intro w'
    go_simp
    with_reducible rfl
  rotate_left
  · simp only [Act.put, List.setIfInBounds_toArray, List.set_cons_zero, List.set_cons_succ, i64_w, i32_w]
    rfl
  refine pure_ (i := 4) (N := some 8) (v := ?_) (a' := ?_) #[true, true, true, true, true, false, false, false, false, false, false, false, false, false, false] rfl rfl (by kernel_rfl) (fun _ _ _ h => h) (Or.inl ⟨by rfl, ?_⟩) ?_ ?_
  rotate_left
  · intro w'
    go_simp
    with_reducible rfl
  rotate_left
  · simp only [Act.put, List.setIfInBounds_toArray, List.set_cons_zero, List.set_cons_succ, i64_w, i32_w]
    rfl
  refine pure_ (i := 5) (N := some 9) (v := ?_) (a' := ?_) #[true, true, true, true, true, true, false, false, false, false, false, false, false, false, false] rfl rfl (by kernel_rfl) (fun _ _ _ h => h) (Or.inl ⟨by rfl, ?_⟩) ?_ ?_
  rotate_left
  · intro w'
    go_simp
    with_reducible rfl
  rotate_left
  · simp only [Act.put, List.setIfInBounds_toArray, List.set_cons_zero, List.set_cons_succ, i64_w, i32_w]
    rfl
  refine pure_ (i := 7) (N := some 11) (v := ?_) (a' := ?_) #[true, true, true, true, true, true, false, true, false, false, false, false, false, false, false] rfl rfl (by kernel_rfl) (fun _ _ _ h => h) (Or.inl ⟨by rfl, ?_⟩) ?_ ?_
  rotate_left
  · intro w'
    go_simp
    with_reducible rfl
  rotate_left
  · simp only [Act.put, List.setIfInBounds_toArray, List.set_cons_zero, List.set_cons_succ, i64_w, i32_w]
    rfl
  refine pure_ (i := 8) (N := some 12) (v := ?_) (a' := ?_) #[true, true, true, true, true, true, false, true, true, false, false, false, false, false, false] rfl rfl (by kernel_rfl) (fun _ _ _ h => h) (Or.inl ⟨by rfl, ?_⟩) ?_ ?_
  rotate_left
  · intro w'
    go_simp
    with_reducible rfl
  rotate_left
  · simp only [Act.put, List.setIfInBounds_toArray, List.set_cons_zero, List.set_cons_succ, i64_w, i32_w]
    rfl
  refine pure_ (i := 9) (N := some 13) (v := ?_) (a' := ?_) #[true, true, true, true, true, true, false, true, true, true, false, false, false, false, false] rfl rfl (by kernel_rfl) (fun _ _ _ h => h) (Or.inl ⟨by rfl, ?_⟩) ?_ ?_
  rotate_left
  · intro w'
    go_simp
    with_reducible rfl
  rotate_left
  · simp only [Act.put, List.setIfInBounds_toArray, List.set_cons_zero, List.set_cons_succ, i64_w, i32_w]
    rfl
  refine pure_ (i := 11) (N := some 15) (v := ?_) (a' := ?_) #[true, true, true, true, true, true, false, true, true, true, false, true, false, false, false] rfl rfl (by kernel_rfl) (fun _ _ _ h => h) (Or.inl ⟨by rfl, ?_⟩) ?_ ?_
  rotate_left
  · intro w'
    go_simp
    with_reducible rfl
  rotate_left
  · simp only [Act.put, List.setIfInBounds_toArray, List.set_cons_zero, List.set_cons_succ, i64_w, i32_w]
    rfl
  refine pure_ (i := 12) (N := some 16) (v := ?_) (a' := ?_) #[true, true, true, true, true, true, false, true, true, true, false, true, true, false, false] rfl rfl (by kernel_rfl) (fun _ _ _ h => h) (Or.inl ⟨by rfl, ?_⟩) ?_ ?_
  rotate_left
  · intro w'
    go_simp
    with_reducible rfl
  rotate_left
  · simp only [Act.put, List.setIfInBounds_toArray, List.set_cons_zero, List.set_cons_succ, i64_w, i32_w]
    rfl
  refine take_ (i := 6) (N := some 10) (v := ?_) (a' := ?_) #[true, true, true, true, true, true, true, true, true, true, false, true, true, false, false] rfl rfl (by kernel_rfl) (fun _ _ _ h => h) (Or.inl ⟨by rfl, ?_⟩) hHeld ?_ ?_
  rotate_left
  · intro w' s0
    go_simp
    with_reducible rfl
  rotate_left
  · simp only [Act.put, List.setIfInBounds_toArray, List.set_cons_zero, List.set_cons_succ, i64_w, i32_w]
    rfl
  refine pure_ (i := 10) (N := some 14) (v := ?_) (a' := ?_) #[true, true, true, true, true, true, true, true, true, true, true, true, true, false, false] rfl rfl (by kernel_rfl) (fun _ _ _ h => h) (Or.inl ⟨by rfl, ?_⟩) ?_ ?_
  rotate_left
  · intro w'
    go_simp
    with_reducible rfl
  rotate_left
  · simp only [Act.put, List.setIfInBounds_toArray, List.set_cons_zero, List.set_cons_succ, i64_w, i32_w]
    rfl
  refine pure_ (i := 13) (N := some 17) (v := ?_) (a' := ?_) #[true, true, true, true, true, true, true, true, true, true, true, true, true, true, false] rfl rfl (by kernel_rfl) (fun _ _ _ h => h) (Or.inl ⟨by rfl, ?_⟩) ?_ ?_
  rotate_left
  · intro w'
    go_simp
    with_reducible rfl
  rotate_left
  · simp only [Act.put, List.setIfInBounds_toArray, List.set_cons_zero, List.set_cons_succ, i64_w, i32_w]
    rfl
  refine last_ (i := 14) (N := none) #[true, true, true, true, true, true, true, true, true, true, true, true, true, true, true] rfl rfl (by kernel_rfl) (by decide) (fun K hK => ?_)
  refine skip_ (w1 := ?_) (by rfl) rfl ?_ ?_
  rotate_left
  · go_simp
    rfl
  refine hK.out _ _ ?_
  clear hK K
  refine done_ (by kernel_rfl) ?_
  go_wp2
  go_end0
  exact ⟨rfl, HN.out, HO.out.drew⟩
set_option maxHeartbeats 1600000 in
theorem add_1 (x0 x1 x2 x3 y z k P : Int) (q : Nat) (w : World) (hT : z.tdiv 64 = 1) (hM : z.tmod 64 = k) (hS : ∀ W, (Op.shift BinOp.shl IntKind.u64 1 IntKind.u8 k).run Tryz.prog W = .ok (.int .u64 P) W) (hO : bits BinOp.or IntKind.u64 x1 P = y)
    (hb : w.heap[q]? = some (.cells #[.int .u64 x0, .int .u64 x1, .int .u64 x2, .int .u64 x3] 28 (0, 0))) :
    Calls Tryz.prog 41 #[.pointer (some ⟨q, 0, none⟩), .int .u8 z] w fun e w' => e = .returned (.tuple #[]) ∧ w'.heap[q]? = some (.cells #[.int .u64 x0, .int .u64 y, .int .u64 x2, .int .u64 x3] 28 (0, 0)) ∧ Only q w w' := by
  have hw : IntKind.u8.wrap 1 = 1 := by decide
  have y0 := blk_cell hb 1 (.int .u64 x1) rfl
  have f0 := blk_free hb 1
  have HN := Lib.hid (set_blk (i := 1) hb (.int .u64 y))
  have HO := Lib.hid (Only.set w q 1 (.int .u64 y))
  clear hb
  go_enter Tryz.func41, Tryz.ntmps41
  go_wp2
  refine start_ (n := 15) (S := fun w' => w'.cell? ⟨q, 1, none⟩ = some (.int .u64 x1)) (ds := [14]) #[false, false, false, false, false, false, false, false, false, false, false, false, false, false, false] (by kernel_rfl) rfl rfl (y0) (fun hHeld => ?_)
  refine pure_ (i := 0) (N := some 4) (v := ?_) (a' := ?_) #[true, false, false, false, false, false, false, false, false, false, false, false, false, false, false] rfl rfl (by kernel_rfl) (fun _ _ _ h => h) (Or.inl ⟨by rfl, ?_⟩) ?_ ?_
  rotate_left
  · intro w'
    go_simp
    with_reducible rfl
  rotate_left
  · simp only [Act.put, List.setIfInBounds_toArray, List.set_cons_zero, List.set_cons_succ, i64_w, i32_w]
    rfl
  refine pure_ (i := 1) (N := some 5) (v := ?_) (a' := ?_) #[true, true, false, false, false, false, false, false, false, false, false, false, false, false, false] rfl rfl (by kernel_rfl) (fun _ _ _ h => h) (Or.inl ⟨by rfl, ?_⟩) ?_ ?_
  rotate_left
  · intro w'
    go_simp
    with_reducible rfl
  rotate_left
  · simp only [Act.put, List.setIfInBounds_toArray, List.set_cons_zero, List.set_cons_succ, i64_w, i32_w]
    rfl
  refine pure_ (i := 2) (N := some 6) (v := ?_) (a' := ?_) #[true, true, true, false, false, false, false, false, false, false, false, false, false, false, false] rfl rfl (by kernel_rfl) (fun _ _ _ h => h) (Or.inl ⟨by rfl, ?_⟩) ?_ ?_
  rotate_left
  · intro w'
    go_simp
    with_reducible rfl
  rotate_left
  · simp only [Act.put, List.setIfInBounds_toArray, List.set_cons_zero, List.set_cons_succ, i64_w, i32_w]
    rfl
  refine pure_ (i := 3) (N := some 7) (v := ?_) (a' := ?_) #[true, true, true, true, false, false, false, false, false, false, false, false, false, false, false] rfl rfl (by kernel_rfl) (fun _ _ _ h => h) (Or.inl ⟨by rfl, ?_⟩) ?_ ?_
  rotate_left
  · intro w'
    go_simp
    with_reducible rfl
  rotate_left
  · simp only [Act.put, List.setIfInBounds_toArray, List.set_cons_zero, List.set_cons_succ, i64_w, i32_w]
    rfl
  refine pure_ (i := 4) (N := some 8) (v := ?_) (a' := ?_) #[true, true, true, true, true, false, false, false, false, false, false, false, false, false, false] rfl rfl (by kernel_rfl) (fun _ _ _ h => h) (Or.inl ⟨by rfl, ?_⟩) ?_ ?_
  rotate_left
  · intro w'
    go_simp
    with_reducible rfl
  rotate_left
  · simp only [Act.put, List.setIfInBounds_toArray, List.set_cons_zero, List.set_cons_succ, i64_w, i32_w]
    rfl
  refine pure_ (i := 5) (N := some 9) (v := ?_) (a' := ?_) #[true, true, true, true, true, true, false, false, false, false, false, false, false, false, false] rfl rfl (by kernel_rfl) (fun _ _ _ h => h) (Or.inl ⟨by rfl, ?_⟩) ?_ ?_
  rotate_left
  · intro w'
    go_simp
    with_reducible rfl
  rotate_left
  · simp only [Act.put, List.setIfInBounds_toArray, List.set_cons_zero, List.set_cons_succ, i64_w, i32_w]
    rfl
  refine pure_ (i := 7) (N := some 11) (v := ?_) (a' := ?_) #[true, true, true, true, true, true, false, true, false, false, false, false, false, false, false] rfl rfl (by kernel_rfl) (fun _ _ _ h => h) (Or.inl ⟨by rfl, ?_⟩) ?_ ?_
  rotate_left
  · intro w'
    go_simp
    with_reducible rfl
  rotate_left
  · simp only [Act.put, List.setIfInBounds_toArray, List.set_cons_zero, List.set_cons_succ, i64_w, i32_w]
    rfl
  refine pure_ (i := 8) (N := some 12) (v := ?_) (a' := ?_) #[true, true, true, true, true, true, false, true, true, false, false, false, false, false, false] rfl rfl (by kernel_rfl) (fun _ _ _ h => h) (Or.inl ⟨by rfl, ?_⟩) ?_ ?_
  rotate_left
  · intro w'
    go_simp
    with_reducible rfl
  rotate_left
  · simp only [Act.put, List.setIfInBounds_toArray, List.set_cons_zero, List.set_cons_succ, i64_w, i32_w]
    rfl
  refine pure_ (i := 9) (N := some 13) (v := ?_) (a' := ?_) #[true, true, true, true, true, true, false, true, true, true, false, false, false, false, false] rfl rfl (by kernel_rfl) (fun _ _ _ h => h) (Or.inl ⟨by rfl, ?_⟩) ?_ ?_
  rotate_left
  · intro w'
    go_simp
    with_reducible rfl
  rotate_left
  · simp only [Act.put, List.setIfInBounds_toArray, List.set_cons_zero, List.set_cons_succ, i64_w, i32_w]
    rfl
  refine pure_ (i := 11) (N := some 15) (v := ?_) (a' := ?_) #[true, true, true, true, true, true, false, true, true, true, false, true, false, false, false] rfl rfl (by kernel_rfl) (fun _ _ _ h => h) (Or.inl ⟨by rfl, ?_⟩) ?_ ?_
  rotate_left
  · intro w'
    go_simp
    with_reducible rfl
  rotate_left
  · simp only [Act.put, List.setIfInBounds_toArray, List.set_cons_zero, List.set_cons_succ, i64_w, i32_w]
    rfl
  refine pure_ (i := 12) (N := some 16) (v := ?_) (a' := ?_) #[true, true, true, true, true, true, false, true, true, true, false, true, true, false, false] rfl rfl (by kernel_rfl) (fun _ _ _ h => h) (Or.inl ⟨by rfl, ?_⟩) ?_ ?_
  rotate_left
  · intro w'
    go_simp
    with_reducible rfl
  rotate_left
  · simp only [Act.put, List.setIfInBounds_toArray, List.set_cons_zero, List.set_cons_succ, i64_w, i32_w]
    rfl
  refine take_ (i := 6) (N := some 10) (v := ?_) (a' := ?_) #[true, true, true, true, true, true, true, true, true, true, false, true, true, false, false] rfl rfl (by kernel_rfl) (fun _ _ _ h => h) (Or.inl ⟨by rfl, ?_⟩) hHeld ?_ ?_
  rotate_left
  · intro w' s0
    go_simp
    with_reducible rfl
  rotate_left
  · simp only [Act.put, List.setIfInBounds_toArray, List.set_cons_zero, List.set_cons_succ, i64_w, i32_w]
    rfl
  refine pure_ (i := 10) (N := some 14) (v := ?_) (a' := ?_) #[true, true, true, true, true, true, true, true, true, true, true, true, true, false, false] rfl rfl (by kernel_rfl) (fun _ _ _ h => h) (Or.inl ⟨by rfl, ?_⟩) ?_ ?_
  rotate_left
  · intro w'
    go_simp
    with_reducible rfl
  rotate_left
  · simp only [Act.put, List.setIfInBounds_toArray, List.set_cons_zero, List.set_cons_succ, i64_w, i32_w]
    rfl
  refine pure_ (i := 13) (N := some 17) (v := ?_) (a' := ?_) #[true, true, true, true, true, true, true, true, true, true, true, true, true, true, false] rfl rfl (by kernel_rfl) (fun _ _ _ h => h) (Or.inl ⟨by rfl, ?_⟩) ?_ ?_
  rotate_left
  · intro w'
    go_simp
    with_reducible rfl
  rotate_left
  · simp only [Act.put, List.setIfInBounds_toArray, List.set_cons_zero, List.set_cons_succ, i64_w, i32_w]
    rfl
  refine last_ (i := 14) (N := none) #[true, true, true, true, true, true, true, true, true, true, true, true, true, true, true] rfl rfl (by kernel_rfl) (by decide) (fun K hK => ?_)
  refine skip_ (w1 := ?_) (by rfl) rfl ?_ ?_
  rotate_left
  · go_simp
    rfl
  refine hK.out _ _ ?_
  clear hK K
  refine done_ (by kernel_rfl) ?_
  go_wp2
  go_end0
  exact ⟨rfl, HN.out, HO.out.drew⟩
set_option maxHeartbeats 1600000 in
theorem add_2 (x0 x1 x2 x3 y z k P : Int) (q : Nat) (w : World) (hT : z.tdiv 64 = 2) (hM : z.tmod 64 = k) (hS : ∀ W, (Op.shift BinOp.shl IntKind.u64 1 IntKind.u8 k).run Tryz.prog W = .ok (.int .u64 P) W) (hO : bits BinOp.or IntKind.u64 x2 P = y)
    (hb : w.heap[q]? = some (.cells #[.int .u64 x0, .int .u64 x1, .int .u64 x2, .int .u64 x3] 28 (0, 0))) :
    Calls Tryz.prog 41 #[.pointer (some ⟨q, 0, none⟩), .int .u8 z] w fun e w' => e = .returned (.tuple #[]) ∧ w'.heap[q]? = some (.cells #[.int .u64 x0, .int .u64 x1, .int .u64 y, .int .u64 x3] 28 (0, 0)) ∧ Only q w w' := by
  have hw : IntKind.u8.wrap 2 = 2 := by decide
  have y0 := blk_cell hb 2 (.int .u64 x2) rfl
  have f0 := blk_free hb 2
  have HN := Lib.hid (set_blk (i := 2) hb (.int .u64 y))
  have HO := Lib.hid (Only.set w q 2 (.int .u64 y))
  clear hb
  go_enter Tryz.func41, Tryz.ntmps41
  go_wp2
  refine start_ (n := 15) (S := fun w' => w'.cell? ⟨q, 2, none⟩ = some (.int .u64 x2)) (ds := [14]) #[false, false, false, false, false, false, false, false, false, false, false, false, false, false, false] (by kernel_rfl) rfl rfl (y0) (fun hHeld => ?_)
  refine pure_ (i := 0) (N := some 4) (v := ?_) (a' := ?_) #[true, false, false, false, false, false, false, false, false, false, false, false, false, false, false] rfl rfl (by kernel_rfl) (fun _ _ _ h => h) (Or.inl ⟨by rfl, ?_⟩) ?_ ?_
  rotate_left
  · intro w'
    go_simp
    with_reducible rfl
  rotate_left
  · simp only [Act.put, List.setIfInBounds_toArray, List.set_cons_zero, List.set_cons_succ, i64_w, i32_w]
    rfl
  refine pure_ (i := 1) (N := some 5) (v := ?_) (a' := ?_) #[true, true, false, false, false, false, false, false, false, false, false, false, false, false, false] rfl rfl (by kernel_rfl) (fun _ _ _ h => h) (Or.inl ⟨by rfl, ?_⟩) ?_ ?_
  rotate_left
  · intro w'
    go_simp
    with_reducible rfl
  rotate_left
  · simp only [Act.put, List.setIfInBounds_toArray, List.set_cons_zero, List.set_cons_succ, i64_w, i32_w]
    rfl
  refine pure_ (i := 2) (N := some 6) (v := ?_) (a' := ?_) #[true, true, true, false, false, false, false, false, false, false, false, false, false, false, false] rfl rfl (by kernel_rfl) (fun _ _ _ h => h) (Or.inl ⟨by rfl, ?_⟩) ?_ ?_
  rotate_left
  · intro w'
    go_simp
    with_reducible rfl
  rotate_left
  · simp only [Act.put, List.setIfInBounds_toArray, List.set_cons_zero, List.set_cons_succ, i64_w, i32_w]
    rfl
  refine pure_ (i := 3) (N := some 7) (v := ?_) (a' := ?_) #[true, true, true, true, false, false, false, false, false, false, false, false, false, false, false] rfl rfl (by kernel_rfl) (fun _ _ _ h => h) (Or.inl ⟨by rfl, ?_⟩) ?_ ?_
  rotate_left
  · intro w'
    go_simp
    with_reducible rfl
  rotate_left
  · simp only [Act.put, List.setIfInBounds_toArray, List.set_cons_zero, List.set_cons_succ, i64_w, i32_w]
    rfl
  refine pure_ (i := 4) (N := some 8) (v := ?_) (a' := ?_) #[true, true, true, true, true, false, false, false, false, false, false, false, false, false, false] rfl rfl (by kernel_rfl) (fun _ _ _ h => h) (Or.inl ⟨by rfl, ?_⟩) ?_ ?_
  rotate_left
  · intro w'
    go_simp
    with_reducible rfl
  rotate_left
  · simp only [Act.put, List.setIfInBounds_toArray, List.set_cons_zero, List.set_cons_succ, i64_w, i32_w]
    rfl
  refine pure_ (i := 5) (N := some 9) (v := ?_) (a' := ?_) #[true, true, true, true, true, true, false, false, false, false, false, false, false, false, false] rfl rfl (by kernel_rfl) (fun _ _ _ h => h) (Or.inl ⟨by rfl, ?_⟩) ?_ ?_
  rotate_left
  · intro w'
    go_simp
    with_reducible rfl
  rotate_left
  · simp only [Act.put, List.setIfInBounds_toArray, List.set_cons_zero, List.set_cons_succ, i64_w, i32_w]
    rfl
  refine pure_ (i := 7) (N := some 11) (v := ?_) (a' := ?_) #[true, true, true, true, true, true, false, true, false, false, false, false, false, false, false] rfl rfl (by kernel_rfl) (fun _ _ _ h => h) (Or.inl ⟨by rfl, ?_⟩) ?_ ?_
  rotate_left
  · intro w'
    go_simp
    with_reducible rfl
  rotate_left
  · simp only [Act.put, List.setIfInBounds_toArray, List.set_cons_zero, List.set_cons_succ, i64_w, i32_w]
    rfl
  refine pure_ (i := 8) (N := some 12) (v := ?_) (a' := ?_) #[true, true, true, true, true, true, false, true, true, false, false, false, false, false, false] rfl rfl (by kernel_rfl) (fun _ _ _ h => h) (Or.inl ⟨by rfl, ?_⟩) ?_ ?_
  rotate_left
  · intro w'
    go_simp
    with_reducible rfl
  rotate_left
  · simp only [Act.put, List.setIfInBounds_toArray, List.set_cons_zero, List.set_cons_succ, i64_w, i32_w]
    rfl
  refine pure_ (i := 9) (N := some 13) (v := ?_) (a' := ?_) #[true, true, true, true, true, true, false, true, true, true, false, false, false, false, false] rfl rfl (by kernel_rfl) (fun _ _ _ h => h) (Or.inl ⟨by rfl, ?_⟩) ?_ ?_
  rotate_left
  · intro w'
    go_simp
    with_reducible rfl
  rotate_left
  · simp only [Act.put, List.setIfInBounds_toArray, List.set_cons_zero, List.set_cons_succ, i64_w, i32_w]
    rfl
  refine pure_ (i := 11) (N := some 15) (v := ?_) (a' := ?_) #[true, true, true, true, true, true, false, true, true, true, false, true, false, false, false] rfl rfl (by kernel_rfl) (fun _ _ _ h => h) (Or.inl ⟨by rfl, ?_⟩) ?_ ?_
  rotate_left
  · intro w'
    go_simp
    with_reducible rfl
  rotate_left
  · simp only [Act.put, List.setIfInBounds_toArray, List.set_cons_zero, List.set_cons_succ, i64_w, i32_w]
    rfl
  refine pure_ (i := 12) (N := some 16) (v := ?_) (a' := ?_) #[true, true, true, true, true, true, false, true, true, true, false, true, true, false, false] rfl rfl (by kernel_rfl) (fun _ _ _ h => h) (Or.inl ⟨by rfl, ?_⟩) ?_ ?_
  rotate_left
  · intro w'
    go_simp
    with_reducible rfl
  rotate_left
  · simp only [Act.put, List.setIfInBounds_toArray, List.set_cons_zero, List.set_cons_succ, i64_w, i32_w]
    rfl
  refine take_ (i := 6) (N := some 10) (v := ?_) (a' := ?_) #[true, true, true, true, true, true, true, true, true, true, false, true, true, false, false] rfl rfl (by kernel_rfl) (fun _ _ _ h => h) (Or.inl ⟨by rfl, ?_⟩) hHeld ?_ ?_
  rotate_left
  · intro w' s0
    go_simp
    with_reducible rfl
  rotate_left
  · simp only [Act.put, List.setIfInBounds_toArray, List.set_cons_zero, List.set_cons_succ, i64_w, i32_w]
    rfl
  refine pure_ (i := 10) (N := some 14) (v := ?_) (a' := ?_) #[true, true, true, true, true, true, true, true, true, true, true, true, true, false, false] rfl rfl (by kernel_rfl) (fun _ _ _ h => h) (Or.inl ⟨by rfl, ?_⟩) ?_ ?_
  rotate_left
  · intro w'
    go_simp
    with_reducible rfl
  rotate_left
  · simp only [Act.put, List.setIfInBounds_toArray, List.set_cons_zero, List.set_cons_succ, i64_w, i32_w]
    rfl
  refine pure_ (i := 13) (N := some 17) (v := ?_) (a' := ?_) #[true, true, true, true, true, true, true, true, true, true, true, true, true, true, false] rfl rfl (by kernel_rfl) (fun _ _ _ h => h) (Or.inl ⟨by rfl, ?_⟩) ?_ ?_
  rotate_left
  · intro w'
    go_simp
    with_reducible rfl
  rotate_left
  · simp only [Act.put, List.setIfInBounds_toArray, List.set_cons_zero, List.set_cons_succ, i64_w, i32_w]
    rfl
  refine last_ (i := 14) (N := none) #[true, true, true, true, true, true, true, true, true, true, true, true, true, true, true] rfl rfl (by kernel_rfl) (by decide) (fun K hK => ?_)
  refine skip_ (w1 := ?_) (by rfl) rfl ?_ ?_
  rotate_left
  · go_simp
    rfl
  refine hK.out _ _ ?_
  clear hK K
  refine done_ (by kernel_rfl) ?_
  go_wp2
  go_end0
  exact ⟨rfl, HN.out, HO.out.drew⟩
set_option maxHeartbeats 1600000 in
theorem add_3 (x0 x1 x2 x3 y z k P : Int) (q : Nat) (w : World) (hT : z.tdiv 64 = 3) (hM : z.tmod 64 = k) (hS : ∀ W, (Op.shift BinOp.shl IntKind.u64 1 IntKind.u8 k).run Tryz.prog W = .ok (.int .u64 P) W) (hO : bits BinOp.or IntKind.u64 x3 P = y)
    (hb : w.heap[q]? = some (.cells #[.int .u64 x0, .int .u64 x1, .int .u64 x2, .int .u64 x3] 28 (0, 0))) :
    Calls Tryz.prog 41 #[.pointer (some ⟨q, 0, none⟩), .int .u8 z] w fun e w' => e = .returned (.tuple #[]) ∧ w'.heap[q]? = some (.cells #[.int .u64 x0, .int .u64 x1, .int .u64 x2, .int .u64 y] 28 (0, 0)) ∧ Only q w w' := by
  have hw : IntKind.u8.wrap 3 = 3 := by decide
  have y0 := blk_cell hb 3 (.int .u64 x3) rfl
  have f0 := blk_free hb 3
  have HN := Lib.hid (set_blk (i := 3) hb (.int .u64 y))
  have HO := Lib.hid (Only.set w q 3 (.int .u64 y))
  clear hb
  go_enter Tryz.func41, Tryz.ntmps41
  go_wp2
  refine start_ (n := 15) (S := fun w' => w'.cell? ⟨q, 3, none⟩ = some (.int .u64 x3)) (ds := [14]) #[false, false, false, false, false, false, false, false, false, false, false, false, false, false, false] (by kernel_rfl) rfl rfl (y0) (fun hHeld => ?_)
  refine pure_ (i := 0) (N := some 4) (v := ?_) (a' := ?_) #[true, false, false, false, false, false, false, false, false, false, false, false, false, false, false] rfl rfl (by kernel_rfl) (fun _ _ _ h => h) (Or.inl ⟨by rfl, ?_⟩) ?_ ?_
  rotate_left
  · intro w'
    go_simp
    with_reducible rfl
  rotate_left
  · simp only [Act.put, List.setIfInBounds_toArray, List.set_cons_zero, List.set_cons_succ, i64_w, i32_w]
    rfl
  refine pure_ (i := 1) (N := some 5) (v := ?_) (a' := ?_) #[true, true, false, false, false, false, false, false, false, false, false, false, false, false, false] rfl rfl (by kernel_rfl) (fun _ _ _ h => h) (Or.inl ⟨by rfl, ?_⟩) ?_ ?_
  rotate_left
  · intro w'
    go_simp
    with_reducible rfl
  rotate_left
  · simp only [Act.put, List.setIfInBounds_toArray, List.set_cons_zero, List.set_cons_succ, i64_w, i32_w]
    rfl
  refine pure_ (i := 2) (N := some 6) (v := ?_) (a' := ?_) #[true, true, true, false, false, false, false, false, false, false, false, false, false, false, false] rfl rfl (by kernel_rfl) (fun _ _ _ h => h) (Or.inl ⟨by rfl, ?_⟩) ?_ ?_
  rotate_left
  · intro w'
    go_simp
    with_reducible rfl
  rotate_left
  · simp only [Act.put, List.setIfInBounds_toArray, List.set_cons_zero, List.set_cons_succ, i64_w, i32_w]
    rfl
  refine pure_ (i := 3) (N := some 7) (v := ?_) (a' := ?_) #[true, true, true, true, false, false, false, false, false, false, false, false, false, false, false] rfl rfl (by kernel_rfl) (fun _ _ _ h => h) (Or.inl ⟨by rfl, ?_⟩) ?_ ?_
  rotate_left
  · intro w'
    go_simp
    with_reducible rfl
  rotate_left
  · simp only [Act.put, List.setIfInBounds_toArray, List.set_cons_zero, List.set_cons_succ, i64_w, i32_w]
    rfl
  refine pure_ (i := 4) (N := some 8) (v := ?_) (a' := ?_) #[true, true, true, true, true, false, false, false, false, false, false, false, false, false, false] rfl rfl (by kernel_rfl) (fun _ _ _ h => h) (Or.inl ⟨by rfl, ?_⟩) ?_ ?_
  rotate_left
  · intro w'
    go_simp
    with_reducible rfl
  rotate_left
  · simp only [Act.put, List.setIfInBounds_toArray, List.set_cons_zero, List.set_cons_succ, i64_w, i32_w]
    rfl
  refine pure_ (i := 5) (N := some 9) (v := ?_) (a' := ?_) #[true, true, true, true, true, true, false, false, false, false, false, false, false, false, false] rfl rfl (by kernel_rfl) (fun _ _ _ h => h) (Or.inl ⟨by rfl, ?_⟩) ?_ ?_
  rotate_left
  · intro w'
    go_simp
    with_reducible rfl
  rotate_left
  · simp only [Act.put, List.setIfInBounds_toArray, List.set_cons_zero, List.set_cons_succ, i64_w, i32_w]
    rfl
  refine pure_ (i := 7) (N := some 11) (v := ?_) (a' := ?_) #[true, true, true, true, true, true, false, true, false, false, false, false, false, false, false] rfl rfl (by kernel_rfl) (fun _ _ _ h => h) (Or.inl ⟨by rfl, ?_⟩) ?_ ?_
  rotate_left
  · intro w'
    go_simp
    with_reducible rfl
  rotate_left
  · simp only [Act.put, List.setIfInBounds_toArray, List.set_cons_zero, List.set_cons_succ, i64_w, i32_w]
    rfl
  refine pure_ (i := 8) (N := some 12) (v := ?_) (a' := ?_) #[true, true, true, true, true, true, false, true, true, false, false, false, false, false, false] rfl rfl (by kernel_rfl) (fun _ _ _ h => h) (Or.inl ⟨by rfl, ?_⟩) ?_ ?_
  rotate_left
  · intro w'
    go_simp
    with_reducible rfl
  rotate_left
  · simp only [Act.put, List.setIfInBounds_toArray, List.set_cons_zero, List.set_cons_succ, i64_w, i32_w]
    rfl
  refine pure_ (i := 9) (N := some 13) (v := ?_) (a' := ?_) #[true, true, true, true, true, true, false, true, true, true, false, false, false, false, false] rfl rfl (by kernel_rfl) (fun _ _ _ h => h) (Or.inl ⟨by rfl, ?_⟩) ?_ ?_
  rotate_left
  · intro w'
    go_simp
    with_reducible rfl
  rotate_left
  · simp only [Act.put, List.setIfInBounds_toArray, List.set_cons_zero, List.set_cons_succ, i64_w, i32_w]
    rfl
  refine pure_ (i := 11) (N := some 15) (v := ?_) (a' := ?_) #[true, true, true, true, true, true, false, true, true, true, false, true, false, false, false] rfl rfl (by kernel_rfl) (fun _ _ _ h => h) (Or.inl ⟨by rfl, ?_⟩) ?_ ?_
  rotate_left
  · intro w'
    go_simp
    with_reducible rfl
  rotate_left
  · simp only [Act.put, List.setIfInBounds_toArray, List.set_cons_zero, List.set_cons_succ, i64_w, i32_w]
    rfl
  refine pure_ (i := 12) (N := some 16) (v := ?_) (a' := ?_) #[true, true, true, true, true, true, false, true, true, true, false, true, true, false, false] rfl rfl (by kernel_rfl) (fun _ _ _ h => h) (Or.inl ⟨by rfl, ?_⟩) ?_ ?_
  rotate_left
  · intro w'
    go_simp
    with_reducible rfl
  rotate_left
  · simp only [Act.put, List.setIfInBounds_toArray, List.set_cons_zero, List.set_cons_succ, i64_w, i32_w]
    rfl
  refine take_ (i := 6) (N := some 10) (v := ?_) (a' := ?_) #[true, true, true, true, true, true, true, true, true, true, false, true, true, false, false] rfl rfl (by kernel_rfl) (fun _ _ _ h => h) (Or.inl ⟨by rfl, ?_⟩) hHeld ?_ ?_
  rotate_left
  · intro w' s0
    go_simp
    with_reducible rfl
  rotate_left
  · simp only [Act.put, List.setIfInBounds_toArray, List.set_cons_zero, List.set_cons_succ, i64_w, i32_w]
    rfl
  refine pure_ (i := 10) (N := some 14) (v := ?_) (a' := ?_) #[true, true, true, true, true, true, true, true, true, true, true, true, true, false, false] rfl rfl (by kernel_rfl) (fun _ _ _ h => h) (Or.inl ⟨by rfl, ?_⟩) ?_ ?_
  rotate_left
  · intro w'
    go_simp
    with_reducible rfl
  rotate_left
  · simp only [Act.put, List.setIfInBounds_toArray, List.set_cons_zero, List.set_cons_succ, i64_w, i32_w]
    rfl
  refine pure_ (i := 13) (N := some 17) (v := ?_) (a' := ?_) #[true, true, true, true, true, true, true, true, true, true, true, true, true, true, false] rfl rfl (by kernel_rfl) (fun _ _ _ h => h) (Or.inl ⟨by rfl, ?_⟩) ?_ ?_
  rotate_left
  · intro w'
    go_simp
    with_reducible rfl
  rotate_left
  · simp only [Act.put, List.setIfInBounds_toArray, List.set_cons_zero, List.set_cons_succ, i64_w, i32_w]
    rfl
  refine last_ (i := 14) (N := none) #[true, true, true, true, true, true, true, true, true, true, true, true, true, true, true] rfl rfl (by kernel_rfl) (by decide) (fun K hK => ?_)
  refine skip_ (w1 := ?_) (by rfl) rfl ?_ ?_
  rotate_left
  · go_simp
    rfl
  refine hK.out _ _ ?_
  clear hK K
  refine done_ (by kernel_rfl) ?_
  go_wp2
  go_end0
  exact ⟨rfl, HN.out, HO.out.drew⟩
theorem wd_put (N c i : Nat) (h : c / 64 ≠ i) : wd (N ||| 2 ^ c) i = wd N i := by
  apply Nat.eq_of_testBit_eq
  intro k
  rw [tb_wd, tb_wd, Nat.testBit_or, Nat.testBit_two_pow]
  by_cases hk : k < 64
  · have : ¬ c = 64 * i + k := by omega
    simp [hk, this]
  · simp [hk]
theorem wd_puts (N c j : Nat) (h : c / 64 = j) : bits BinOp.or IntKind.u64 ((wd N j : Nat) : Int) ((2 ^ (c % 64) : Nat) : Int) = ((wd (N ||| 2 ^ c) j : Nat) : Int) := by
  have hp : (2 : Nat) ^ (c % 64) < 18446744073709551616 := by
    have := Nat.pow_lt_pow_right (a := 2) (by decide) (show c % 64 < 64 by omega)
    rwa [show (2 : Nat) ^ 64 = 18446744073709551616 by decide] at this
  rw [u64_or_nat _ _ (wd_lt N j) hp]
  congr 1
  apply Nat.eq_of_testBit_eq
  intro k
  rw [Nat.testBit_or, tb_wd, tb_wd, Nat.testBit_or, Nat.testBit_two_pow, Nat.testBit_two_pow]
  by_cases hk : k < 64
  · by_cases e : c = 64 * j + k
    · have : c % 64 = k := by omega
      simp [hk, e] <;> omega
    · have : ¬ c % 64 = k := by omega
      simp [hk, e, this]
  · have : ¬ c % 64 = k := by omega
    simp [hk, this]
theorem add_calls (N c q : Nat) (hc : c < 256) (w : World) (hb : w.heap[q]? = some (.cells (sc N) 28 (0, 0))) :
    Calls Tryz.prog 41 #[.pointer (some ⟨q, 0, none⟩), .int .u8 c] w fun e w' => e = .returned (.tuple #[]) ∧ w'.heap[q]? = some (.cells (sc (N ||| 2 ^ c)) 28 (0, 0)) ∧ Only q w w' := by
  have hj : c / 64 = 0 ∨ c / 64 = 1 ∨ c / 64 = 2 ∨ c / 64 = 3 := by omega
  have hM : (c : Int).tmod 64 = ((c % 64 : Nat) : Int) := rfl
  have hD : (c : Int).tdiv 64 = ((c / 64 : Nat) : Int) := rfl
  have hS := shl_run (c % 64) (by omega)
  unfold sc at hb ⊢
  rcases hj with hj | hj | hj | hj
  · rw [wd_put N c 1 (by omega), wd_put N c 2 (by omega), wd_put N c 3 (by omega)]
    exact add_0 _ _ _ _ _ _ _ _ q w (by rw [hD, hj]; rfl) hM hS (wd_puts N c 0 hj) hb
  · rw [wd_put N c 0 (by omega), wd_put N c 2 (by omega), wd_put N c 3 (by omega)]
    exact add_1 _ _ _ _ _ _ _ _ q w (by rw [hD, hj]; rfl) hM hS (wd_puts N c 1 hj) hb
  · rw [wd_put N c 0 (by omega), wd_put N c 1 (by omega), wd_put N c 3 (by omega)]
    exact add_2 _ _ _ _ _ _ _ _ q w (by rw [hD, hj]; rfl) hM hS (wd_puts N c 2 hj) hb
  · rw [wd_put N c 0 (by omega), wd_put N c 1 (by omega), wd_put N c 2 (by omega)]
    exact add_3 _ _ _ _ _ _ _ _ q w (by rw [hD, hj]; rfl) hM hS (wd_puts N c 3 hj) hb
end Go.Proofs.YtaaihcojedibeaaGreatDoor.CSet
end
section
/- Sets: of one, of a range; not; either, both. -/
namespace Go.Proofs.YtaaihcojedibeaaGreatDoor.CMake
set_option maxRecDepth 100000
open Go.RowKit CMem CBits CSet Go.Proofs.YtaaihcojedibeaaGreatDoorW.PrintWords Go.Proofs.YtaaihcojedibeaaGreatDoorW.PrintLast Go.Proofs.YtaaihcojedibeaaGreatDoorW.PrintMore
set_option linter.unusedVariables false
set_option linter.unusedSimpArgs false

theorem sc_zero : sc 0 = #[.int .u64 0, .int .u64 0, .int .u64 0, .int .u64 0] := by
  unfold sc wd
  simp
theorem set_four {w : World} {b : Nat} {x0 x1 x2 x3 : Value} {t : TypeId} (h : w.heap[b]? = some (.cells #[x0, x1, x2, x3] t (0, 0))) (u0 u1 u2 u3 : Value) :
    w.cell? ⟨b, 0, none⟩ = some x0 ∧ w.cell? ⟨b, 1, none⟩ = some x1 ∧ w.cell? ⟨b, 2, none⟩ = some x2 ∧ w.cell? ⟨b, 3, none⟩ = some x3 ∧
    w.frozen? ⟨b, 0, none⟩ = false ∧ w.frozen? ⟨b, 1, none⟩ = false ∧ w.frozen? ⟨b, 2, none⟩ = false ∧ w.frozen? ⟨b, 3, none⟩ = false ∧
    ((((w.setCell ⟨b, 0, none⟩ u0).setCell ⟨b, 1, none⟩ u1).setCell ⟨b, 2, none⟩ u2).setCell ⟨b, 3, none⟩ u3).heap[b]? = some (.cells #[u0, u1, u2, u3] t (0, 0)) := by
  have h0 := set_blk (i := 0) h u0
  have h1 := set_blk (i := 1) h0 u1
  have h2 := set_blk (i := 2) h1 u2
  have h3 := set_blk (i := 3) h2 u3
  exact ⟨blk_cell h 0 _ rfl, blk_cell h 1 _ rfl, blk_cell h 2 _ rfl, blk_cell h 3 _ rfl, blk_free h 0, blk_free h 1, blk_free h 2, blk_free h 3, h3⟩
theorem below_four {B : Nat} {w w' : World} (h : Below B w w') {b : Nat} (hb : B ≤ b) (u0 u1 u2 u3 : Value) :
    Below B w ((((w'.setCell ⟨b, 0, none⟩ u0).setCell ⟨b, 1, none⟩ u1).setCell ⟨b, 2, none⟩ u2).setCell ⟨b, 3, none⟩ u3) := below_set (below_set (below_set (below_set h hb _) hb _) hb _) hb _
theorem one_calls (c : Nat) (hc : c < 256) (w : World) :
    Calls Tryz.prog 27 #[.int .u8 c] w fun e w' => e = .returned (.agg (sc (2 ^ c))) ∧ Below w.heap.size w w' := by
  have BR := blk_alloc (heap_alloc_new w (.cells #[.int .u64 0, .int .u64 0, .int .u64 0, .int .u64 0] 28)) (.cells #[.int .u64 0, .int .u64 0, .int .u64 0, .int .u64 0] 28)
  have BS := blk2 w (.cells #[.int .u64 0, .int .u64 0, .int .u64 0, .int .u64 0] 28) #[.int .u64 0, .int .u64 0, .int .u64 0, .int .u64 0] 28
  have HB := below2 w (.cells #[.int .u64 0, .int .u64 0, .int .u64 0, .int .u64 0] 28) (.cells #[.int .u64 0, .int .u64 0, .int .u64 0, .int .u64 0] 28)
  rw [← sc_zero] at BS
  have HC := Lib.hid (add_calls 0 c _ hc _ BS)
  rw [Nat.zero_or] at HC
  rw [sc_zero] at HC
  have BR := Lib.hid BR
  have HB := Lib.hid HB
  clear BS
  unfold sc at HC ⊢
  generalize wd (2 ^ c) 0 = x0 at *
  generalize wd (2 ^ c) 1 = x1 at *
  generalize wd (2 ^ c) 2 = x2 at *
  generalize wd (2 ^ c) 3 = x3 at *
  go_enter Tryz.func27, Tryz.ntmps27
  go_wp2_with fail
  refine HC.out.mono ?_
  rintro e w1 ⟨rfl, hq, ho⟩
  have HR := ho.blk BR.out (by omega)
  have HB1 := Lib.hid (Only.below HB.out ho (by omega) (by simp; omega))
  have y0 := blk_cell hq 0 (.int .u64 x0) rfl
  have y1 := blk_cell hq 1 (.int .u64 x1) rfl
  have y2 := blk_cell hq 2 (.int .u64 x2) rfl
  have y3 := blk_cell hq 3 (.int .u64 x3) rfl
  obtain ⟨z0, z1, z2, z3, f0, f1, f2, f3, zz⟩ := set_four HR (.int .u64 x0) (.int .u64 x1) (.int .u64 x2) (.int .u64 x3)
  have ZZ := Lib.hid zz
  clear zz HR hq ho
  go_wp2
  refine bodyPost_ret (results_cell_row rfl _ _ w.heap.size 28 #[.int .u64 x0, .int .u64 x1, .int .u64 x2, .int .u64 x3] (0, 0) _ rfl ZZ.out Tryz.underlying28 rfl (by kernel_rfl)) rfl ?_
  exact ⟨rfl, below_four HB1.out (Nat.le_refl _) _ _ _ _⟩
end Go.Proofs.YtaaihcojedibeaaGreatDoor.CMake
end
section
/- Sets: the runs. -/
namespace Go.Proofs.YtaaihcojedibeaaGreatDoor.CRng
set_option maxRecDepth 100000
open Go.RowKit CMem CBits CSet CMake Go.Proofs.YtaaihcojedibeaaGreatDoorW.PrintWords Go.Proofs.YtaaihcojedibeaaGreatDoorW.PrintLast Go.Proofs.YtaaihcojedibeaaGreatDoorW.PrintMore
set_option linter.unusedVariables false
set_option linter.unusedSimpArgs false

/-- the cells of runs -/
def prs (L : List (Nat × Nat)) : List Value := L.flatMap fun p => [.int .u8 (p.1 : Nat), .int .u8 (p.2 : Nat)]
theorem prs_snoc (L : List (Nat × Nat)) (a b : Nat) : prs (L ++ [(a, b)]) = prs L ++ [.int .u8 (a : Nat), .int .u8 (b : Nat)] := by simp [prs]
structure RS (B : Nat) (w : World) (qs qf qo : Nat) (N : Nat) (f : Int) (L : List (Nat × Nat)) : Prop where
  box : w.heap[qs]? = some (.cells (sc N) 28 (0, 0))
  fr : w.heap[qf]? = some (.cells #[.int .i64 f] 3 (0, 0))
  own : ∃ v, w.heap[qo]? = some (.cells #[v] 50 (0, 0)) ∧ w.ownsRow B 54 2 v L.length (prs L) ∧ v.ownBlock ≠ some qs ∧ v.ownBlock ≠ some qf ∧ v.ownBlock ≠ some qo
  sf : qs ≠ qf
  so : qs ≠ qo
  fo : qf ≠ qo
  b0 : B ≤ qs
  b1 : B ≤ qf
  b2 : B ≤ qo
theorem RS.below {B : Nat} {w w' : World} {qs qf qo N : Nat} {f : Int} {L : List (Nat × Nat)} (h : RS B w qs qf qo N f L) (hb : Below w.heap.size w w') : RS B w' qs qf qo N f L := by
  obtain ⟨v, h1, h2, h3⟩ := h.own
  refine ⟨below_blk hb h.box, below_blk hb h.fr, ⟨v, below_blk hb h1, ?_, h3⟩, h.sf, h.so, h.fo, h.b0, h.b1, h.b2⟩
  obtain ⟨q1, q2⟩ := h2
  refine ⟨q1, ?_⟩
  rcases q2 with ⟨q2, q3⟩ | ⟨g, cap, cur, q2, q3, q4, q5⟩
  · exact .inl ⟨q2, q3⟩
  · exact .inr ⟨g, cap, cur, q2, q3, below_blk hb q4, q5⟩
theorem own_set {B : Nat} {w : World} {e : TypeId} {size n : Nat} {v x : Value} {xs : List Value} {q i : Nat} (h : w.ownsRow B e size v n xs) (hn : v.ownBlock ≠ some q) : (w.setCell ⟨q, i, none⟩ x).ownsRow B e size v n xs := by
  obtain ⟨q1, q2⟩ := h
  refine ⟨q1, ?_⟩
  rcases q2 with ⟨q2, q3⟩ | ⟨g, cap, cur, q2, q3, q4, q5⟩
  · exact .inl ⟨q2, q3⟩
  · refine .inr ⟨g, cap, cur, q2, q3, set_other q4 (fun e => hn ?_), q5⟩
    rw [q2]
    simp [Value.ownBlock, e]
/-- from is set -/
theorem RS.setF {B : Nat} {w : World} {qs qf qo N : Nat} {f : Int} {L : List (Nat × Nat)} (h : RS B w qs qf qo N f L) (f' : Int) : RS B (w.setCell ⟨qf, 0, none⟩ (.int .i64 f')) qs qf qo N f' L := by
  obtain ⟨v, h1, h2, h3, h4, h5⟩ := h.own
  exact ⟨set_other h.box h.sf, set_blk h.fr _, ⟨v, set_other h1 (Ne.symm h.fo), own_set h2 h4, h3, h4, h5⟩, h.sf, h.so, h.fo, h.b0, h.b1, h.b2⟩
theorem info_pair : (Tryz.prog.info? 54).map (fun i => (i.zero, i.size, i.bytes)) = some (some (.agg #[.int .u8 0, .int .u8 0]), 2, 2) := by kernel_rfl
set_option maxHeartbeats 3200000 in
theorem end_no (B : Nat) (w : World) (qs qf qo N : Nat) (f c : Int) (L : List (Nat × Nat)) (H : RS B w qs qf qo N f L) (hf : f < 0) (hB : B ≤ w.heap.size) :
    Calls Tryz.prog 38 #[.int .i64 c, .pointer (some ⟨qf, 0, none⟩), .pointer (some ⟨qo, 0, none⟩)] w fun e w' => e = .returned (.tuple #[]) ∧ RS B w' qs qf qo N (-1) L ∧ Below B w w' := by
  have y0 := blk_cell H.fr 0 (.int .i64 f) rfl
  have y1 := blk_free H.fr 0
  have HN := Lib.hid (H.setF (-1))
  have HB := Lib.hid (below_set (Below.refl B w) (i := 0) H.b1 (.int .i64 (-1)))
  clear H
  go_enter Tryz.func38, Tryz.ntmps38
  go_wp2
  go_end0
  exact ⟨rfl, HN.out, HB.out⟩
set_option maxHeartbeats 3200000 in
theorem end_yes (B : Nat) (w : World) (qs qf qo N : Nat) (a c : Nat) (L : List (Nat × Nat)) (H : RS B w qs qf qo N (a : Nat) L) (ha : a < 256) (hc : 1 ≤ c) (hc1 : c ≤ 256) (hL : L.length ≤ 300) (hB : B ≤ w.heap.size) :
    Calls Tryz.prog 38 #[.int .i64 (c : Nat), .pointer (some ⟨qf, 0, none⟩), .pointer (some ⟨qo, 0, none⟩)] w fun e w' => e = .returned (.tuple #[]) ∧ RS B w' qs qf qo N (-1) (L ++ [(a, c - 1)]) ∧ Below B w w' := by
  obtain ⟨i0, hi, hz0, hz1, hz2⟩ := info_parts info_pair
  have I0 := Lib.hid hi
  have Z0 := Lib.hid hz0
  have Z1 := Lib.hid hz1
  have Z2 := Lib.hid hz2
  clear hi hz0 hz1 hz2
  obtain ⟨v, h1, h2, h3, h4, h5⟩ := H.own
  obtain ⟨d, rfl⟩ : ∃ d, c = d + 1 := ⟨c - 1, by omega⟩
  have hcd : ((d + 1 : Nat) : Int) - 1 = (d : Int) := by omega
  obtain ⟨cc, hcc⟩ : ∃ cc : Int, ((d + 1 : Nat) : Int) = cc := ⟨_, rfl⟩
  rw [hcc] at hcd ⊢
  have g0 : (0 : Int) ≤ (a : Int) := by omega
  have g1 : (a : Int) < 256 := by omega
  have g2 : (0 : Int) ≤ (d : Int) := by omega
  have g3 : (d : Int) < 256 := by omega
  have y0 := blk_cell H.fr 0 (.int .i64 (a : Nat)) rfl
  have u0 := blk_cell h1 0 v rfl
  have OW := Lib.hid h2
  have HH := Lib.hid (show _ ∧ _ ∧ _ from ⟨h3, h4, h5⟩)
  have HO := Lib.hid h1
  have HS := Lib.hid H
  have HL := Lib.hid hL
  have lo := lt_of_blk h1
  have HC := Lib.hid hcc
  clear H h1 h2 h3 h4 h5 hcc hL
  go_enter Tryz.func38, Tryz.ntmps38
  go_wp2_with (at_builtin; refine wpList_append_lies _ rfl (.tmp 6) (.tmp 13) 50 rfl B 54 i0 (.agg #[.int .u8 0, .int .u8 0]) 2 2 Tryz.underlying50 I0.out Z0.out Z1.out Z2.out rfl (by decide) v L.length (prs L) rfl (OW.out.alloc _) ⟨w.heap.size, 0, none⟩ 1 1 [.int .u8 (a : Nat), .int .u8 (d : Nat)] rfl rfl ?c1 (by simp [Value.oneCell']) (by omega) (by have := HL.out; unfold maxLen; omega) (by have := HL.out; omega) (by simp; omega) _ rfl ?_)
  case c1 =>
    intro j u hj
    match j, hj with
    | 0, hj => simp at hj; subst hj; simp [Addr.add]
    | 1, hj => simp at hj; subst hj; simp [Addr.add]
  intro g1 cp1 w5 ho hgr hat hlt
  have ls := HS.out
  have lqs : qs < w.heap.size := lt_of_blk ls.box
  have lqf : qf < w.heap.size := lt_of_blk ls.fr
  obtain ⟨n1, n2, n3⟩ := HH.out
  have m1 : g1 ≠ qs := by
    rcases hat with h | h
    · exact fun e => n1 (by rw [h, e])
    · omega
  have m2 : g1 ≠ qf := by
    rcases hat with h | h
    · exact fun e => n2 (by rw [h, e])
    · omega
  have m3 : g1 ≠ qo := by
    rcases hat with h | h
    · exact fun e => n3 (by rw [h, e])
    · omega
  have kb : ∀ b o, w.heap[b]? = some o → v.ownBlock ≠ some b → w5.heap[b]? = some o := fun b o hb hn => (hgr.block b (by have := lt_of_blk hb; simp; omega) (fun e => hn e.symm)).trans (blk_alloc hb _)
  have kB := OW.out.2
  have h0 : Below B w w5 := ⟨hgr.os, hgr.tape, hgr.output, by have := hgr.size; simp at this; omega, fun k hk => by
    have hne : some k ≠ v.ownBlock := fun e => by
      rcases kB with ⟨q, _⟩ | ⟨g, cap, cur, q, q3, _⟩
      · rw [q] at e; simp [Value.ownBlock] at e
      · rw [q] at e; simp [Value.ownBlock] at e; omega
    rw [hgr.block k (by simp; omega) hne]
    exact Below.heap_alloc w _ k (by omega)⟩
  have q1 := kb qs _ ls.box n1
  have q2 := kb qf _ ls.fr n2
  have q3 := kb qo _ HO.out n3
  have u1 := blk_cell q3 0 v rfl
  have u2 := blk_free q3 0
  have u3 := blk_cell q2 0 (.int .i64 (a : Nat)) rfl
  have u4 := blk_free q2 0
  have R1 : RS B ((w5.setCell ⟨qo, 0, none⟩ (.slice (some ⟨g1, 0, none⟩) (L.length + 1) cp1)).setCell ⟨qf, 0, none⟩ (.int .i64 (-1))) qs qf qo N (-1) (L ++ [(a, d)]) := by
    refine RS.setF (f := (a : Nat)) ⟨set_other q1 ls.so, set_other q2 ls.fo, ⟨_, set_blk q3 _, ?_, ?_, ?_, ?_⟩, ls.sf, ls.so, ls.fo, ls.b0, ls.b1, ls.b2⟩ (-1)
    · rw [prs_snoc, show (L ++ [(a, d)]).length = L.length + 1 by simp]
      exact own_set ho (by simp [Value.ownBlock]; exact m3)
    · simp [Value.ownBlock]; exact m1
    · simp [Value.ownBlock]; exact m2
    · simp [Value.ownBlock]; exact m3
  have R2 := Lib.hid R1
  have R3 := Lib.hid (below_set (below_set h0 (i := 0) ls.b2 (.slice (some ⟨g1, 0, none⟩) (L.length + 1) cp1)) (i := 0) ls.b1 (.int .i64 (-1)))
  have NE := ls.fo
  clear ho hgr hat hlt ls n1 n2 n3 m1 m2 m3 kb kB h0 q1 q2 q3 R1 y0 u0
  go_wp2
  go_end0
  exact ⟨rfl, by simpa using R2.out, R3.out⟩
end Go.Proofs.YtaaihcojedibeaaGreatDoor.CRng
end
section
/- Sets: the runs, by the loop. -/
namespace Go.Proofs.YtaaihcojedibeaaGreatDoor.CRuns
set_option maxRecDepth 100000
open Go.RowKit CMem CBits CSet CMake CRng Go.Proofs.YtaaihcojedibeaaGreatDoorW.PrintWords Go.Proofs.YtaaihcojedibeaaGreatDoorW.PrintLast Go.Proofs.YtaaihcojedibeaaGreatDoorW.PrintMore
set_option linter.unusedVariables false
set_option linter.unusedSimpArgs false

/-- behind the first k bytes: the runs that ended, and where the last one began (or -1) -/
def rst (N : Nat) : Nat → List (Nat × Nat) × Int
  | 0 => ([], -1)
  | k + 1 => if N.testBit k then ((rst N k).1, if (rst N k).2 < 0 then (k : Int) else (rst N k).2) else if (rst N k).2 < 0 then ((rst N k).1, -1) else ((rst N k).1 ++ [((rst N k).2.toNat, k - 1)], -1)
def runs (N : Nat) : List (Nat × Nat) := if (rst N 256).2 < 0 then (rst N 256).1 else (rst N 256).1 ++ [((rst N 256).2.toNat, 255)]
theorem rst_ok (N k : Nat) : -1 ≤ (rst N k).2 ∧ (rst N k).2 < k ∧ (rst N k).1.length ≤ k := by
  induction k with
  | zero => simp [rst]
  | succ k ih =>
    rw [rst]
    split
    · refine ⟨?_, ?_, by simp; omega⟩
      · simp only []; split <;> omega
      · simp only []; split <;> omega
    · split
      · exact ⟨by simp, by simp; omega, by simp; omega⟩
      · exact ⟨by simp, by simp; omega, by simp; omega⟩
set_option maxRecDepth 100000 in
set_option maxHeartbeats 6400000 in
theorem ranges_calls (N : Nat) (w : World) :
    Calls Tryz.prog 16 #[.agg (sc N)] w fun e w' => (∃ v, e = .returned v ∧ w'.ownsRow w.heap.size 54 2 v (runs N).length (prs (runs N))) ∧ Below w.heap.size w w' := by
  have hmf : ∀ (fn : Fn) (first cap : Array Value) (w : World), (Instr.makeFunc fn first cap).run Tryz.prog w = .ok (.func fn first cap) w := fun _ _ _ _ => rfl
  have HH := Lib.hid (fun c (hc : c < 256) W => has_calls N c hc W)
  have HS : RS w.heap.size (((w.alloc (.cells (sc N) 28)).alloc (.cells #[.slice none 0 0] 50)).alloc (.cells #[.int .i64 (-1)] 3)) w.heap.size (w.heap.size + 2) (w.heap.size + 1) N (-1) [] := by
    refine ⟨blk_alloc (blk_alloc (heap_alloc_new w _) _) _, blk3 w _ _ _ _, ⟨.slice none 0 0, blk_alloc (blk2 w _ _ _) _, ⟨rfl, .inl ⟨rfl, rfl⟩⟩, by simp [Value.ownBlock], by simp [Value.ownBlock], by simp [Value.ownBlock]⟩, by omega, by omega, by omega, by omega, by omega, by omega⟩
  have HB := Lib.hid (below3 w (.cells (sc N) 28) (.cells #[.slice none 0 0] 50) (.cells #[.int .i64 (-1)] 3))
  have HS := Lib.hid HS
  have hsc : sc N = #[.int .u64 (wd N 0 : Nat), .int .u64 (wd N 1 : Nat), .int .u64 (wd N 2 : Nat), .int .u64 (wd N 3 : Nat)] := rfl
  have HC := Lib.hid (show ∀ W : World, W.heap[w.heap.size]? = some (.cells (sc N) 28 (0, 0)) → W.heap[w.heap.size]? = some (.cells #[.int .u64 (wd N 0 : Nat), .int .u64 (wd N 1 : Nat), .int .u64 (wd N 2 : Nat), .int .u64 (wd N 3 : Nat)] 28 (0, 0)) from fun W H => H)
  rw [hsc] at HH HS HB ⊢
  clear hsc
  generalize wd N 0 = x0 at *
  generalize wd N 1 = x1 at *
  generalize wd N 2 = x2 at *
  generalize wd N 3 = x3 at *
  go_enter Tryz.func16, Tryz.ntmps16
  go_wp2
  generalize (((w.alloc (.cells #[.int .u64 x0, .int .u64 x1, .int .u64 x2, .int .u64 x3] 28)).alloc (.cells #[.slice none 0 0] 50)).alloc (.cells #[.int .i64 (-1)] 3)) = w3 at *
  rw [show w.heap.size + 1 + 1 = w.heap.size + 2 by omega]
  go_loopw [6, 8] (fun _ t wr => ∃ k : Nat, k ≤ 256 ∧ t = .int .i64 (k : Nat) ∧ Hid (RS w.heap.size wr w.heap.size (w.heap.size + 2) (w.heap.size + 1) N (rst N k).2 (rst N k).1) ∧ Hid (Below w.heap.size w wr)) (fun _ t _ => 256 - (intOf t).toNat)
  case atStart => exact ⟨0, by omega, rfl, HS, HB⟩
  case round =>
    clear HS HB
    obtain ⟨k, hk, rfl, HS, HB⟩ := hrel
    have ho := rst_ok N k
    by_cases h : k < 256
    · have hcell := HC.out _ HS.out.box
      have a0 := blk_cell hcell 0 (.int .u64 x0) rfl
      have a1 := blk_cell hcell 1 (.int .u64 x1) rfl
      have a2 := blk_cell hcell 2 (.int .u64 x2) rfl
      have a3 := blk_cell hcell 3 (.int .u64 x3) rfl
      have hstep : rst N (k + 1) = if N.testBit k then ((rst N k).1, if (rst N k).2 < 0 then (k : Int) else (rst N k).2) else if (rst N k).2 < 0 then ((rst N k).1, -1) else ((rst N k).1 ++ [((rst N k).2.toNat, k - 1)], -1) := rfl
      have HX := Lib.hid hstep
      have H1 := Lib.hid (HH.out k h)
      clear hcell hstep
      obtain ⟨L, hL⟩ : ∃ L, (rst N k).1 = L := ⟨_, rfl⟩
      obtain ⟨f, hf⟩ : ∃ f, (rst N k).2 = f := ⟨_, rfl⟩
      rw [hL, hf] at HX HS ho
      clear hL hf
      go_wp2_with fail
      refine (H1.out _).mono ?_
      rintro e w4 ⟨rfl, hb⟩
      have HS := Lib.hid (HS.out.below hb)
      have HB := Lib.hid (below_step HB.out hb)
      clear hb a0 a1 a2 a3
      cases hB : N.testBit k
      · rw [hB] at HX
        by_cases hf : f < 0
        · go_wp2_with fail
          refine (end_no _ _ _ _ _ N f (k : Int) L HS.out hf HB.out.size).mono ?_
          rintro e w5 ⟨rfl, hs, hb⟩
          have HS := Lib.hid hs
          have HB := Lib.hid (HB.out.trans hb)
          clear hs hb
          go_wp2
          go_roundw
          case rel => exact ⟨k + 1, by omega, by simp, by rw [HX.out]; simpa [hf] using HS, HB⟩
          case measure => simp [intOf]; omega
        · obtain ⟨a, rfl⟩ : ∃ a : Nat, f = (a : Int) := ⟨f.toNat, by omega⟩
          go_wp2_with fail
          refine (end_yes _ _ _ _ _ N a k L HS.out (by omega) (by omega) (by omega) (by omega) HB.out.size).mono ?_
          rintro e w5 ⟨rfl, hs, hb⟩
          have HS := Lib.hid hs
          have HB := Lib.hid (HB.out.trans hb)
          clear hs hb
          go_wp2
          go_roundw
          case rel => exact ⟨k + 1, by omega, by simp, (by (have hn : ¬ ((a : Int) < 0) := by omega); rw [HX.out]; simp only [Bool.false_eq_true, if_false, if_neg hn, Int.toNat_natCast]; exact HS), HB⟩
          case measure => simp [intOf]; omega
      · rw [hB] at HX
        have y0 := blk_cell HS.out.fr 0 (.int .i64 f) rfl
        have y1 := blk_free HS.out.fr 0
        by_cases hf : f < 0
        · have HS2 := Lib.hid (HS.out.setF (k : Int))
          have HB2 := Lib.hid (below_set HB.out (b := w.heap.size + 2) (i := 0) (by omega) (.int .i64 (k : Int)))
          go_wp2
          go_roundw
          case rel => exact ⟨k + 1, by omega, by simp, by rw [HX.out]; simpa [hf] using HS2, HB2⟩
          case measure => simp [intOf]; omega
        · go_wp2
          go_roundw
          case rel => exact ⟨k + 1, by omega, by simp, (by (have hn : ¬ (f < 0) := by omega); rw [HX.out]; simp only [if_true, if_neg hn]; exact HS), HB⟩
          case measure => simp [intOf]; omega
    · obtain rfl : k = 256 := by omega
      have hr : runs N = if (rst N 256).2 < 0 then (rst N 256).1 else (rst N 256).1 ++ [((rst N 256).2.toNat, 255)] := rfl
      have HX := Lib.hid hr
      clear hr
      obtain ⟨L, hL⟩ : ∃ L, (rst N 256).1 = L := ⟨_, rfl⟩
      obtain ⟨f, hf⟩ : ∃ f, (rst N 256).2 = f := ⟨_, rfl⟩
      rw [hL, hf] at HX HS ho
      clear hL hf
      by_cases hf : f < 0
      · go_wp2_with fail
        refine (end_no _ _ _ _ _ N f 256 L HS.out hf HB.out.size).mono ?_
        rintro e w5 ⟨rfl, hs, hb⟩
        obtain ⟨v, v1, v2, _⟩ := hs.own
        have u0 := blk_cell v1 0 v rfl
        have HV := Lib.hid v2
        have HB := Lib.hid (HB.out.trans hb)
        clear hs hb v1 v2
        go_wp2
        go_ret
        exact ⟨⟨v, rfl, by rw [HX.out, if_pos hf]; exact HV.out⟩, HB.out⟩
      · obtain ⟨a, rfl⟩ : ∃ a : Nat, f = (a : Int) := ⟨f.toNat, by omega⟩
        go_wp2_with fail
        refine (end_yes _ _ _ _ _ N a 256 L HS.out (by omega) (by omega) (by omega) (by omega) HB.out.size).mono ?_
        rintro e w5 ⟨rfl, hs, hb⟩
        obtain ⟨v, v1, v2, _⟩ := hs.own
        have u0 := blk_cell v1 0 v rfl
        have HV := Lib.hid v2
        have HB := Lib.hid (HB.out.trans hb)
        clear hs hb v1 v2
        go_wp2
        go_ret
        exact ⟨⟨v, rfl, by rw [HX.out, if_neg (by omega), Int.toNat_natCast]; exact HV.out⟩, HB.out⟩
end Go.Proofs.YtaaihcojedibeaaGreatDoor.CRuns
end
section
/- How many bits: byte by byte. -/
namespace Go.Proofs.YtaaihcojedibeaaGreatDoor.CPop
set_option maxRecDepth 100000
open CBits

theorem and_split (a b c d : Nat) (hc : c < 256) (hd : d < 256) : (256 * a + c) &&& (256 * b + d) = 256 * (a &&& b) + (c &&& d) := by
  have hcd : c &&& d < 256 := Nat.lt_of_le_of_lt Nat.and_le_left hc
  apply Nat.eq_of_testBit_eq
  intro i
  rw [show (256 : Nat) = 2 ^ 8 by decide] at *
  rw [Nat.testBit_and, Nat.testBit_two_pow_mul_add _ hc, Nat.testBit_two_pow_mul_add _ hd, Nat.testBit_two_pow_mul_add _ hcd]
  by_cases h : i < 8
  · simp [h]
  · simp [h]
/-- the same byte, n times -/
def rep (k : Nat) : Nat → Nat
  | 0 => 0
  | n + 1 => 256 * rep k n + k
/-- the digits of base 256, each turned by f -/
def dig (f : Nat → Nat) : Nat → Nat → Nat
  | 0, _ => 0
  | n + 1, x => 256 * dig f n (x / 256) + f (x % 256)
def s1 (n x : Nat) : Nat := (x / 2 &&& rep 85 n) + (x &&& rep 85 n)
def s2 (n x : Nat) : Nat := (x / 4 &&& rep 51 n) + (x &&& rep 51 n)
def s3 (n x : Nat) : Nat := (x / 16 + x) &&& rep 15 n
def t1 (b : Nat) : Nat := (b / 2 &&& 85) + (b &&& 85)
def t2 (b : Nat) : Nat := (b / 4 &&& 51) + (b &&& 51)
def t3 (b : Nat) : Nat := (b / 16 + b) &&& 15
theorem low1 : ∀ (e : Fin 2) (b : Fin 256), (e.val * 128 + b.val / 2) &&& 85 = b.val / 2 &&& 85 := by decide +kernel
theorem low2 : ∀ (e : Fin 4) (b : Fin 256), (e.val * 64 + b.val / 4) &&& 51 = b.val / 4 &&& 51 := by decide +kernel
theorem low3 : ∀ (e : Fin 5) (b : Fin 256), b.val / 16 ≤ 4 → b.val % 16 ≤ 4 → (e.val * 16 + b.val / 16 + b.val) &&& 15 = (b.val / 16 + b.val) &&& 15 ∧ e.val * 16 + b.val / 16 + b.val < 256 := by decide +kernel
theorem s1_dig (n x : Nat) (h : x < 256 ^ n) : s1 n x = dig t1 n x := by
  induction n generalizing x with
  | zero => simp [s1, dig, rep]
  | succ n ih =>
    have hq : x / 256 < 256 ^ n := by rw [Nat.pow_succ] at h; omega
    have hx : x = 256 * (x / 256) + x % 256 := by omega
    have h2 : x / 2 = 256 * (x / 256 / 2) + (x / 256 % 2 * 128 + x % 256 / 2) := by omega
    unfold s1 dig rep
    have := ih (x / 256) hq
    have l := low1 ⟨x / 256 % 2, by omega⟩ ⟨x % 256, by omega⟩
    simp only [] at l
    unfold s1 at this
    rw [← this, h2]
    conv => lhs; arg 2; arg 1; rw [hx]
    rw [and_split _ _ _ _ (by omega) (by decide), and_split _ _ _ _ (by omega) (by decide), l]
    unfold t1
    omega
theorem s2_dig (n x : Nat) (h : x < 256 ^ n) : s2 n x = dig t2 n x := by
  induction n generalizing x with
  | zero => simp [s2, dig, rep]
  | succ n ih =>
    have hq : x / 256 < 256 ^ n := by rw [Nat.pow_succ] at h; omega
    have hx : x = 256 * (x / 256) + x % 256 := by omega
    have h2 : x / 4 = 256 * (x / 256 / 4) + (x / 256 % 4 * 64 + x % 256 / 4) := by omega
    unfold s2 dig rep
    have := ih (x / 256) hq
    have l := low2 ⟨x / 256 % 4, by omega⟩ ⟨x % 256, by omega⟩
    simp only [] at l
    unfold s2 at this
    rw [← this, h2]
    conv => lhs; arg 2; arg 1; rw [hx]
    rw [and_split _ _ _ _ (by omega) (by decide), and_split _ _ _ _ (by omega) (by decide), l]
    unfold t2
    omega
theorem dig_lt (f : Nat → Nat) (hf : ∀ b, b < 256 → f b < 256) (n x : Nat) : dig f n x < 256 ^ n := by
  induction n generalizing x with
  | zero => simp [dig]
  | succ n ih =>
    have := ih (x / 256)
    have := hf (x % 256) (by omega)
    rw [dig, Nat.pow_succ]
    omega
theorem dig_dig (f g : Nat → Nat) (hf : ∀ b, b < 256 → f b < 256) (n x : Nat) : dig g n (dig f n x) = dig (fun b => g (f b)) n x := by
  induction n generalizing x with
  | zero => rfl
  | succ n ih =>
    have := hf (x % 256) (by omega)
    rw [dig, dig, dig, show (256 * dig f n (x / 256) + f (x % 256)) / 256 = dig f n (x / 256) by omega, show (256 * dig f n (x / 256) + f (x % 256)) % 256 = f (x % 256) by omega, ih]
theorem s3_dig (f : Nat → Nat) (hf : ∀ b, b < 256 → f b < 256 ∧ f b / 16 ≤ 4 ∧ f b % 16 ≤ 4) (n x : Nat) : s3 n (dig f n x) = dig (fun b => t3 (f b)) n x := by
  induction n generalizing x with
  | zero => simp [s3, dig, rep]
  | succ n ih =>
    have hc := hf (x % 256) (by omega)
    have hnext : dig f n (x / 256) % 16 ≤ 4 := by
      cases n with
      | zero => simp [dig]
      | succ n =>
        have := hf (x / 256 % 256) (by omega)
        rw [dig]
        omega
    have h1 := ih (x / 256)
    unfold s3 at h1
    rw [dig, dig, ← h1]
    generalize dig f n (x / 256) = y at *
    generalize f (x % 256) = c at *
    have h2 : (256 * y + c) / 16 + (256 * y + c) = 256 * (y / 16 + y) + (y % 16 * 16 + c / 16 + c) := by omega
    have h3 := low3 ⟨y % 16, by omega⟩ ⟨c, hc.1⟩ hc.2.1 hc.2.2
    simp only [] at h3
    show ((256 * y + c) / 16 + (256 * y + c)) &&& (256 * rep 15 n + 15) = 256 * ((y / 16 + y) &&& rep 15 n) + t3 c
    rw [h2, and_split _ _ _ _ h3.2 (by decide), h3.1]
    rfl
theorem t1_ok : ∀ b : Fin 256, t1 b.val < 256 := by decide +kernel
theorem t2_ok : ∀ b : Fin 256, t2 (t1 b.val) < 256 ∧ t2 (t1 b.val) / 16 ≤ 4 ∧ t2 (t1 b.val) % 16 ≤ 4 := by decide +kernel
theorem t3_ok : ∀ b : Fin 256, t3 (t2 (t1 b.val)) = Go.Lib.popAux 8 b.val ∧ Go.Lib.popAux 8 b.val ≤ 8 := by decide +kernel
theorem dig_congr (f g : Nat → Nat) (h : ∀ b, b < 256 → f b = g b) (n x : Nat) : dig f n x = dig g n x := by
  induction n generalizing x with
  | zero => rfl
  | succ n ih => rw [dig, dig, ih, h _ (by omega)]
theorem swar (x : Nat) (h : x < 256 ^ 8) : s3 8 (s2 8 (s1 8 x)) = dig (Go.Lib.popAux 8) 8 x := by
  have e1 := s1_dig 8 x h
  have l1 := dig_lt t1 (fun b hb => t1_ok ⟨b, hb⟩) 8 x
  rw [e1, s2_dig 8 _ l1, dig_dig t1 t2 (fun b hb => t1_ok ⟨b, hb⟩), s3_dig (fun b => t2 (t1 b)) (fun b hb => t2_ok ⟨b, hb⟩)]
  exact dig_congr _ _ (fun b hb => (t3_ok ⟨b, hb⟩).1) 8 x
theorem pop_step (f x : Nat) : Go.Lib.popAux (f + 8) x = Go.Lib.popAux 8 (x % 256) + Go.Lib.popAux f (x / 256) := by
  simp only [Go.Lib.popAux]
  have e : x / 2 / 2 / 2 / 2 / 2 / 2 / 2 / 2 = x / 256 := by omega
  rw [e]
  generalize Go.Lib.popAux f (x / 256) = r
  omega
set_option linter.unusedVariables false in
theorem pop_bytes (x : Nat) (h : x < 256 ^ 8) : ∃ p0 p1 p2 p3 p4 p5 p6 p7 : Nat, p0 ≤ 8 ∧ p1 ≤ 8 ∧ p2 ≤ 8 ∧ p3 ≤ 8 ∧ p4 ≤ 8 ∧ p5 ≤ 8 ∧ p6 ≤ 8 ∧ p7 ≤ 8 ∧
    dig (Go.Lib.popAux 8) 8 x = 256 * (256 * (256 * (256 * (256 * (256 * (256 * p7 + p6) + p5) + p4) + p3) + p2) + p1) + p0 ∧ Go.Lib.onesCount x = p0 + p1 + p2 + p3 + p4 + p5 + p6 + p7 := by
  have hp : ∀ b, b < 256 → Go.Lib.popAux 8 b ≤ 8 := fun b hb => (t3_ok ⟨b, hb⟩).2
  refine ⟨Go.Lib.popAux 8 ((x) % 256), Go.Lib.popAux 8 ((x / 256) % 256), Go.Lib.popAux 8 ((x / 256 / 256) % 256), Go.Lib.popAux 8 ((x / 256 / 256 / 256) % 256), Go.Lib.popAux 8 ((x / 256 / 256 / 256 / 256) % 256), Go.Lib.popAux 8 ((x / 256 / 256 / 256 / 256 / 256) % 256), Go.Lib.popAux 8 ((x / 256 / 256 / 256 / 256 / 256 / 256) % 256), Go.Lib.popAux 8 ((x / 256 / 256 / 256 / 256 / 256 / 256 / 256) % 256), hp _ (Nat.mod_lt _ (by decide)), hp _ (Nat.mod_lt _ (by decide)), hp _ (Nat.mod_lt _ (by decide)), hp _ (Nat.mod_lt _ (by decide)), hp _ (Nat.mod_lt _ (by decide)), hp _ (Nat.mod_lt _ (by decide)), hp _ (Nat.mod_lt _ (by decide)), hp _ (Nat.mod_lt _ (by decide)), ?_, ?_⟩
  · simp only [dig, Nat.mul_zero, Nat.zero_add]
  · show Go.Lib.popAux 64 x = _
    have e0 : Go.Lib.popAux 64 (x) = Go.Lib.popAux 8 ((x) % 256) + Go.Lib.popAux 56 (x / 256) := pop_step 56 (x)
    have e1 : Go.Lib.popAux 56 (x / 256) = Go.Lib.popAux 8 ((x / 256) % 256) + Go.Lib.popAux 48 (x / 256 / 256) := pop_step 48 (x / 256)
    have e2 : Go.Lib.popAux 48 (x / 256 / 256) = Go.Lib.popAux 8 ((x / 256 / 256) % 256) + Go.Lib.popAux 40 (x / 256 / 256 / 256) := pop_step 40 (x / 256 / 256)
    have e3 : Go.Lib.popAux 40 (x / 256 / 256 / 256) = Go.Lib.popAux 8 ((x / 256 / 256 / 256) % 256) + Go.Lib.popAux 32 (x / 256 / 256 / 256 / 256) := pop_step 32 (x / 256 / 256 / 256)
    have e4 : Go.Lib.popAux 32 (x / 256 / 256 / 256 / 256) = Go.Lib.popAux 8 ((x / 256 / 256 / 256 / 256) % 256) + Go.Lib.popAux 24 (x / 256 / 256 / 256 / 256 / 256) := pop_step 24 (x / 256 / 256 / 256 / 256)
    have e5 : Go.Lib.popAux 24 (x / 256 / 256 / 256 / 256 / 256) = Go.Lib.popAux 8 ((x / 256 / 256 / 256 / 256 / 256) % 256) + Go.Lib.popAux 16 (x / 256 / 256 / 256 / 256 / 256 / 256) := pop_step 16 (x / 256 / 256 / 256 / 256 / 256)
    have e6 : Go.Lib.popAux 16 (x / 256 / 256 / 256 / 256 / 256 / 256) = Go.Lib.popAux 8 ((x / 256 / 256 / 256 / 256 / 256 / 256) % 256) + Go.Lib.popAux 8 (x / 256 / 256 / 256 / 256 / 256 / 256 / 256) := pop_step 8 (x / 256 / 256 / 256 / 256 / 256 / 256)
    have e7 : Go.Lib.popAux 8 (x / 256 / 256 / 256 / 256 / 256 / 256 / 256) = Go.Lib.popAux 8 ((x / 256 / 256 / 256 / 256 / 256 / 256 / 256) % 256) + Go.Lib.popAux 0 (x / 256 / 256 / 256 / 256 / 256 / 256 / 256 / 256) := pop_step 0 (x / 256 / 256 / 256 / 256 / 256 / 256 / 256)
    have z : Go.Lib.popAux 0 (x / 256 / 256 / 256 / 256 / 256 / 256 / 256 / 256) = 0 := rfl
    omega
/-- the last sums -/
theorem sums (p0 p1 p2 p3 p4 p5 p6 p7 y a b c : Nat) (h0 : p0 ≤ 8) (h1 : p1 ≤ 8) (h2 : p2 ≤ 8) (h3 : p3 ≤ 8) (h4 : p4 ≤ 8) (h5 : p5 ≤ 8) (h6 : p6 ≤ 8) (h7 : p7 ≤ 8)
    (hy : y = 256 * (256 * (256 * (256 * (256 * (256 * (256 * p7 + p6) + p5) + p4) + p3) + p2) + p1) + p0) (ha : a = y + y / 256) (hb : b = a + a / 65536) (hc : c = b + b / 4294967296) :
    a < 9223372036854775808 ∧ b < 9223372036854775808 ∧ c < 9223372036854775808 ∧ c % 128 = p0 + p1 + p2 + p3 + p4 + p5 + p6 + p7 := by
  have e1 : y / 256 = 256 * (256 * (256 * (256 * (256 * (256 * p7 + p6) + p5) + p4) + p3) + p2) + p1 := by omega
  have e2 : a / 65536 = 256 * (256 * (256 * (256 * (256 * p7 + (p6 + p7)) + (p5 + p6)) + (p4 + p5)) + (p3 + p4)) + (p2 + p3) := by omega
  have e3 : b = 256 * (256 * (256 * (256 * (256 * (256 * (256 * p7 + (p6 + p7)) + (p5 + p6 + p7)) + (p4 + p5 + p6 + p7)) + (p3 + p4 + p5 + p6)) + (p2 + p3 + p4 + p5)) + (p1 + p2 + p3 + p4)) + (p0 + p1 + p2 + p3) := by omega
  have e4 : b / 4294967296 = 256 * (256 * (256 * p7 + (p6 + p7)) + (p5 + p6 + p7)) + (p4 + p5 + p6 + p7) := by omega
  have hyl : y ≤ 578721382704613384 := by omega
  obtain ⟨B, hB⟩ : ∃ B, b = 256 * B + (p0 + p1 + p2 + p3) := ⟨_, e3⟩
  obtain ⟨C, hC⟩ : ∃ C, b / 4294967296 = 256 * C + (p4 + p5 + p6 + p7) := ⟨_, e4⟩
  clear e1 e2 e3 e4 hy
  have g1 : a < 9223372036854775808 := by omega
  have g2 : b < 9223372036854775808 := by clear hB hC; omega
  have g3 : c < 9223372036854775808 := by clear hB hC; omega
  clear ha hb hyl
  refine ⟨g1, g2, g3, ?_⟩
  rw [hC] at hc
  clear hC g1 g2 g3
  omega
end Go.Proofs.YtaaihcojedibeaaGreatDoor.CPop
end
section
/- Sets: how many, the least one. -/
namespace Go.Proofs.YtaaihcojedibeaaGreatDoor.CLen
set_option maxRecDepth 100000
open Go.RowKit CMem CBits CSet CMake CPop Go.Proofs.YtaaihcojedibeaaGreatDoorW.PrintWords Go.Proofs.YtaaihcojedibeaaGreatDoorW.PrintLast Go.Proofs.YtaaihcojedibeaaGreatDoorW.PrintMore
set_option linter.unusedVariables false
set_option linter.unusedSimpArgs false

theorem ones_walk (x A B y1 C D y2 z2 y3 y4 y5 y6 r : Int) (w : World) (hA : bits BinOp.and IntKind.u64 (x / 2) 6148914691236517205 = A) (hB : bits BinOp.and IntKind.u64 x 6148914691236517205 = B) (h1 : IntKind.u64.wrap (A + B) = y1)
    (hC : bits BinOp.and IntKind.u64 (y1 / 4) 3689348814741910323 = C) (hD : bits BinOp.and IntKind.u64 y1 3689348814741910323 = D) (h2 : IntKind.u64.wrap (C + D) = y2) (h3 : IntKind.u64.wrap (y2 / 16 + y2) = z2)
    (hE : bits BinOp.and IntKind.u64 z2 1085102592571150095 = y3) (h4 : IntKind.u64.wrap (y3 + y3 / 256) = y4) (h5 : IntKind.u64.wrap (y4 + y4 / 65536) = y5) (h6 : IntKind.u64.wrap (y5 + y5 / 4294967296) = y6) (h7 : wrap64 y6 = y6) (h8 : IntKind.i64.wrap y6 = y6)
    (hF : bits BinOp.and IntKind.i64 y6 127 = r) :
    Calls Tryz.prog 40 #[.int .u64 x] w fun e w' => e = .returned (.int .i64 r) ∧ w' = w := by
  go_enter Tryz.func40, Tryz.ntmps40
  go_wp2
  go_ret
  exact ⟨rfl, rfl⟩
theorem ones_calls (x : Nat) (hx : x < 18446744073709551616) (w : World) : Calls Tryz.prog 40 #[.int .u64 x] w fun e w' => e = .returned (.int .i64 (Go.Lib.onesCount x : Nat)) ∧ w' = w := by
  have hx' : x < 256 ^ 8 := by rw [show (256 : Nat) ^ 8 = 18446744073709551616 by decide]; exact hx
  obtain ⟨p0, p1, p2, p3, p4, p5, p6, p7, b0, b1, b2, b3, b4, b5, b6, b7, hd, ho⟩ := pop_bytes x hx'
  rw [← swar x hx'] at hd
  have r1 : rep 85 8 = 6148914691236517205 := by decide
  have r2 : rep 51 8 = 3689348814741910323 := by decide
  have r3 : rep 15 8 = 1085102592571150095 := by decide
  have l1 : s1 8 x < 18446744073709551616 := by
    rw [s1_dig 8 x hx']
    exact dig_lt t1 (fun b hb => t1_ok ⟨b, hb⟩) 8 x
  have l2 : s2 8 (s1 8 x) < 18446744073709551616 ∧ s2 8 (s1 8 x) / 16 + s2 8 (s1 8 x) < 18446744073709551616 := by
    have hA : s2 8 (s1 8 x) ≤ 3689348814741910323 + 3689348814741910323 := by
      unfold s2
      rw [r2]
      exact Nat.add_le_add Nat.and_le_right Nat.and_le_right
    omega
  obtain ⟨s, t, u, v⟩ := sums p0 p1 p2 p3 p4 p5 p6 p7 _ _ _ _ b0 b1 b2 b3 b4 b5 b6 b7 hd rfl rfl rfl
  have w1 : ∀ q : Nat, q < 18446744073709551616 → IntKind.u64.wrap (q : Int) = q := fun q h => u64w (by omega) (by omega)
  rw [ho, ← v]
  have e1 : s1 8 x = (x / 2 &&& 6148914691236517205) + (x &&& 6148914691236517205) := by unfold s1; rw [r1]
  have e2 : s2 8 (s1 8 x) = (s1 8 x / 4 &&& 3689348814741910323) + (s1 8 x &&& 3689348814741910323) := by
    conv => lhs; unfold s2
    rw [r2]
  have e3 : s3 8 (s2 8 (s1 8 x)) = (s2 8 (s1 8 x) / 16 + s2 8 (s1 8 x)) &&& 1085102592571150095 := by
    conv => lhs; unfold s3
    rw [r3]
  clear v hd ho b0 b1 b2 b3 b4 b5 b6 b7
  generalize s3 8 (s2 8 (s1 8 x)) = y3 at *
  generalize s2 8 (s1 8 x) = y2 at *
  generalize s1 8 x = y1 at *
  refine ones_walk (x : Int) ((x / 2 &&& 6148914691236517205 : Nat) : Int) ((x &&& 6148914691236517205 : Nat) : Int) (y1 : Int) ((y1 / 4 &&& 3689348814741910323 : Nat) : Int) ((y1 &&& 3689348814741910323 : Nat) : Int) (y2 : Int) ((y2 / 16 + y2 : Nat) : Int) (y3 : Int)
    ((y3 + y3 / 256 : Nat) : Int) ((y3 + y3 / 256 + (y3 + y3 / 256) / 65536 : Nat) : Int) ((y3 + y3 / 256 + (y3 + y3 / 256) / 65536 + (y3 + y3 / 256 + (y3 + y3 / 256) / 65536) / 4294967296 : Nat) : Int) _ w
    (u64_and_nat (x / 2) 6148914691236517205 (by omega) (by decide)) (u64_and_nat x 6148914691236517205 hx (by decide)) ?_ (u64_and_nat (y1 / 4) 3689348814741910323 (by omega) (by decide)) (u64_and_nat y1 3689348814741910323 l1 (by decide)) ?_ ?_
    ((u64_and_nat (y2 / 16 + y2) 1085102592571150095 l2.2 (by decide)).trans (by rw [e3])) ?_ ?_ ?_ ?_ ?_ ?_
  · rw [e1] at l1 ⊢; exact w1 _ l1
  · have := l2.1; rw [e2] at this ⊢; exact w1 _ this
  · exact w1 _ l2.2
  · exact w1 (y3 + y3 / 256) (by omega)
  · exact w1 (y3 + y3 / 256 + (y3 + y3 / 256) / 65536) (by omega)
  · exact w1 (y3 + y3 / 256 + (y3 + y3 / 256) / 65536 + (y3 + y3 / 256 + (y3 + y3 / 256) / 65536) / 4294967296) (by omega)
  · unfold wrap64; omega
  · simp only [IntKind.wrap, IntKind.signed, IntKind.bits]; simp; omega
  · rw [i64_and127]; omega
theorem ones_le (x : Nat) : Go.Lib.onesCount x ≤ 64 := by
  unfold Go.Lib.onesCount
  rw [pop_cnt]
  unfold cnt
  exact Nat.le_trans List.countP_le_length (by simp)
theorem len_calls (N : Nat) (w : World) : Calls Tryz.prog 17 #[.agg (sc N)] w fun e w' => e = .returned (.int .i64 (cnt N 256 : Nat)) ∧ Below w.heap.size w w' := by
  have c0 := Lib.hid (ones_calls (wd N 0) (wd_lt N 0))
  have c1 := Lib.hid (ones_calls (wd N 1) (wd_lt N 1))
  have c2 := Lib.hid (ones_calls (wd N 2) (wd_lt N 2))
  have c3 := Lib.hid (ones_calls (wd N 3) (wd_lt N 3))
  have l0 := ones_le (wd N 0)
  have l1 := ones_le (wd N 1)
  have l2 := ones_le (wd N 2)
  have l3 := ones_le (wd N 3)
  have HC := cnt_words N
  have hs : cnt N 256 = cnt N 256 := rfl
  unfold sc
  generalize Go.Lib.onesCount (wd N 0) = p0 at *
  generalize Go.Lib.onesCount (wd N 1) = p1 at *
  generalize Go.Lib.onesCount (wd N 2) = p2 at *
  generalize Go.Lib.onesCount (wd N 3) = p3 at *
  rw [← HC]
  clear HC hs
  generalize wd N 0 = x0 at *
  generalize wd N 1 = x1 at *
  generalize wd N 2 = x2 at *
  generalize wd N 3 = x3 at *
  have BA := Lib.hid (heap_alloc_new w (.cells #[.int .u64 x0, .int .u64 x1, .int .u64 x2, .int .u64 x3] 28))
  have HB := Lib.hid (below1 w (.cells #[.int .u64 x0, .int .u64 x1, .int .u64 x2, .int .u64 x3] 28))
  have I0 : ∀ W, (Instr.index 26 (.agg #[.int .u64 x0, .int .u64 x1, .int .u64 x2, .int .u64 x3]) (.int .i64 0)).run Tryz.prog W = .ok (.int .u64 x0) W := fun W => by kernel_rfl
  have I1 : ∀ W, (Instr.index 26 (.agg #[.int .u64 x0, .int .u64 x1, .int .u64 x2, .int .u64 x3]) (.int .i64 1)).run Tryz.prog W = .ok (.int .u64 x1) W := fun W => by kernel_rfl
  have I2 : ∀ W, (Instr.index 26 (.agg #[.int .u64 x0, .int .u64 x1, .int .u64 x2, .int .u64 x3]) (.int .i64 2)).run Tryz.prog W = .ok (.int .u64 x2) W := fun W => by kernel_rfl
  have I3 : ∀ W, (Instr.index 26 (.agg #[.int .u64 x0, .int .u64 x1, .int .u64 x2, .int .u64 x3]) (.int .i64 3)).run Tryz.prog W = .ok (.int .u64 x3) W := fun W => by kernel_rfl
  go_enter Tryz.func17, Tryz.ntmps17
  go_wp2
  go_loopw [3, 5, 8] (fun q v t wr => ∃ k : Nat, k ≤ 4 ∧ t = .int .i64 (k : Nat) ∧ q = .int .i64 ((if 0 < k then p0 else 0) + (if 1 < k then p1 else 0) + (if 2 < k then p2 else 0) + (if 3 < k then p3 else 0) : Nat) ∧ Hid (Below w.heap.size w wr)) (fun _ _ t _ => 4 - (intOf t).toNat)
  case atStart => exact ⟨0, by omega, rfl, rfl, HB⟩
  case round =>
    obtain ⟨k, hk, rfl, rfl, HB1⟩ := hrel
    clear HB
    have hc : k = 0 ∨ k = 1 ∨ k = 2 ∨ k = 3 ∨ k = 4 := by omega
    rcases hc with rfl | rfl | rfl | rfl | rfl
    · simp only [Nat.lt_irrefl, if_false, Nat.reduceLT, if_true, Nat.add_zero, Nat.zero_add]
      rw [show ((0 : Nat) : Int) = 0 from rfl]
      go_wp2_with (go_at_call 40; (with_reducible refine (c0.out _).mono ?_); rintro e w6 ⟨rfl, rfl⟩)
      go_roundw
      case rel => exact ⟨1, by omega, by simp, by simp, HB1⟩
      case measure => simp [intOf]
    · simp only [Nat.lt_irrefl, if_false, Nat.reduceLT, if_true, Nat.add_zero, Nat.zero_add]
      rw [show ((1 : Nat) : Int) = 1 from rfl]
      go_wp2_with (go_at_call 40; (with_reducible refine (c1.out _).mono ?_); rintro e w6 ⟨rfl, rfl⟩)
      go_roundw
      case rel => exact ⟨2, by omega, by simp, by simp, HB1⟩
      case measure => simp [intOf]
    · simp only [Nat.lt_irrefl, if_false, Nat.reduceLT, if_true, Nat.add_zero, Nat.zero_add]
      rw [show ((2 : Nat) : Int) = 2 from rfl]
      go_wp2_with (go_at_call 40; (with_reducible refine (c2.out _).mono ?_); rintro e w6 ⟨rfl, rfl⟩)
      go_roundw
      case rel => exact ⟨3, by omega, by simp, by simp, HB1⟩
      case measure => simp [intOf]
    · simp only [Nat.lt_irrefl, if_false, Nat.reduceLT, if_true, Nat.add_zero, Nat.zero_add]
      rw [show ((3 : Nat) : Int) = 3 from rfl]
      go_wp2_with (go_at_call 40; (with_reducible refine (c3.out _).mono ?_); rintro e w6 ⟨rfl, rfl⟩)
      go_roundw
      case rel => exact ⟨4, by omega, by simp, by simp, HB1⟩
      case measure => simp [intOf]
    · simp only [Nat.reduceLT, if_true]
      go_wp2
      go_ret
      exact ⟨rfl, HB1.out⟩
end Go.Proofs.YtaaihcojedibeaaGreatDoor.CLen
end
section
/- How trees are shown: the text, plain. -/
namespace Go.Proofs.YtaaihcojedibeaaGreatDoor.SSpec
open Go.RowKit CMem CBits CSet CRng CRuns DRow SText Q
set_option linter.unusedVariables false
set_option linter.unusedSimpArgs false
set_option maxRecDepth 100000
def num (n : Int) : ByteArray := ⟨(Lib.itoa n).toArray⟩
theorem num_size {n : Int} (h0 : -9223372036854775808 ≤ n) (h1 : n ≤ 9223372036854775807) : (num n).size ≤ 21 := by
  show (Lib.itoa n).toArray.size ≤ 21
  rw [List.size_toArray]
  exact Go.Lib.itoa_length_le n h0 h1
theorem txt_size (c : Nat) : (txt c).size ≤ 4 := by
  unfold txt
  split
  · exact Nat.le_of_lt_succ (by decide : 1 < 5)
  · rw [ByteArray.size_append, ByteArray.size_append]; exact Nat.le_refl 4
/-- what of a set's runs is shown -/
def sst (o : ByteArray) (p : Nat × Nat) : ByteArray := if p.1 < p.2 then o ++ txt p.1 ++ (⟨#[45]⟩ ++ txt p.2) else o ++ txt p.1
def rngs (L : List (Nat × Nat)) (o : ByteArray) : ByteArray := L.foldl sst o
theorem rngs_snoc (L : List (Nat × Nat)) (o : ByteArray) (k : Nat) (p : Nat × Nat) (h : L[k]? = some p) : rngs (L.take (k + 1)) o = sst (rngs (L.take k) o) p := by
  unfold rngs
  rw [List.take_add_one, h, List.foldl_append]
  rfl
theorem sst_size (o : ByteArray) (p : Nat × Nat) : (sst o p).size ≤ o.size + 9 := by
  have h1 := txt_size p.1
  have h2 := txt_size p.2
  unfold sst
  split
  · rw [ByteArray.size_append, ByteArray.size_append, ByteArray.size_append]
    show _ + _ + (1 + _) ≤ _
    omega
  · rw [ByteArray.size_append]; omega
theorem rngs_size : ∀ (L : List (Nat × Nat)) (o : ByteArray), (rngs L o).size ≤ o.size + 9 * L.length
  | [], o => Nat.le_refl _
  | p :: r, o => by
    have h1 := rngs_size r (sst o p)
    have h2 := sst_size o p
    show (rngs r (sst o p)).size ≤ _
    rw [List.length_cons]
    omega
theorem rst_rng (N : Nat) : ∀ k, k ≤ 256 → ∀ p ∈ (rst N k).1, p.1 < 256 ∧ p.2 < 256
  | 0, _, p, h => by simp [rst] at h
  | k + 1, hk, p, h => by
    have ih := rst_rng N k (by omega)
    have ho := rst_ok N k
    rw [rst] at h
    split at h
    · exact ih p h
    · split at h
      · exact ih p h
      · simp only [List.mem_append, List.mem_singleton] at h
        rcases h with h | h
        · exact ih p h
        · subst h
          exact ⟨by show (rst N k).2.toNat < 256; omega, by show k - 1 < 256; omega⟩
theorem runs_rng (N : Nat) : ∀ p ∈ runs N, p.1 < 256 ∧ p.2 < 256 := by
  intro p h
  have ho := rst_ok N 256
  unfold runs at h
  split at h
  · exact rst_rng N 256 (Nat.le_refl _) p h
  · simp only [List.mem_append, List.mem_singleton] at h
    rcases h with h | h
    · exact rst_rng N 256 (Nat.le_refl _) p h
    · subst h
      exact ⟨by show (rst N 256).2.toNat < 256; omega, by show 255 < 256; omega⟩
theorem runs_len (N : Nat) : (runs N).length ≤ 257 := by
  have ho := rst_ok N 256
  unfold runs
  split
  · omega
  · rw [List.length_append]; simp; omega
def setB (N : Nat) : ByteArray := if (runs N).length = 0 then ⟨#[91, 94, 92, 120, 48, 48, 45, 92, 120, 102, 102, 93]⟩ else if cnt N 256 = 1 then txt ((runs N).getD 0 (0, 0)).1 else rngs (runs N) ⟨#[91]⟩ ++ ⟨#[93]⟩
theorem setB_size (N : Nat) : (setB N).size ≤ 2400 := by
  unfold setB
  split
  · exact Nat.le_of_lt_succ (by decide : 12 < 2401)
  · split
    · have := txt_size ((runs N).getD 0 (0, 0)).1; omega
    · rw [ByteArray.size_append]
      have h1 := rngs_size (runs N) ⟨#[91]⟩
      have h2 := runs_len N
      have e1 : (⟨#[91]⟩ : ByteArray).size = 1 := rfl
      have e2 : (⟨#[93]⟩ : ByteArray).size = 1 := rfl
      omega
/-- the set's number -/
def nw (s : S28) : Nat := s.f0.f0.toNat + 2 ^ 64 * (s.f0.f1.toNat + 2 ^ 64 * (s.f0.f2.toNat + 2 ^ 64 * s.f0.f3.toNat))
def in64 (x : Int) : Prop := 0 ≤ x ∧ x < 18446744073709551616
/-- a node's numbers are those of a program -/
def OkN (x : S49) : Prop := in64 x.f3.f0.f0 ∧ in64 x.f3.f0.f1 ∧ in64 x.f3.f0.f2 ∧ in64 x.f3.f0.f3 ∧ (-9223372036854775808 ≤ x.f7 ∧ x.f7 ≤ 9223372036854775807)
theorem sc_nw (s : S28) (h : in64 s.f0.f0 ∧ in64 s.f0.f1 ∧ in64 s.f0.f2 ∧ in64 s.f0.f3) : sc (nw s) = #[.int .u64 s.f0.f0, .int .u64 s.f0.f1, .int .u64 s.f0.f2, .int .u64 s.f0.f3] := by
  obtain ⟨⟨a, b, c, d⟩⟩ := s
  simp only [in64] at h
  obtain ⟨⟨a0, a1⟩, ⟨b0, b1⟩, ⟨c0, c1⟩, d0, d1⟩ := h
  obtain ⟨a, rfl⟩ := Int.eq_ofNat_of_zero_le a0
  obtain ⟨b, rfl⟩ := Int.eq_ofNat_of_zero_le b0
  obtain ⟨c, rfl⟩ := Int.eq_ofNat_of_zero_le c0
  obtain ⟨d, rfl⟩ := Int.eq_ofNat_of_zero_le d0
  have e : nw ⟨⟨(a : Int), b, c, d⟩⟩ = a + 2 ^ 64 * (b + 2 ^ 64 * (c + 2 ^ 64 * d)) := by simp [nw]
  have w0 : wd (a + 2 ^ 64 * (b + 2 ^ 64 * (c + 2 ^ 64 * d))) 0 = a := by unfold wd; omega
  have w1 : wd (a + 2 ^ 64 * (b + 2 ^ 64 * (c + 2 ^ 64 * d))) 1 = b := by unfold wd; omega
  have w2 : wd (a + 2 ^ 64 * (b + 2 ^ 64 * (c + 2 ^ 64 * d))) 2 = c := by unfold wd; omega
  have w3 : wd (a + 2 ^ 64 * (b + 2 ^ 64 * (c + 2 ^ 64 * d))) 3 = d := by unfold wd; omega
  rw [e]
  unfold sc
  rw [w0, w1, w2, w3]
def mode (o : Int) : ByteArray := if o = 0 then ⟨#[]⟩ else if o = 1 then ⟨#[63]⟩ else ⟨#[43]⟩
def often (mi ma o : Int) : ByteArray :=
  if mi = 0 ∧ ma = -1 then ⟨#[42]⟩ ++ mode o else if mi = 1 ∧ ma = -1 then ⟨#[43]⟩ ++ mode o else if mi = 0 ∧ ma = 1 then ⟨#[63]⟩ ++ mode o
  else if mi = ma then ⟨#[123]⟩ ++ num mi ++ ⟨#[125]⟩ ++ mode o else if ma = -1 then ⟨#[123]⟩ ++ num mi ++ ⟨#[44, 125]⟩ ++ mode o
  else ⟨#[123]⟩ ++ num mi ++ ⟨#[44]⟩ ++ num ma ++ ⟨#[125]⟩ ++ mode o
def back (n : Int) (fo : Bool) : ByteArray := if fo = true then ⟨#[40, 63, 105, 58]⟩ ++ (⟨#[92]⟩ ++ num n) ++ ⟨#[41]⟩ else ⟨#[92]⟩ ++ num n
/-- a node's pattern, in parentheses, if it is of one of some kinds -/
def wi (L : List S49) (g : Int → ByteArray) (i : Int) (ks : List Int) : ByteArray := if (rd_T49 L i).f0 ∈ ks then ⟨#[40, 63, 58]⟩ ++ g i ++ ⟨#[41]⟩ else g i
/-- how a kind is shown: what is ahead -/
def head (k : Int) : ByteArray :=
  if k = 0 then ⟨#[40, 63, 58, 41]⟩ else if k = 2 then ⟨#[94]⟩ else if k = 3 then ⟨#[36]⟩ else if k = 4 then ⟨#[40, 63, 109, 58, 94, 41]⟩ else if k = 5 then ⟨#[40, 63, 109, 58, 36, 41]⟩
  else if k = 6 then ⟨#[92, 98]⟩ else if k = 7 then ⟨#[92, 66]⟩ else if k = 11 then ⟨#[40]⟩ else if k = 13 then ⟨#[40, 63, 61]⟩ else if k = 14 then ⟨#[40, 63, 33]⟩ else if k = 15 then ⟨#[40, 63, 60, 61]⟩
  else if k = 16 then ⟨#[40, 63, 60, 33]⟩ else if k = 17 then ⟨#[40, 63, 62]⟩ else ⟨#[]⟩
/-- and what follows -/
def body (L : List S49) (g : Int → ByteArray) (x : S49) : ByteArray :=
  if x.f0 = 1 then setB (nw x.f3) else if x.f0 = 12 then back x.f7 x.f8
  else if x.f0 = 8 then wi L g x.f1 [9] ++ wi L g x.f2 [8, 9] else if x.f0 = 9 then g x.f1 ++ ⟨#[124]⟩ ++ wi L g x.f2 [9]
  else if x.f0 = 10 then wi L g x.f1 [8, 9, 10] ++ often x.f4 x.f5 x.f6
  else if x.f0 = 11 ∨ 13 ≤ x.f0 then g x.f1 ++ ⟨#[41]⟩ else ⟨#[]⟩
def shwf (L : List S49) : Nat → Int → ByteArray
  | 0, _ => ⟨#[]⟩
  | f + 1, i => head (rd_T49 L i).f0 ++ body L (shwf L f) (rd_T49 L i)
end Go.Proofs.YtaaihcojedibeaaGreatDoor.SSpec
end
section
/- Of: the set of a text's bytes. -/
namespace Go.Proofs.YtaaihcojedibeaaGreatDoor.COf
set_option maxRecDepth 100000
open Go.RowKit CMem CBits CSet CMake Go.Proofs.YtaaihcojedibeaaGreatDoorW.PrintWords Go.Proofs.YtaaihcojedibeaaGreatDoorW.PrintLast Go.Proofs.YtaaihcojedibeaaGreatDoorW.PrintMore
set_option linter.unusedVariables false
set_option linter.unusedSimpArgs false

/-- the byte at k -/
def bat (t : ByteArray) (k : Nat) : Nat := (t.data.toList.getD k 0).toNat
theorem bat_lt (t : ByteArray) (k : Nat) : bat t k < 256 := (t.data.toList.getD k 0).toNat_lt
/-- the set of the first k bytes -/
def tx (t : ByteArray) : Nat → Nat
  | 0 => 0
  | k + 1 => tx t k ||| 2 ^ bat t k
theorem tb_tx (t : ByteArray) (k i : Nat) : (tx t k).testBit i = true ↔ ∃ j, j < k ∧ bat t j = i := by
  induction k with
  | zero => simp [tx]
  | succ k ih =>
    rw [tx, Nat.testBit_or, Bool.or_eq_true, ih, Nat.testBit_two_pow, decide_eq_true_eq]
    constructor
    · rintro (⟨j, h1, h2⟩ | h)
      · exact ⟨j, by omega, h2⟩
      · exact ⟨k, by omega, h⟩
    · rintro ⟨j, h1, h2⟩
      by_cases h : j = k
      · exact .inr (h ▸ h2)
      · exact .inl ⟨j, by omega, h2⟩
set_option maxHeartbeats 1600000 in
theorem of_calls (t : ByteArray) (ht : t.size ≤ 140737488351232) (w : World) :
    Calls Tryz.prog 24 #[.string t] w fun e w' => e = .returned (.agg (sc (tx t t.size))) ∧ Below w.heap.size w w' := by
  have BR := blk_alloc (heap_alloc_new w (.cells #[.int .u64 0, .int .u64 0, .int .u64 0, .int .u64 0] 28)) (.cells #[.int .u64 0, .int .u64 0, .int .u64 0, .int .u64 0] 28)
  have BS : ((w.alloc (.cells #[.int .u64 0, .int .u64 0, .int .u64 0, .int .u64 0] 28)).alloc (.cells #[.int .u64 0, .int .u64 0, .int .u64 0, .int .u64 0] 28)).heap[w.heap.size + 1]? = some (.cells (sc 0) 28 (0, 0)) := by rw [sc_zero]; exact blk2 w _ _ _
  have HB := below2 w (.cells #[.int .u64 0, .int .u64 0, .int .u64 0, .int .u64 0] 28) (.cells #[.int .u64 0, .int .u64 0, .int .u64 0, .int .u64 0] 28)
  have HZ : ((w.alloc (.cells #[.int .u64 0, .int .u64 0, .int .u64 0, .int .u64 0] 28)).alloc (.cells #[.int .u64 0, .int .u64 0, .int .u64 0, .int .u64 0] 28)).heap.size = w.heap.size + 2 := by simp
  have BR := Lib.hid BR
  have BS := Lib.hid BS
  have HB := Lib.hid HB
  have HZ := Lib.hid HZ
  have kb := fun W => print_bytes (P := Tryz.prog) 9 80 5 Tryz.underlying9 Tryz.underlying80 Tryz.underlying5 t W
  go_enter Tryz.func24, Tryz.ntmps24
  go_wp2
  generalize ((w.alloc (.cells #[.int .u64 0, .int .u64 0, .int .u64 0, .int .u64 0] 28)).alloc (.cells #[.int .u64 0, .int .u64 0, .int .u64 0, .int .u64 0] 28)) = w2 at *
  have hz := HZ.out
  have HC := Lib.hid (fun i hi => Lib.bytesWorld_cell w2 5 t i hi)
  have BR := Lib.hid ((Lib.bytesWorld_at_old w2 5 t w.heap.size (by omega)).trans BR.out)
  have BS := Lib.hid ((Lib.bytesWorld_at_old w2 5 t (w.heap.size + 1) (by omega)).trans BS.out)
  have HB := Lib.hid (bytes_below HB.out HB.out.size 5 t)
  generalize (Lib.bytesWorld w2 5 t) = w3 at *
  rw [hz] at HC
  clear HZ kb
  go_loopw [9] (fun x wr => ∃ k : Nat, k ≤ t.size ∧ x = .int .i64 (k : Nat) ∧ Hid (wr.heap[w.heap.size]? = some (.cells #[.int .u64 0, .int .u64 0, .int .u64 0, .int .u64 0] 28 (0, 0))) ∧ Hid (wr.heap[w.heap.size + 1]? = some (.cells (sc (tx t k)) 28 (0, 0))) ∧ Hid (∀ i, i < t.size → wr.cell? ⟨w.heap.size + 2, i, none⟩ = some (.int .u8 (bat t i : Nat))) ∧ Hid (Below w.heap.size w wr)) (fun x _ => t.size - (intOf x).toNat)
  case atStart => exact ⟨0, by omega, rfl, BR, BS, HC, HB⟩
  case round =>
    obtain ⟨k, hk, rfl, BR1, BS1, HC1, HB1⟩ := hrel
    clear BR BS HC HB
    by_cases h : k < t.size
    · have hlt : (k : Int) < (t.size : Int) := by omega
      have hc := HC1.out k h
      have hb := bat_lt t k
      have HA := Lib.hid (add_calls (tx t k) (bat t k) (w.heap.size + 1) hb)
      have HT := Lib.hid (show tx t (k + 1) = tx t k ||| 2 ^ bat t k from rfl)
      generalize bat t k = c at HA HT hc
      clear hb
      go_wp2_with fail
      refine (HA.out _ BS1.out).mono ?_
      rintro e w4 ⟨rfl, hq, ho⟩
      have HR := Lib.hid (ho.blk BR1.out (by omega))
      have HB2 := Lib.hid (Only.below HB1.out ho (by omega) HB1.out.size)
      have HQ := Lib.hid hq
      have HC2 := Lib.hid (show ∀ i, i < t.size → w4.cell? ⟨w.heap.size + 2, i, none⟩ = some (.int .u8 (bat t i : Nat)) from fun i hi => (World.cell?_of_block (ho.block (w.heap.size + 2) (World.block_lt_of_cell? _ _ (HC1.out i hi)) (by omega))).trans (HC1.out i hi))
      clear hq ho hc
      go_wp2
      go_roundw
      case rel => exact ⟨k + 1, by omega, by simp, HR, by rw [HT.out]; exact HQ, HC2, HB2⟩
      case measure => simp [intOf]; omega
    · obtain rfl : k = t.size := by omega
      have hq := BS1.out
      have HE := Lib.hid (show sc (tx t t.size) = #[.int .u64 (wd (tx t t.size) 0 : Nat), .int .u64 (wd (tx t t.size) 1 : Nat), .int .u64 (wd (tx t t.size) 2 : Nat), .int .u64 (wd (tx t t.size) 3 : Nat)] from rfl)
      unfold sc at hq
      generalize wd (tx t t.size) 0 = x0 at *
      generalize wd (tx t t.size) 1 = x1 at *
      generalize wd (tx t t.size) 2 = x2 at *
      generalize wd (tx t t.size) 3 = x3 at *
      have y0 := blk_cell hq 0 (.int .u64 x0) rfl
      have y1 := blk_cell hq 1 (.int .u64 x1) rfl
      have y2 := blk_cell hq 2 (.int .u64 x2) rfl
      have y3 := blk_cell hq 3 (.int .u64 x3) rfl
      obtain ⟨z0, z1, z2, z3, f0, f1, f2, f3, zz⟩ := set_four BR1.out (.int .u64 x0) (.int .u64 x1) (.int .u64 x2) (.int .u64 x3)
      have ZZ := Lib.hid zz
      clear zz hq BS1
      go_wp2
      refine bodyPost_ret (results_cell_row rfl _ _ w.heap.size 28 #[.int .u64 x0, .int .u64 x1, .int .u64 x2, .int .u64 x3] (0, 0) _ rfl ZZ.out Tryz.underlying28 rfl (by kernel_rfl)) rfl ?_
      exact ⟨by rw [HE.out], below_four HB1.out (Nat.le_refl _) _ _ _ _⟩
end Go.Proofs.YtaaihcojedibeaaGreatDoor.COf
end
section
/- The document's sets: rows of 256 answers. -/
namespace Go.Proofs.YtaaihcojedibeaaGreatDoor.CArr
open Go.RowKit CMem CBits CSet CMake Go.Proofs.YtaaihcojedibeaaGreatDoorW.PrintWords Go.Proofs.YtaaihcojedibeaaGreatDoorW.PrintLast Go.Proofs.YtaaihcojedibeaaGreatDoorW.PrintMore
set_option linter.unusedVariables false
set_option linter.unusedSimpArgs false
set_option maxRecDepth 100000
/-- 256 answers -/
def cb (f : Nat → Bool) : Array Value := Array.ofFn (n := 256) fun i => .bool (f i)
theorem cb_size (f : Nat → Bool) : (cb f).size = 256 := by unfold cb; exact Array.size_ofFn
theorem cb_at (f : Nat → Bool) (i : Nat) (h : i < 256) : (cb f)[i]? = some (.bool (f i)) := by
  unfold cb
  rw [Array.getElem?_ofFn, dif_pos h]
theorem cb_ext {f g : Nat → Bool} (h : ∀ i, i < 256 → f i = g i) : cb f = cb g := by
  apply Array.ext_getElem?
  intro i
  by_cases hi : i < 256
  · rw [cb_at _ _ hi, cb_at _ _ hi, h i hi]
  · rw [Array.getElem?_eq_none (by rw [cb_size]; omega), Array.getElem?_eq_none (by rw [cb_size]; omega)]
theorem cb_set (f : Nat → Bool) (i : Nat) (b : Bool) (h : i < 256) : (cb f).setIfInBounds i (.bool b) = cb (fun j => if j = i then b else f j) := by
  apply Array.ext_getElem?
  intro j
  rw [Array.getElem?_setIfInBounds]
  by_cases hj : j < 256
  · rw [cb_at _ _ hj, cb_at _ _ hj, cb_size]
    by_cases e : i = j
    · subst e; rw [if_pos rfl, if_pos h, if_pos rfl]
    · rw [if_neg e, if_neg (fun h => e h.symm)]
  · rw [Array.getElem?_eq_none (show (cb _).size ≤ j by rw [cb_size]; omega), Array.getElem?_eq_none (show (cb _).size ≤ j by rw [cb_size]; omega), if_neg (by omega)]
theorem cb_one (f : Nat → Bool) : (cb f).all (·.oneCell') = true := by
  rw [Array.all_eq_true]
  intro i hi
  have := cb_at f i (by rw [cb_size] at hi; exact hi)
  rw [Array.getElem?_eq_getElem hi] at this
  rw [Option.some.inj this]
  rfl
theorem load_row {w : World} {g : Nat} {f : Nat → Bool} {t : TypeId} {fr : Nat × Nat} (h : w.heap[g]? = some (.cells (cb f) t fr)) :
    (loadVar 57 ⟨g, 0, none⟩).run Tryz.prog w = .ok (.agg (cb f)) w :=
  run_loadVar_row w g t _ (cb f) fr _ h Tryz.underlying57 rfl (by rw [cb_size]; kernel_rfl)
theorem store_row {w : World} {g : Nat} (f : Nat → Bool) {o : Nat → Bool} {t : TypeId} (h : w.heap[g]? = some (.cells (cb o) t (0, 0))) :
    (storeCells ⟨g, 0, none⟩ (cb f).toList).run Tryz.prog w = .ok () (w.setRow g (cb f)) := by
  have h1 := run_storeCells_from (P := Tryz.prog) g t (cb f).toList 0 (cb o) w h (by simp [cb_size]) (fun v hv => (Array.all_eq_true_iff_forall_mem.1 (cb_one f)) v (by simpa using hv))
  simpa using h1
theorem setRow_same {w : World} {g : Nat} {cs : Array Value} {t : TypeId} {fr : Nat × Nat} (h : w.heap[g]? = some (.cells cs t fr)) : w.setRow g cs = w := by
  have hv := (Array.getElem?_eq_some_iff.1 h)
  have e : (w.setRow g cs).heap = w.heap := by
    unfold World.setRow
    apply Array.ext
    · simp
    · intro i h1 h2
      simp only [Array.getElem_modify]
      split
      · rename_i hg; subst hg
        rw [hv.2]
      · rfl
  have e2 : w.setRow g cs = { w with heap := (w.setRow g cs).heap } := rfl
  rw [e2, e]
theorem store_same {w : World} {g : Nat} {f : Nat → Bool} {t : TypeId} (h : w.heap[g]? = some (.cells (cb f) t (0, 0))) :
    (storeCells ⟨g, 0, none⟩ (cb f).toList).run Tryz.prog w = .ok () w := by
  rw [store_row f h, setRow_same h]
theorem below_row {B : Nat} {w w' : World} (h : Below B w w') {g : Nat} (hg : B ≤ g) (cs : Array Value) : Below B w (w'.setRow g cs) :=
  h.trans ⟨rfl, rfl, rfl, by simp [World.setRow], fun k hk => setRow_other _ _ _ _ (by omega)⟩
theorem zero_row (w : World) : (zeroValue 57).run Tryz.prog w = .ok (.agg (cb fun _ => false)) w := by kernel_rfl
theorem ret_row (fn : Func) (p : Tmp) (h : fn.results = #[.cell p 57]) (tmps : Array Value) (w : World) (g : Nat) (f : Nat → Bool)
    (hp : tmps.getD p undef = .pointer (some ⟨g, 0, none⟩)) (hg : w.heap[g]? = some (.cells (cb f) 57 (0, 0))) :
    (results fn tmps).run Tryz.prog w = .ok (.agg (cb f)) w :=
  results_cell_row h _ _ g _ (cb f) (0, 0) _ hp hg Tryz.underlying57 rfl (by rw [cb_size]; kernel_rfl)
abbrev zr : Obj := .cells (cb fun _ => false) 57
theorem grow_row (F : Nat → Bool) (k : Nat) (v : Bool) (hv : v = F k) (h : k < 256) : (cb fun i => decide (i < k) && F i).setIfInBounds k (.bool v) = cb fun i => decide (i < k + 1) && F i := by
  subst hv
  rw [cb_set _ _ _ h]
  refine cb_ext fun i _ => ?_
  by_cases e : i = k
  · subst e; simp
  · rw [if_neg e, show decide (i < k + 1) = decide (i < k) by rw [decide_eq_decide]; omega]
theorem grown_row (F : Nat → Bool) : (cb fun i => decide (i < 256) && F i) = cb F := cb_ext fun i hi => by simp [hi]
theorem grow_none (F : Nat → Bool) : (cb fun i => decide (i < 0) && F i) = cb fun _ => false := cb_ext fun i _ => by simp
end Go.Proofs.YtaaihcojedibeaaGreatDoor.CArr
end
section
/- Sets as numbers: plain. -/
namespace Go.Proofs.YtaaihcojedibeaaGreatDoor.CPlain
set_option maxRecDepth 100000
open CBits CMake CLen CRuns
set_option linter.unusedVariables false
set_option linter.unusedSimpArgs false
def rg (a : Nat) : Nat → Nat
  | 0 => 0
  | k + 1 => rg a k ||| 2 ^ (a + k)
theorem tb_rg (a k i : Nat) : (rg a k).testBit i = decide (a ≤ i ∧ i < a + k) := by
  induction k with
  | zero => simp [rg] <;> omega
  | succ k ih =>
    rw [rg, Nat.testBit_or, ih, Nat.testBit_two_pow]
    by_cases h : a + k = i
    · simp [h] <;> omega
    · simp [h] <;> (by_cases g : a ≤ i <;> simp [g] <;> omega)
theorem cnt_le (N n : Nat) : cnt N n ≤ n := by
  unfold cnt
  exact Nat.le_trans List.countP_le_length (by simp)
theorem rg_lt (a k : Nat) (h : a + k ≤ 256) : rg a k < 2 ^ 256 := by
  apply Nat.lt_pow_two_of_testBit
  intro i hi
  rw [tb_rg]
  simp
  omega
theorem out_of {N i : Nat} (hN : N < 2 ^ 256) (h : N.testBit i = true) : i < 256 := by
  rcases Nat.lt_or_ge i 256 with g | g
  · exact g
  · rw [Nat.testBit_lt_two_pow (Nat.lt_of_lt_of_le hN (Nat.pow_le_pow_right (by decide) g))] at h
    cases h
end Go.Proofs.YtaaihcojedibeaaGreatDoor.CPlain
end
section
/- Sets: what the runs are, in plain Lean. -/
namespace Go.Proofs.YtaaihcojedibeaaGreatDoor.CRunsP
set_option maxRecDepth 100000
open CBits CMake CRuns CPlain
set_option linter.unusedVariables false
set_option linter.unusedSimpArgs false
/-- all the runs together -/
def orl (L : List (Nat × Nat)) : Nat := L.foldl (fun a x => a ||| rg x.1 (x.2 + 1 - x.1)) 0
theorem orl_snoc (L : List (Nat × Nat)) (x : Nat × Nat) : orl (L ++ [x]) = orl L ||| rg x.1 (x.2 + 1 - x.1) := by
  unfold orl
  rw [List.foldl_append]
  rfl
theorem orl_take (L : List (Nat × Nat)) (k : Nat) (h : k < L.length) : orl (L.take (k + 1)) = orl (L.take k) ||| rg L[k].1 (L[k].2 + 1 - L[k].1) := by
  rw [← orl_snoc, List.take_append_getElem]
def Chain (L : List (Nat × Nat)) : Prop := L.Pairwise (fun a b => a.2 + 1 < b.1)
theorem chain_snoc {L : List (Nat × Nat)} {x : Nat × Nat} (h : Chain L) (g : ∀ y ∈ L, y.2 + 1 < x.1) : Chain (L ++ [x]) := by
  unfold Chain
  rw [List.pairwise_append]
  exact ⟨h, by simp, fun a ha b hb => by rw [List.mem_singleton] at hb; subst hb; exact g a ha⟩
structure Ok (N k : Nat) (L : List (Nat × Nat)) (f : Int) : Prop where
  rise : ∀ x ∈ L, x.1 ≤ x.2 ∧ x.2 < k ∧ (f < 0 → x.2 + 1 < k + 1) ∧ (0 ≤ f → x.2 + 1 < f)
  chain : Chain L
  gap : f < 0 → ∀ x ∈ L, x.2 + 1 < k
  low : f < k
  all : ∀ i, i < k → N.testBit i = ((orl L).testBit i || decide (0 ≤ f ∧ f ≤ i))
  none : ∀ i, k ≤ i → (orl L).testBit i = false
theorem ok_all (N k : Nat) : Ok N k (rst N k).1 (rst N k).2 := by
  induction k with
  | zero => exact ⟨by simp [rst], by simp [rst, Chain], by simp [rst], by simp [rst], by omega, by simp [rst, orl]⟩
  | succ k ih =>
    obtain ⟨r, c, g, l, a, n⟩ := ih
    rw [rst]
    generalize (rst N k).1 = L at *
    generalize (rst N k).2 = f at *
    have hn : (orl L).testBit k = false := n k (by omega)
    cases hk : N.testBit k
    · rw [if_neg (by simp)]
      by_cases hf : f < 0
      · rw [if_pos hf]
        refine ⟨fun x hx => ?_, c, fun _ x hx => ?_, by simp; omega, fun i hi => ?_, fun i hi => n i (by omega)⟩
        · have := r x hx
          exact ⟨this.1, by omega, fun _ => by omega, fun h => by simp at h⟩
        · have := r x hx; have := g hf x hx; omega
        · have e : decide (0 ≤ f ∧ f ≤ i) = false := decide_eq_false (by omega)
          by_cases h : i < k
          · rw [a i h, e]; simp
          · obtain rfl : i = k := by omega
            rw [hk, hn]; simp
      · rw [if_neg hf]
        have hfl : f.toNat < k := by omega
        refine ⟨fun x hx => ?_, chain_snoc c fun y hy => ?_, fun _ x hx => ?_, by simp; omega, fun i hi => ?_, fun i hi => ?_⟩
        · simp only [List.mem_append, List.mem_singleton] at hx
          rcases hx with hx | rfl
          · have := r x hx
            exact ⟨this.1, by omega, fun _ => by omega, fun h => by simp at h⟩
          · exact ⟨by simp only []; omega, by simp only []; omega, fun _ => by simp only []; omega, fun h => by simp at h⟩
        · have := (r y hy).2.2.2 (by omega)
          simp only []; omega
        · simp only [List.mem_append, List.mem_singleton] at hx
          rcases hx with hx | rfl
          · have := (r x hx).2.2.2 (by omega); omega
          · simp only []; omega
        · rw [orl_snoc, Nat.testBit_or, tb_rg]
          by_cases h : i < k
          · rw [a i h]
            by_cases h2 : f ≤ i
            · rw [decide_eq_true (show 0 ≤ f ∧ f ≤ i by omega), decide_eq_true (show f.toNat ≤ i ∧ i < f.toNat + (k - 1 + 1 - f.toNat) by omega)]; simp
            · rw [decide_eq_false (show ¬ (0 ≤ f ∧ f ≤ i) by omega), decide_eq_false (show ¬ (f.toNat ≤ i ∧ i < f.toNat + (k - 1 + 1 - f.toNat)) by omega)]; simp
          · obtain rfl : i = k := by omega
            rw [hk, hn, decide_eq_false (show ¬ (f.toNat ≤ i ∧ i < f.toNat + (i - 1 + 1 - f.toNat)) by omega)]; simp
        · rw [orl_snoc, Nat.testBit_or, tb_rg, n i (by omega), decide_eq_false (show ¬ (f.toNat ≤ i ∧ i < f.toNat + (k - 1 + 1 - f.toNat)) by omega)]; simp
    · rw [if_pos rfl]
      by_cases hf : f < 0
      · rw [if_pos hf]
        refine ⟨fun x hx => ?_, c, fun h => by simp at h; omega, by simp; omega, fun i hi => ?_, fun i hi => n i (by omega)⟩
        · have := r x hx; have := g hf x hx
          exact ⟨by omega, by omega, fun _ => by omega, fun h => by simp only []; omega⟩
        · have e : decide (0 ≤ f ∧ f ≤ i) = false := decide_eq_false (by omega)
          by_cases h : i < k
          · rw [a i h, e, decide_eq_false (show ¬ ((0 : Int) ≤ (k : Int) ∧ (k : Int) ≤ (i : Int)) by omega)]
          · obtain rfl : i = k := by omega
            rw [hk, hn, decide_eq_true (show ((0 : Int) ≤ (i : Int) ∧ (i : Int) ≤ (i : Int)) by omega)]; rfl
      · rw [if_neg hf]
        refine ⟨fun x hx => ?_, c, fun h => absurd h hf, by simp only []; omega, fun i hi => ?_, fun i hi => n i (by omega)⟩
        · have := r x hx
          exact ⟨this.1, by omega, fun h => absurd h hf, fun h => this.2.2.2 h⟩
        · by_cases h : i < k
          · rw [a i h]
          · obtain rfl : i = k := by omega
            rw [hk, hn, decide_eq_true (show (0 ≤ f ∧ f ≤ i) by omega)]; rfl
theorem runs_ok {N : Nat} (hN : N < 2 ^ 256) : (∀ x ∈ runs N, x.1 ≤ x.2 ∧ x.2 < 256) ∧ Chain (runs N) ∧ orl (runs N) = N := by
  obtain ⟨r, c, g, l, a, n⟩ := ok_all N 256
  have hout : ∀ i, 256 ≤ i → N.testBit i = false := fun i h => Nat.testBit_lt_two_pow (Nat.lt_of_lt_of_le hN (Nat.pow_le_pow_right (by decide) h))
  unfold runs
  generalize (rst N 256).1 = L at *
  generalize (rst N 256).2 = f at *
  by_cases hf : f < 0
  · rw [if_pos hf]
    refine ⟨fun x hx => ⟨(r x hx).1, (r x hx).2.1⟩, c, ?_⟩
    apply Nat.eq_of_testBit_eq
    intro i
    by_cases h : i < 256
    · rw [a i h, decide_eq_false (by omega)]; simp
    · rw [hout i (by omega), n i (by omega)]
  · rw [if_neg hf]
    refine ⟨fun x hx => ?_, chain_snoc c fun y hy => ?_, ?_⟩
    · simp only [List.mem_append, List.mem_singleton] at hx
      rcases hx with hx | rfl
      · exact ⟨(r x hx).1, (r x hx).2.1⟩
      · simp only []; omega
    · have := (r y hy).2.2.2 (by omega)
      simp only []; omega
    · apply Nat.eq_of_testBit_eq
      intro i
      rw [orl_snoc, Nat.testBit_or, tb_rg]
      by_cases h : i < 256
      · rw [a i h]
        by_cases h2 : f ≤ i
        · rw [decide_eq_true (show 0 ≤ f ∧ f ≤ i by omega), decide_eq_true (show f.toNat ≤ i ∧ i < f.toNat + (255 + 1 - f.toNat) by omega)]
        · rw [decide_eq_false (show ¬ (0 ≤ f ∧ f ≤ i) by omega), decide_eq_false (show ¬ (f.toNat ≤ i ∧ i < f.toNat + (255 + 1 - f.toNat)) by omega)]
      · rw [hout i (by omega), n i (by omega), decide_eq_false (show ¬ (f.toNat ≤ i ∧ i < f.toNat + (255 + 1 - f.toNat)) by omega)]; rfl
theorem chain_at {L : List (Nat × Nat)} (h : Chain L) (k : Nat) (hk : k + 1 < L.length) : L[k].2 + 1 < L[k + 1].1 :=
  List.pairwise_iff_getElem.1 h k (k + 1) (by omega) hk (by omega)
end Go.Proofs.YtaaihcojedibeaaGreatDoor.CRunsP
end
section
/- Sets: there is one list of runs alone, in plain Lean. -/
namespace Go.Proofs.YtaaihcojedibeaaGreatDoor.CRunsQ
set_option maxRecDepth 100000
open CBits CMake CRuns CPlain CRunsP
set_option linter.unusedVariables false
set_option linter.unusedSimpArgs false
def Inl (L : List (Nat × Nat)) (i : Nat) : Prop := ∃ x ∈ L, x.1 ≤ i ∧ i ≤ x.2
theorem inl_cons {x : Nat × Nat} {L : List (Nat × Nat)} {i : Nat} : Inl (x :: L) i ↔ (x.1 ≤ i ∧ i ≤ x.2) ∨ Inl L i := by
  unfold Inl
  constructor
  · rintro ⟨y, hy, h⟩
    rcases List.mem_cons.1 hy with rfl | hy
    · exact .inl h
    · exact .inr ⟨y, hy, h⟩
  · rintro (h | ⟨y, hy, h⟩)
    · exact ⟨x, List.mem_cons_self, h⟩
    · exact ⟨y, List.mem_cons_of_mem _ hy, h⟩
theorem one_list : ∀ (L M : List (Nat × Nat)), Chain L → Chain M → (∀ x ∈ L, x.1 ≤ x.2) → (∀ x ∈ M, x.1 ≤ x.2) → (∀ i, Inl L i ↔ Inl M i) → L = M
  | [], [], _, _, _, _, _ => rfl
  | [], y :: M, _, _, _, hm, h => by
    obtain ⟨x, hx, _⟩ := (h y.1).2 ⟨y, List.mem_cons_self, Nat.le_refl _, hm y List.mem_cons_self⟩
    cases hx
  | x :: L, [], _, _, hl, _, h => by
    obtain ⟨y, hy, _⟩ := (h x.1).1 ⟨x, List.mem_cons_self, Nat.le_refl _, hl x List.mem_cons_self⟩
    cases hy
  | x :: L, y :: M, cl, cm, hl, hm, h => by
    have c1 := List.pairwise_cons.1 cl
    have c2 := List.pairwise_cons.1 cm
    have hx := hl x List.mem_cons_self
    have hy := hm y List.mem_cons_self
    have e1 : y.1 ≤ x.1 := by
      rcases inl_cons.1 ((h x.1).1 (inl_cons.2 (.inl ⟨Nat.le_refl _, hx⟩))) with g | ⟨z, hz, g⟩
      · exact g.1
      · have := c2.1 z hz; omega
    have e2 : x.1 ≤ y.1 := by
      rcases inl_cons.1 ((h y.1).2 (inl_cons.2 (.inl ⟨Nat.le_refl _, hy⟩))) with g | ⟨z, hz, g⟩
      · exact g.1
      · have := c1.1 z hz; omega
    have e3 : y.2 ≤ x.2 := by
      rcases Nat.lt_or_ge x.2 y.2 with g | g
      · rcases inl_cons.1 ((h (x.2 + 1)).2 (inl_cons.2 (.inl ⟨by omega, by omega⟩))) with g | ⟨z, hz, g⟩
        · omega
        · have := c1.1 z hz; omega
      · exact g
    have e4 : x.2 ≤ y.2 := by
      rcases Nat.lt_or_ge y.2 x.2 with g | g
      · rcases inl_cons.1 ((h (y.2 + 1)).1 (inl_cons.2 (.inl ⟨by omega, by omega⟩))) with g | ⟨z, hz, g⟩
        · omega
        · have := c2.1 z hz; omega
      · exact g
    have e : x = y := Prod.ext (by omega) (by omega)
    subst e
    have ht : ∀ i, Inl L i ↔ Inl M i := fun i => by
      constructor
      · rintro ⟨z, hz, g⟩
        rcases inl_cons.1 ((h i).1 (inl_cons.2 (.inr ⟨z, hz, g⟩))) with k | k
        · have := c1.1 z hz; omega
        · exact k
      · rintro ⟨z, hz, g⟩
        rcases inl_cons.1 ((h i).2 (inl_cons.2 (.inr ⟨z, hz, g⟩))) with k | k
        · have := c2.1 z hz; omega
        · exact k
    rw [one_list L M c1.2 c2.2 (fun z hz => hl z (List.mem_cons_of_mem _ hz)) (fun z hz => hm z (List.mem_cons_of_mem _ hz)) ht]
theorem tb_orl (L : List (Nat × Nat)) (i : Nat) : (orl L).testBit i = true ↔ Inl L i := by
  have h : ∀ (L : List (Nat × Nat)) (a : Nat), (L.foldl (fun a x => a ||| rg x.1 (x.2 + 1 - x.1)) a).testBit i = true ↔ a.testBit i = true ∨ Inl L i := by
    intro L
    induction L with
    | nil => intro a; simp [Inl]
    | cons x L ih =>
      intro a
      rw [List.foldl_cons, ih, Nat.testBit_or, Bool.or_eq_true, tb_rg, decide_eq_true_eq, inl_cons, or_assoc]
      constructor
      · rintro (h | h | h)
        · exact .inl h
        · exact .inr (.inl ⟨h.1, by omega⟩)
        · exact .inr (.inr h)
      · rintro (h | h | h)
        · exact .inl h
        · exact .inr (.inl ⟨h.1, by omega⟩)
        · exact .inr (.inr h)
  unfold orl
  rw [h]
  simp
structure Rl (N i : Nat) (L : List (Nat × Nat)) : Prop where
  rise : ∀ x ∈ L, x.1 ≤ x.2 ∧ x.2 < 256 ∧ x.1 < i
  bits : ∀ x ∈ L, ∀ j, x.1 ≤ j → j ≤ x.2 → N.testBit j = true
  max : ∀ x ∈ L, x.2 = 255 ∨ N.testBit (x.2 + 1) = false
  chain : Chain L
  cov : ∀ j, j < i → N.testBit j = true → Inl L j
  len : L.length ≤ i
theorem Rl.zero (N : Nat) : Rl N 0 [] := ⟨by simp, by simp, by simp, by simp [Chain], fun j h => absurd h (by omega), by simp⟩
theorem Rl.no {N i : Nat} {L : List (Nat × Nat)} (h : Rl N i L) (hb : N.testBit i = false) : Rl N (i + 1) L :=
  ⟨fun x hx => ⟨(h.rise x hx).1, (h.rise x hx).2.1, by have := (h.rise x hx).2.2; omega⟩, h.bits, h.max, h.chain, fun j hj hj2 => by
    by_cases e : j = i
    · subst e; rw [hb] at hj2; cases hj2
    · exact h.cov j (by omega) hj2, by have := h.len; omega⟩
theorem Rl.old {N i : Nat} {L : List (Nat × Nat)} (h : Rl N (i + 1) L) (hi : i + 1 < 256) (h0 : N.testBit i = true) (hb : N.testBit (i + 1) = true) : Rl N (i + 2) L :=
  ⟨fun x hx => ⟨(h.rise x hx).1, (h.rise x hx).2.1, by have := (h.rise x hx).2.2; omega⟩, h.bits, h.max, h.chain, fun j hj hj2 => by
    by_cases e : j = i + 1
    · subst e
      obtain ⟨x, hx, g1, g2⟩ := h.cov i (by omega) h0
      refine ⟨x, hx, by omega, ?_⟩
      rcases h.max x hx with m | m
      · omega
      · rcases Nat.lt_or_ge i x.2 with k | k
        · omega
        · rw [show x.2 + 1 = i + 1 by omega, hb] at m; cases m
    · exact h.cov j (by omega) hj2, by have := h.len; omega⟩
theorem Rl.new {N i K : Nat} {L : List (Nat × Nat)} (h : Rl N i L) (hi : i < 256) (h0 : i = 0 ∨ N.testBit (i - 1) = false) (hK : i ≤ K) (hK2 : K < 256) (hb : ∀ j, i ≤ j → j ≤ K → N.testBit j = true) (hm : K = 255 ∨ N.testBit (K + 1) = false) :
    Rl N (i + 1) (L ++ [(i, K)]) := by
  refine ⟨fun x hx => ?_, fun x hx => ?_, fun x hx => ?_, chain_snoc h.chain fun y hy => ?_, fun j hj hj2 => ?_, by simp; exact h.len⟩
  · simp only [List.mem_append, List.mem_singleton] at hx
    rcases hx with hx | rfl
    · have := h.rise x hx; exact ⟨this.1, this.2.1, by omega⟩
    · exact ⟨hK, hK2, by simp⟩
  · simp only [List.mem_append, List.mem_singleton] at hx
    rcases hx with hx | rfl
    · exact h.bits x hx
    · exact hb
  · simp only [List.mem_append, List.mem_singleton] at hx
    rcases hx with hx | rfl
    · exact h.max x hx
    · exact hm
  · have r := h.rise y hy
    rcases h0 with h0 | h0
    · omega
    · simp only []
      rcases Nat.lt_or_ge y.2 (i - 1) with g | g
      · omega
      · have := h.bits y hy (i - 1) (by omega) (by omega)
        rw [h0] at this; cases this
  · by_cases e : j = i
    · exact ⟨(i, K), by simp, by simp; omega, by simp; omega⟩
    · obtain ⟨x, hx, g⟩ := h.cov j (by omega) hj2
      exact ⟨x, List.mem_append_left _ hx, g⟩
theorem Rl.all {N : Nat} {L : List (Nat × Nat)} (hN : N < 2 ^ 256) (h : Rl N 256 L) : L = runs N := by
  obtain ⟨r, c, o⟩ := runs_ok hN
  refine one_list _ _ h.chain c (fun x hx => (h.rise x hx).1) (fun x hx => (r x hx).1) fun i => ?_
  rw [← tb_orl (runs N), o]
  constructor
  · rintro ⟨x, hx, g⟩
    exact h.bits x hx i g.1 g.2
  · intro g
    exact h.cov i (out_of hN g) g
end Go.Proofs.YtaaihcojedibeaaGreatDoor.CRunsQ
end
section
/- The document's sets: by their words; how many; the runs. -/
namespace Go.Proofs.YtaaihcojedibeaaGreatDoor.RSet
open Go.RowKit CMem CBits CSet CMake CLen CRng CRuns CPlain CRunsP CRunsQ CArr Go.Proofs.YtaaihcojedibeaaGreatDoorW.PrintWords Go.Proofs.YtaaihcojedibeaaGreatDoorW.PrintLast Go.Proofs.YtaaihcojedibeaaGreatDoorW.PrintMore
set_option linter.unusedVariables false
set_option linter.unusedSimpArgs false
set_option maxRecDepth 100000
set_option maxHeartbeats 6400000
/-- a slice of runs, to be read -/
def Row (w : World) (v : Value) (L : List (Nat × Nat)) : Prop := (v = .slice none 0 0 ∧ L = []) ∨ ∃ g cap, v = .slice (some ⟨g, 0, none⟩) L.length cap ∧ ∀ i (h : i < L.length), w.cell? ⟨g, i * 2, none⟩ = some (.int .u8 (L[i].1 : Nat)) ∧ w.cell? ⟨g, i * 2 + 1, none⟩ = some (.int .u8 (L[i].2 : Nat))
theorem prs_length (L : List (Nat × Nat)) : (prs L).length = L.length * 2 := by
  induction L with
  | nil => rfl
  | cons a L ih =>
    rw [show prs (a :: L) = .int .u8 (a.1 : Nat) :: .int .u8 (a.2 : Nat) :: prs L from rfl]
    simp only [List.length_cons, ih]
    omega
theorem prs_at (L : List (Nat × Nat)) (i : Nat) (h : i < L.length) : (prs L)[i * 2]? = some (.int .u8 (L[i].1 : Nat)) ∧ (prs L)[i * 2 + 1]? = some (.int .u8 (L[i].2 : Nat)) := by
  induction L generalizing i with
  | nil => simp at h
  | cons a L ih =>
    cases i with
    | zero => exact ⟨rfl, rfl⟩
    | succ i =>
      have := ih i (by simpa using h)
      constructor
      · rw [show (i + 1) * 2 = i * 2 + 2 by omega]; exact this.1
      · rw [show (i + 1) * 2 + 1 = i * 2 + 1 + 2 by omega]; exact this.2
theorem Row.of_owns {w : World} {B : Nat} {v : Value} {L : List (Nat × Nat)} (h : w.ownsRow B 54 2 v L.length (prs L)) : Row w v L := by
  rcases h.2 with ⟨q2, q3⟩ | ⟨g, cap, cur, q2, q3, q4, q5⟩
  · exact .inl ⟨q2, List.length_eq_zero_iff.1 q3⟩
  · refine .inr ⟨g, cap, q2, fun i hi => ?_⟩
    rw [q2] at h
    have hp := prs_length L
    have ha := prs_at L i hi
    exact ⟨(h.cellAt (i * 2) (by omega)).trans ha.1, (h.cellAt (i * 2 + 1) (by omega)).trans ha.2⟩
theorem Row.below {w w' : World} {v : Value} {L : List (Nat × Nat)} (h : Row w v L) (hb : Below w.heap.size w w') : Row w' v L := by
  rcases h with h | ⟨g, cap, h1, h2⟩
  · exact .inl h
  · exact .inr ⟨g, cap, h1, fun i hi => ⟨below_of hb (h2 i hi).1, below_of hb (h2 i hi).2⟩⟩
theorem cnt_succ (N k : Nat) : cnt N (k + 1) = cnt N k + if N.testBit k then 1 else 0 := by
  unfold cnt
  rw [List.range_succ, List.countP_append]
  simp
theorem rlen_calls (N : Nat) (w : World) :
    Calls Tryz.prog 22 #[.agg (cb N.testBit)] w fun e w' => e = .returned (.int .i64 (cnt N 256 : Nat)) ∧ Below w.heap.size w w' := by
  have BA := Lib.hid (heap_alloc_new w (.cells (cb N.testBit) 57))
  have HB := Lib.hid (below1 w (.cells (cb N.testBit) 57))
  go_enter Tryz.func22, Tryz.ntmps22
  go_wp2
  go_loopw [3, 4] (fun c t wr => ∃ k : Nat, k ≤ 256 ∧ t = .int .i64 (k : Nat) ∧ c = .int .i64 (cnt N k : Nat) ∧ Hid (wr.heap[w.heap.size]? = some (.cells (cb N.testBit) 57 (0, 0))) ∧ Hid (Below w.heap.size w wr)) (fun _ t _ => 256 - (intOf t).toNat)
  case atStart => exact ⟨0, by omega, rfl, rfl, BA, HB⟩
  case round =>
    clear BA HB
    obtain ⟨k, hk, rfl, rfl, HS, HB⟩ := hrel
    by_cases h : k < 256
    · have v1 := blk_cell HS.out k _ (cb_at _ _ h)
      have hc := cnt_le N k
      have hsu := cnt_succ N k
      have HC := Lib.hid hsu
      clear hsu
      generalize hcc : cnt N k = c at *
      have HCC := Lib.hid hcc
      clear hcc
      cases hf : N.testBit k <;> rw [hf] at v1 HC
      all_goals
        go_wp2
        go_roundw
        case rel => exact ⟨k + 1, by omega, by simp, by rw [HC.out]; simp, HS, HB⟩
        case measure => simp [intOf]; omega
    · obtain rfl : k = 256 := by omega
      go_wp2
      go_ret
      exact ⟨rfl, HB.out⟩
theorem sc_at (N j : Nat) (h : j < 4) : (sc N)[j]? = some (.int .u64 (wd N j : Nat)) := by
  have : j = 0 ∨ j = 1 ∨ j = 2 ∨ j = 3 := by omega
  rcases this with rfl | rfl | rfl | rfl <;> rfl
theorem rof_calls (N : Nat) (w : World) :
    Calls Tryz.prog 19 #[.agg (sc N)] w fun e w' => e = .returned (.agg (cb N.testBit)) ∧ Below w.heap.size w w' := by
  have hz := zero_row
  have hs := cb_size
  have st := store_same (blk3 w (.cells (sc N) 26) zr (cb fun _ => false) 57)
  have BA := Lib.hid (blk_alloc (blk_alloc (heap_alloc_new w (.cells (sc N) 26)) zr) zr)
  have BR := Lib.hid (blk_alloc (blk2 w (.cells (sc N) 26) (cb fun _ => false) 57) zr)
  have BS := Lib.hid (blk3 w (.cells (sc N) 26) zr (cb fun _ => false) 57)
  have HB := Lib.hid (below3 w (.cells (sc N) 26) zr zr)
  go_enter Tryz.func19, Tryz.ntmps19
  go_wp2
  rw [show w.heap.size + 1 + 1 = w.heap.size + 2 by omega]
  go_loopw [4, 5, 6] (fun t _ _ wr => ∃ k : Nat, k ≤ 256 ∧ t = .int .i64 (k : Nat) ∧ Hid (wr.heap[w.heap.size]? = some (.cells (sc N) 26 (0, 0))) ∧ Hid (wr.heap[w.heap.size + 1]? = some zr) ∧ Hid (wr.heap[w.heap.size + 2]? = some (.cells (cb fun i => decide (i < k) && N.testBit i) 57 (0, 0))) ∧ Hid (Below w.heap.size w wr)) (fun t _ _ _ => 256 - (intOf t).toNat)
  case atStart => exact ⟨0, by omega, rfl, BA, BR, by rw [grow_none]; exact BS, HB⟩
  case round =>
    clear BA BR BS HB hz hs st
    obtain ⟨i, hi, rfl, HA, ZR, HS, HB⟩ := hrel
    by_cases h : i < 256
    · have v1 := blk_cell HA.out (i / 64) _ (sc_at N _ (by omega))
      have hbit : N.testBit i = decide (wd N (i / 64) / 2 ^ (i % 64) % 2 = 1) := by
        rw [← Nat.testBit_eq_decide_div_mod_eq, tb_wd, decide_eq_true (show i % 64 < 64 by omega), show 64 * (i / 64) + i % 64 = i by omega]
        rfl
      have HBIT := Lib.hid hbit
      have hx := wd_lt N (i / 64)
      clear hbit
      generalize wd N (i / 64) = x at *
      go_wp2
      go_loopw [5, 6] (fun n c wr' => ∃ k : Nat, k ≤ i % 64 ∧ c = .int .i64 (k : Nat) ∧ n = .int .u64 ((x / 2 ^ k : Nat) : Int) ∧ wr' = wr) (fun _ c _ => i % 64 - (intOf c).toNat)
      case atStart => exact ⟨0, by omega, rfl, by simp, rfl⟩
      case round =>
        obtain ⟨k, hk, rfl, rfl, rfl⟩ := hrel
        by_cases g : k < i % 64
        · have hk2 : (k : Int) < (i : Int) % 64 := by omega
          have hd : IntKind.u64.wrap (((x / 2 ^ k : Nat) : Int) / 2) = ((x / 2 ^ (k + 1) : Nat) : Int) := by
            have := Nat.div_le_self x (2 ^ k)
            rw [Nat.pow_succ, ← Nat.div_div_eq_div_mul, IntKind.wrap_u64]
            generalize x / 2 ^ k = y at *
            omega
          have HD := Lib.hid hd
          clear hd
          generalize x / 2 ^ k = y at *
          go_wp2
          go_roundw
          case rel => exact ⟨k + 1, by omega, by simp, by rw [HD.out], trivial⟩
          case measure => simp [intOf] <;> omega
        · obtain rfl : k = i % 64 := by omega
          have hk2 : ¬ ((((i % 64 : Nat) : Nat) : Int) < (i : Int) % 64) := by omega
          generalize x / 2 ^ (i % 64) = y at *
          have v1 := blk_cell HS.out i _ (cb_at _ _ h)
          have v2 := blk_free HS.out i
          have HW := Lib.hid (show ∀ v : Bool, v = N.testBit i → Hid ((wr.setCell ⟨w.heap.size + 2, i, none⟩ (.bool v)).heap[w.heap.size + 2]? = some (.cells (cb fun j => decide (j < i + 1) && N.testBit j) 57 (0, 0))) from fun v hv => by
            rw [← grow_row _ i v hv h]
            exact Lib.hid (set_blk (i := i) HS.out (.bool v)))
          have HB2 := Lib.hid (fun v => below_set HB.out (by omega) (b := w.heap.size + 2) (i := i) v)
          have HA2 := Lib.hid (fun v => set_other (c := w.heap.size + 2) (i := i) (v := v) HA.out (by omega))
          have HR2 := Lib.hid (fun v => set_other (c := w.heap.size + 2) (i := i) (v := v) ZR.out (by omega))
          by_cases hy : y % 2 = 1
          · have hy2 : ((y : Int) % 2 == 1) = true := by simp; omega
            have HV := Lib.hid (show true = N.testBit i by rw [HBIT.out, decide_eq_true hy])
            go_wp2
            go_roundw
            case rel => exact ⟨i + 1, by omega, by simp, Lib.hid (HA2.out _), Lib.hid (HR2.out _), HW.out _ HV.out, Lib.hid (HB2.out _)⟩
            case measure => simp [intOf] <;> omega
          · have hy2 : ((y : Int) % 2 == 1) = false := by simp; omega
            have HV := Lib.hid (show false = N.testBit i by rw [HBIT.out, decide_eq_false hy])
            go_wp2
            go_roundw
            case rel => exact ⟨i + 1, by omega, by simp, Lib.hid (HA2.out _), Lib.hid (HR2.out _), HW.out _ HV.out, Lib.hid (HB2.out _)⟩
            case measure => simp [intOf] <;> omega
    · obtain rfl : i = 256 := by omega
      rw [grown_row] at HS
      obtain ⟨F, hF⟩ : ∃ F, N.testBit = F := ⟨_, rfl⟩
      rw [hF] at HS
      have HF := Lib.hid hF
      clear hF
      go_wp2_with (first
        | refine wpList_load_row rfl 57 _ rfl (w.heap.size + 2) rfl _ _ _ _ HS.out Tryz.underlying57 rfl (by rw [cb_size]; kernel_rfl) ?_
        | (refine wpList_store_row rfl 57 _ _ rfl (w.heap.size + 1) (cb F) rfl rfl _ _ ZR.out (by rw [cb_size]; kernel_rfl) (by rw [cb_size, cb_size]) (cb_one F) ?_
           go_step
           go_step
           go_step
           go_step
           refine bodyPost_ret (v := .agg (cb F)) ?_ rfl ⟨by rw [HF.out], below_row HB.out (by omega) _⟩
           rw [ret_row Tryz.f19 2 (by kernel_rfl) _ _ (w.heap.size + 1) F ?_ (setRow_heap _ _ _ _ _ _ ZR.out)]
           rfl))
      
theorem pair_cells (w : World) (x y : Value) (t : TypeId) : ∀ (j : Nat) (u : Value), [x, y][j]? = some u → (w.alloc (.cells #[x, y] t)).cell? ((⟨w.heap.size, 0, none⟩ : Addr).add j) = some u := by
  intro j u hj
  match j, hj with
  | 0, hj => simp at hj; subst hj; simp [Addr.add]
  | 1, hj => simp at hj; subst hj; simp [Addr.add]
theorem own_alloc {B : Nat} {w : World} {e : TypeId} {size n : Nat} {v : Value} {xs : List Value} (h : w.ownsRow B e size v n xs) (o : Obj) : (w.alloc o).ownsRow B e size v n xs := h.alloc o
theorem rranges_calls (N : Nat) (hN : N < 2 ^ 256) (w : World) :
    Calls Tryz.prog 20 #[.agg (cb N.testBit)] w fun e w' => (∃ v, e = .returned v ∧ Row w' v (runs N)) ∧ Below w.heap.size w w' := by
  obtain ⟨i0, hi, hz0, hz1, hz2⟩ := info_parts info_pair
  have I0 := Lib.hid hi
  have Z0 := Lib.hid hz0
  have Z1 := Lib.hid hz1
  have Z2 := Lib.hid hz2
  clear hi hz0 hz1 hz2
  have BA := Lib.hid (blk_alloc (heap_alloc_new w (.cells (cb N.testBit) 57)) (.cells #[] 54))
  have HB := Lib.hid (below2 w (.cells (cb N.testBit) 57) (.cells #[] 54))
  have HO : ((w.alloc (.cells (cb N.testBit) 57)).alloc (.cells #[] 54)).ownsRow (w.heap.size + 1) 54 2 (.slice (some ⟨w.heap.size + 1, 0, none⟩) 0 0) 0 (prs []) :=
    ⟨rfl, .inr ⟨_, 0, #[], rfl, Nat.le_refl _, blk2 w _ _ _, Nat.le_refl _, by decide, rfl, rfl⟩⟩
  have HO := Lib.hid HO
  go_enter Tryz.func20, Tryz.ntmps20
  go_wp2
  go_loopw [3, 4, 5] (fun v t _ wr => ∃ (i : Nat) (L : List (Nat × Nat)), i ≤ 256 ∧ t = .int .i64 (i : Nat) ∧ Hid (Rl N i L) ∧ Hid (wr.ownsRow (w.heap.size + 1) 54 2 v L.length (prs L)) ∧ Hid (wr.heap[w.heap.size]? = some (.cells (cb N.testBit) 57 (0, 0))) ∧ Hid (Below w.heap.size w wr)) (fun _ t _ _ => 256 - (intOf t).toNat)
  case atStart => exact ⟨0, [], by omega, rfl, Lib.hid (Rl.zero N), HO, BA, HB⟩
  case round =>
    clear BA HB HO
    obtain ⟨i, L, hi, rfl, HR, HO, HA, HB⟩ := hrel
    by_cases h : i < 256
    · have v1 := blk_cell HA.out i _ (cb_at _ _ h)
      cases hb : N.testBit i <;> rw [hb] at v1
      · have HR2 := Lib.hid (HR.out.no hb)
        go_wp2
        go_roundw
        case rel => exact ⟨i + 1, L, by omega, by simp, HR2, HO, HA, HB⟩
        case measure => simp [intOf] <;> omega
      · have hcase : (∃ j, i = j + 1 ∧ N.testBit j = true) ∨ (i = 0 ∨ N.testBit (i - 1) = false) := by
          rcases Nat.eq_zero_or_pos i with e | e
          · exact .inr (.inl e)
          · cases g : N.testBit (i - 1)
            · exact .inr (.inr rfl)
            · exact .inl ⟨i - 1, by omega, g⟩
        rcases hcase with ⟨j, hj, g⟩ | hnew
        · have HR2 := Lib.hid (show Rl N (i + 1) L by
            have r := HR.out
            subst hj
            exact r.old h g hb)
          have v2 := blk_cell HA.out j _ (cb_at _ _ (by omega))
          rw [g] at v2
          have e0 : ((i : Int) == 0) = false := by simp; omega
          have e2 : (i : Int) - 1 = (j : Int) := by omega
          have e4 : (j : Int) < 256 := by omega
          clear hb g hj
          go_wp2
          go_roundw
          case rel => exact ⟨i + 1, L, by omega, by simp, HR2, HO, HA, HB⟩
          case measure => simp [intOf] <;> omega
        · have HNEW := Lib.hid hnew
          have hj : i = 0 ∨ ∃ j, i = j + 1 ∧ wr.cell? ⟨w.heap.size, j, none⟩ = some (.bool false) := by
            rcases Nat.eq_zero_or_pos i with e | e
            · exact .inl e
            · refine .inr ⟨i - 1, by omega, ?_⟩
              rw [blk_cell HA.out (i - 1) _ (cb_at _ _ (by omega))]
              rcases hnew with h | h
              · omega
              · rw [h]
          have hBI := Lib.hid hb
          clear hnew hb
          have wi : IntKind.u8.wrap (i : Int) = (i : Int) := by rw [IntKind.wrap_u8]; omega
          have hlL := HR.out.len
          have HLL := Lib.hid (show L.length ≤ 300 by omega)
          have HW : wr.heap.size = wr.heap.size := rfl
          have lq := lt_of_blk HA.out
          clear hlL
          rcases hj with h0 | ⟨j, hj, v2⟩
          · have e0 : ((i : Int) == 0) = true := by simp; omega
            clear h0
            go_wp2
            go_loopw [5] (fun c wr' => ∃ K : Nat, i ≤ K ∧ K ≤ 255 ∧ c = .int .i64 (K : Nat) ∧ Hid (∀ j, i ≤ j → j ≤ K → N.testBit j = true) ∧ wr' = wr) (fun c _ => 255 - (intOf c).toNat)
            case atStart => exact ⟨i, Nat.le_refl _, by omega, rfl, Lib.hid (fun j h1 h2 => by rw [show j = i by omega]; exact hBI.out), rfl⟩
            case round =>
              obtain ⟨K, hK, hK2, rfl, HK, rfl⟩ := hrel
              have hgo : (∃ m : Nat, (K : Int) + 1 = (m : Int) ∧ K < 255 ∧ m = K + 1 ∧ N.testBit m = true) ∨ ((∃ m : Nat, (K : Int) + 1 = (m : Int) ∧ K < 255 ∧ m = K + 1 ∧ N.testBit m = false) ∨ K = 255) := by
                rcases Nat.lt_or_ge K 255 with g | g
                · cases e : N.testBit (K + 1)
                  · exact .inr (.inl ⟨K + 1, by omega, g, rfl, e⟩)
                  · exact .inl ⟨K + 1, by omega, g, rfl, e⟩
                · exact .inr (.inr (by omega))
              rcases hgo with ⟨m, em, hK3, hm, hbm⟩ | hend
              · have v3 := blk_cell HA.out m _ (cb_at _ _ (by omega))
                rw [hbm] at v3
                have hm2 : (m : Int) < 256 := by omega
                have HK2 := Lib.hid (show ∀ j, i ≤ j → j ≤ m → N.testBit j = true from fun j h1 h2 => by
                  rcases Nat.lt_or_ge K j with g | g
                  · rw [show j = m by omega]; exact hbm
                  · exact HK.out j h1 g)
                have HM := Lib.hid hm
                clear hbm hm
                go_wp2
                go_roundw
                case rel => exact ⟨m, by have := HM.out; omega, by omega, by simp, HK2, trivial⟩
                case measure => have := HM.out; simp [intOf] <;> omega
              · have HE := Lib.hid (show Rl N (i + 1) (L ++ [(i, K)]) from HR.out.new h HNEW.out hK (by omega) HK.out (by
                  rcases hend with ⟨m, _, _, hm, hbm⟩ | hend
                  · exact .inr (by rw [← hm]; exact hbm)
                  · exact .inl hend))
                have wk : IntKind.u8.wrap (K : Int) = (K : Int) := by rw [IntKind.wrap_u8]; omega
                have FIN := Lib.hid (show ∀ w5 : World, (wr.alloc (.cells #[.int .u8 (i : Nat), .int .u8 (K : Nat)] 54)).grownBy w5 u3.ownBlock → w5.heap[w.heap.size]? = some (.cells (cb N.testBit) 57 (0, 0)) ∧ Below w.heap.size w w5 from fun w5 hgr => by
                  have kB := HO.out.2
                  have hk : ∀ k, k ≤ w.heap.size → some k ≠ u3.ownBlock := fun k hk e => by
                    rcases kB with ⟨q, _⟩ | ⟨g, cap, cur, q, q3, _⟩
                    · rw [q] at e; simp [Value.ownBlock] at e
                    · rw [q] at e; simp [Value.ownBlock] at e; omega
                  have hs5 := hgr.size
                  simp only [World.size_alloc] at hs5
                  refine ⟨(hgr.block _ (by simp; omega) (hk _ (Nat.le_refl _))).trans (blk_alloc HA.out _), HB.out.trans ⟨hgr.os, hgr.tape, hgr.output, by omega, fun k hk2 => (hgr.block k (by simp; omega) (hk k (by omega))).trans (Below.heap_alloc wr _ k (by omega))⟩⟩)
                rcases hend with ⟨m, em, hK3, hm, hbm⟩ | hend
                · have v3 := blk_cell HA.out m _ (cb_at _ _ (by omega))
                  rw [hbm] at v3
                  have hm2 : (m : Int) < 256 := by omega
                  clear hbm hm
                  go_wp2_with (at_builtin; refine wpList_append_lies _ rfl (.tmp 39) (.tmp 45) 50 rfl (w.heap.size + 1) 54 i0 (.agg #[.int .u8 0, .int .u8 0]) 2 2 Tryz.underlying50 I0.out Z0.out Z1.out Z2.out rfl (by decide) u3 L.length (prs L) rfl (HO.out.alloc _) ⟨wr.heap.size, 0, none⟩ 1 1 [.int .u8 (i : Nat), .int .u8 (K : Nat)] rfl rfl (pair_cells _ _ _ _) (by simp [Value.oneCell']) (by omega) (by have := HLL.out; unfold maxLen; omega) (by have := HLL.out; omega) (by simp; omega) _ rfl ?_)
                  intro g1 cp1 w5 ho hgr hat hlt
                  obtain ⟨f1, f2⟩ := FIN.out w5 hgr
                  rw [show prs L ++ [.int .u8 (i : Nat), .int .u8 (K : Nat)] = prs (L ++ [(i, K)]) from (prs_snoc L i K).symm] at ho
                  have HO5 := Lib.hid ho
                  have HA5 := Lib.hid f1
                  have HB5 := Lib.hid f2
                  clear ho f1 f2 hgr hat hlt v1
                  go_wp2
                  go_roundw
                  case rel => exact ⟨i + 1, L ++ [(i, K)], by omega, by simp, HE, by simpa using HO5, HA5, HB5⟩
                  case measure => simp [intOf] <;> omega
                · have hK3 : ¬ ((K : Int) < 255) := by omega
                  clear hend
                  go_wp2_with (at_builtin; refine wpList_append_lies _ rfl (.tmp 39) (.tmp 45) 50 rfl (w.heap.size + 1) 54 i0 (.agg #[.int .u8 0, .int .u8 0]) 2 2 Tryz.underlying50 I0.out Z0.out Z1.out Z2.out rfl (by decide) u3 L.length (prs L) rfl (HO.out.alloc _) ⟨wr.heap.size, 0, none⟩ 1 1 [.int .u8 (i : Nat), .int .u8 (K : Nat)] rfl rfl (pair_cells _ _ _ _) (by simp [Value.oneCell']) (by omega) (by have := HLL.out; unfold maxLen; omega) (by have := HLL.out; omega) (by simp; omega) _ rfl ?_)
                  intro g1 cp1 w5 ho hgr hat hlt
                  obtain ⟨f1, f2⟩ := FIN.out w5 hgr
                  rw [show prs L ++ [.int .u8 (i : Nat), .int .u8 (K : Nat)] = prs (L ++ [(i, K)]) from (prs_snoc L i K).symm] at ho
                  have HO5 := Lib.hid ho
                  have HA5 := Lib.hid f1
                  have HB5 := Lib.hid f2
                  clear ho f1 f2 hgr hat hlt v1
                  go_wp2
                  go_roundw
                  case rel => exact ⟨i + 1, L ++ [(i, K)], by omega, by simp, HE, by simpa using HO5, HA5, HB5⟩
                  case measure => simp [intOf] <;> omega
          · have e0 : ((i : Int) == 0) = false := by simp; omega
            have e2 : (i : Int) - 1 = (j : Int) := by omega
            have e4 : (j : Int) < 256 := by omega
            clear hj
            go_wp2
            go_loopw [5] (fun c wr' => ∃ K : Nat, i ≤ K ∧ K ≤ 255 ∧ c = .int .i64 (K : Nat) ∧ Hid (∀ j, i ≤ j → j ≤ K → N.testBit j = true) ∧ wr' = wr) (fun c _ => 255 - (intOf c).toNat)
            case atStart => exact ⟨i, Nat.le_refl _, by omega, rfl, Lib.hid (fun j h1 h2 => by rw [show j = i by omega]; exact hBI.out), rfl⟩
            case round =>
              obtain ⟨K, hK, hK2, rfl, HK, rfl⟩ := hrel
              have hgo : (∃ m : Nat, (K : Int) + 1 = (m : Int) ∧ K < 255 ∧ m = K + 1 ∧ N.testBit m = true) ∨ ((∃ m : Nat, (K : Int) + 1 = (m : Int) ∧ K < 255 ∧ m = K + 1 ∧ N.testBit m = false) ∨ K = 255) := by
                rcases Nat.lt_or_ge K 255 with g | g
                · cases e : N.testBit (K + 1)
                  · exact .inr (.inl ⟨K + 1, by omega, g, rfl, e⟩)
                  · exact .inl ⟨K + 1, by omega, g, rfl, e⟩
                · exact .inr (.inr (by omega))
              rcases hgo with ⟨m, em, hK3, hm, hbm⟩ | hend
              · have v3 := blk_cell HA.out m _ (cb_at _ _ (by omega))
                rw [hbm] at v3
                have hm2 : (m : Int) < 256 := by omega
                have HK2 := Lib.hid (show ∀ j, i ≤ j → j ≤ m → N.testBit j = true from fun j h1 h2 => by
                  rcases Nat.lt_or_ge K j with g | g
                  · rw [show j = m by omega]; exact hbm
                  · exact HK.out j h1 g)
                have HM := Lib.hid hm
                clear hbm hm
                go_wp2
                go_roundw
                case rel => exact ⟨m, by have := HM.out; omega, by omega, by simp, HK2, trivial⟩
                case measure => have := HM.out; simp [intOf] <;> omega
              · have HE := Lib.hid (show Rl N (i + 1) (L ++ [(i, K)]) from HR.out.new h HNEW.out hK (by omega) HK.out (by
                  rcases hend with ⟨m, _, _, hm, hbm⟩ | hend
                  · exact .inr (by rw [← hm]; exact hbm)
                  · exact .inl hend))
                have wk : IntKind.u8.wrap (K : Int) = (K : Int) := by rw [IntKind.wrap_u8]; omega
                have FIN := Lib.hid (show ∀ w5 : World, (wr.alloc (.cells #[.int .u8 (i : Nat), .int .u8 (K : Nat)] 54)).grownBy w5 u3.ownBlock → w5.heap[w.heap.size]? = some (.cells (cb N.testBit) 57 (0, 0)) ∧ Below w.heap.size w w5 from fun w5 hgr => by
                  have kB := HO.out.2
                  have hk : ∀ k, k ≤ w.heap.size → some k ≠ u3.ownBlock := fun k hk e => by
                    rcases kB with ⟨q, _⟩ | ⟨g, cap, cur, q, q3, _⟩
                    · rw [q] at e; simp [Value.ownBlock] at e
                    · rw [q] at e; simp [Value.ownBlock] at e; omega
                  have hs5 := hgr.size
                  simp only [World.size_alloc] at hs5
                  refine ⟨(hgr.block _ (by simp; omega) (hk _ (Nat.le_refl _))).trans (blk_alloc HA.out _), HB.out.trans ⟨hgr.os, hgr.tape, hgr.output, by omega, fun k hk2 => (hgr.block k (by simp; omega) (hk k (by omega))).trans (Below.heap_alloc wr _ k (by omega))⟩⟩)
                rcases hend with ⟨m, em, hK3, hm, hbm⟩ | hend
                · have v3 := blk_cell HA.out m _ (cb_at _ _ (by omega))
                  rw [hbm] at v3
                  have hm2 : (m : Int) < 256 := by omega
                  clear hbm hm
                  go_wp2_with (at_builtin; refine wpList_append_lies _ rfl (.tmp 39) (.tmp 45) 50 rfl (w.heap.size + 1) 54 i0 (.agg #[.int .u8 0, .int .u8 0]) 2 2 Tryz.underlying50 I0.out Z0.out Z1.out Z2.out rfl (by decide) u3 L.length (prs L) rfl (HO.out.alloc _) ⟨wr.heap.size, 0, none⟩ 1 1 [.int .u8 (i : Nat), .int .u8 (K : Nat)] rfl rfl (pair_cells _ _ _ _) (by simp [Value.oneCell']) (by omega) (by have := HLL.out; unfold maxLen; omega) (by have := HLL.out; omega) (by simp; omega) _ rfl ?_)
                  intro g1 cp1 w5 ho hgr hat hlt
                  obtain ⟨f1, f2⟩ := FIN.out w5 hgr
                  rw [show prs L ++ [.int .u8 (i : Nat), .int .u8 (K : Nat)] = prs (L ++ [(i, K)]) from (prs_snoc L i K).symm] at ho
                  have HO5 := Lib.hid ho
                  have HA5 := Lib.hid f1
                  have HB5 := Lib.hid f2
                  clear ho f1 f2 hgr hat hlt v1
                  go_wp2
                  go_roundw
                  case rel => exact ⟨i + 1, L ++ [(i, K)], by omega, by simp, HE, by simpa using HO5, HA5, HB5⟩
                  case measure => simp [intOf] <;> omega
                · have hK3 : ¬ ((K : Int) < 255) := by omega
                  clear hend
                  go_wp2_with (at_builtin; refine wpList_append_lies _ rfl (.tmp 39) (.tmp 45) 50 rfl (w.heap.size + 1) 54 i0 (.agg #[.int .u8 0, .int .u8 0]) 2 2 Tryz.underlying50 I0.out Z0.out Z1.out Z2.out rfl (by decide) u3 L.length (prs L) rfl (HO.out.alloc _) ⟨wr.heap.size, 0, none⟩ 1 1 [.int .u8 (i : Nat), .int .u8 (K : Nat)] rfl rfl (pair_cells _ _ _ _) (by simp [Value.oneCell']) (by omega) (by have := HLL.out; unfold maxLen; omega) (by have := HLL.out; omega) (by simp; omega) _ rfl ?_)
                  intro g1 cp1 w5 ho hgr hat hlt
                  obtain ⟨f1, f2⟩ := FIN.out w5 hgr
                  rw [show prs L ++ [.int .u8 (i : Nat), .int .u8 (K : Nat)] = prs (L ++ [(i, K)]) from (prs_snoc L i K).symm] at ho
                  have HO5 := Lib.hid ho
                  have HA5 := Lib.hid f1
                  have HB5 := Lib.hid f2
                  clear ho f1 f2 hgr hat hlt v1
                  go_wp2
                  go_roundw
                  case rel => exact ⟨i + 1, L ++ [(i, K)], by omega, by simp, HE, by simpa using HO5, HA5, HB5⟩
                  case measure => simp [intOf] <;> omega
    · obtain rfl : i = 256 := by omega
      have HE := Lib.hid (HR.out.all hN)
      go_wp2
      go_ret
      refine ⟨⟨_, rfl, ?_⟩, HB.out⟩
      rw [← HE.out]
      exact Row.of_owns HO.out
end Go.Proofs.YtaaihcojedibeaaGreatDoor.RSet
end
section
/- The document's pattern of a set. -/
namespace Go.Proofs.YtaaihcojedibeaaGreatDoor.RShow
open Go.RowKit CMem CBits CSet CMake CLen CRng CRuns CPlain CRunsP CRunsQ CArr DRow DDeep DSizes SText SSpec RSet RText Go.Proofs.YtaaihcojedibeaaGreatDoorW.PrintWords Go.Proofs.YtaaihcojedibeaaGreatDoorW.PrintLast Go.Proofs.YtaaihcojedibeaaGreatDoorW.PrintMore
set_option linter.unusedVariables false
set_option linter.unusedSimpArgs false
set_option maxRecDepth 100000
set_option maxHeartbeats 12800000 in
theorem rset_calls (N : Nat) (hN : N < 2 ^ 256) (w : World) : Calls Tryz.prog 9 #[.agg (sc N)] w fun e w' => e = .returned (.string (setB N)) ∧ Below w.heap.size w w' := by
  have KO := Lib.hid (fun W => rof_calls N W)
  have KR := Lib.hid (fun W => rranges_calls N hN W)
  have KL := Lib.hid (fun W => rlen_calls N W)
  have KT := Lib.hid (fun c hc W => rtext_calls c hc W)
  have HB0 := Lib.hid (below1 w (.cells (sc N) 26))
  have HR := Lib.hid (runs_ok hN)
  obtain ⟨R, hR⟩ : ∃ R, setB N = R := ⟨_, rfl⟩
  rw [hR]
  unfold setB at hR
  have hlen := runs_len N
  generalize runs N = L at *
  obtain ⟨r, hr⟩ : ∃ r, L.length = r := ⟨_, rfl⟩
  rw [hr] at hR hlen
  have HN := Lib.hid hr
  obtain ⟨q, hq⟩ : ∃ q, cnt N 256 = q := ⟨_, rfl⟩
  rw [hq] at hR KL
  replace hR := Lib.hid hR
  obtain ⟨F, hF⟩ : ∃ F, N.testBit = F := ⟨_, rfl⟩
  rw [hF] at KO KR KL
  clear hr hq hF
  have hsc : sc N = #[.int .u64 (wd N 0 : Nat), .int .u64 (wd N 1 : Nat), .int .u64 (wd N 2 : Nat), .int .u64 (wd N 3 : Nat)] := rfl
  rw [hsc] at KO HB0 ⊢
  generalize ((wd N 0 : Nat) : Int) = x0 at *
  generalize ((wd N 1 : Nat) : Int) = x1 at *
  generalize ((wd N 2 : Nat) : Int) = x2 at *
  generalize ((wd N 3 : Nat) : Int) = x3 at *
  clear hsc
  go_enter Tryz.func9, Tryz.ntmps9
  go_wp2_with fail
  refine (KO.out _).mono ?_
  rintro e w2 ⟨rfl, hb⟩
  have HB2 := Lib.hid (below_step HB0.out hb)
  clear hb HB0 KO
  have hz := zero_row
  have hs := cb_size
  have BZ := Lib.hid (heap_alloc_new w2 zr)
  have BR : Hid (((w2.alloc zr).setRow w2.heap.size (cb F)).heap[w2.heap.size]? = some (.cells (cb F) 57 (0, 0))) := Lib.hid (setRow_heap _ _ _ _ _ _ BZ.out)
  have HB3 : Hid (Below w.heap.size w ((w2.alloc zr).setRow w2.heap.size (cb F))) := Lib.hid (below_row (HB2.out.alloc HB2.out.size zr) HB2.out.size (cb F))
  go_wp2_with (first
    | refine wpList_store_row rfl 57 _ _ rfl (w2.heap.size) (cb F) rfl rfl _ _ BZ.out (by rw [cb_size]; kernel_rfl) (by rw [cb_size, cb_size]) (cb_one F) ?_
    | refine wpList_load_row rfl 57 _ rfl (w2.heap.size) rfl _ _ _ _ BR.out Tryz.underlying57 rfl (by rw [cb_size]; kernel_rfl) ?_)
  refine (KR.out _).mono ?_
  rintro e w4 ⟨⟨v, rfl, hO⟩, hb⟩
  have BR4 := Lib.hid (below_blk hb BR.out)
  have HB4 := Lib.hid (below_step HB3.out hb)
  clear hb BR HB3 BZ KR hz
  rcases Nat.eq_zero_or_pos r with hr0 | hr0
  · subst hr0
    have K0 : Hid (∀ W : World, Calls Tryz.prog 21 #[.int .u8 0] W fun e w' => e = .returned (.string ⟨#[92, 120, 48, 48]⟩) ∧ Below W.heap.size W w') := Lib.hid (KT.out 0 (by decide))
    have K1 : Hid (∀ W : World, Calls Tryz.prog 21 #[.int .u8 255] W fun e w' => e = .returned (.string ⟨#[92, 120, 102, 102]⟩) ∧ Below W.heap.size W w') := Lib.hid (KT.out 255 (by decide))
    have hv : v = .slice none 0 0 ∨ ∃ g c, v = .slice (some ⟨g, 0, none⟩) 0 c := by
      rcases hO with ⟨h, _⟩ | ⟨g, c, h, _⟩
      · exact .inl h
      · rw [HN.out] at h; exact .inr ⟨g, c, h⟩
    clear hO KT KL
    rcases hv with rfl | ⟨g, c, rfl⟩
    all_goals
      go_wp2_with fail
      refine (K0.out _).mono ?_
      rintro e w5 ⟨rfl, hb⟩
      have HB5 := Lib.hid (below_step HB4.out hb)
      clear hb
      go_wp2_with fail
      refine (K1.out _).mono ?_
      rintro e w6 ⟨rfl, hb⟩
      have HB6 := Lib.hid (below_step HB5.out hb)
      clear hb
      go_wp2
      go_ret
      exact ⟨by rw [← hR.out]; rfl, HB6.out⟩
  obtain ⟨g, c, rfl, hO2⟩ : ∃ g c, v = .slice (some ⟨g, 0, none⟩) r c ∧ ∀ i (h : i < L.length), w4.cell? ⟨g, i * 2, none⟩ = some (.int .u8 (L[i].1 : Nat)) ∧ w4.cell? ⟨g, i * 2 + 1, none⟩ = some (.int .u8 (L[i].2 : Nat)) := by
    rcases hO with ⟨_, h⟩ | ⟨g, c, h, hc⟩
    · rw [← HN.out, h] at hr0; exact absurd hr0 (by decide)
    · rw [HN.out] at h; exact ⟨g, c, h, hc⟩
  have HC := Lib.hid (fun (k : Nat) (p : Nat × Nat) (h : L[k]? = some p) => (show w4.cell? ⟨g, k * 2, none⟩ = some (.int .u8 (p.1 : Nat)) ∧ w4.cell? ⟨g, k * 2 + 1, none⟩ = some (.int .u8 (p.2 : Nat)) from by
    obtain ⟨hk, he⟩ := List.getElem?_eq_some_iff.1 h
    rw [← he]; exact hO2 k hk))
  clear hO hO2
  have hz : ((r : Int) == 0) = false := by simp; omega
  go_wp2_with (first
    | refine wpList_load_row rfl 57 _ rfl (w2.heap.size) rfl _ _ _ _ BR4.out Tryz.underlying57 rfl (by rw [cb_size]; kernel_rfl) ?_)
  refine (KL.out _).mono ?_
  rintro e w5 ⟨rfl, hb⟩
  have HB5 := Lib.hid (below_step HB4.out hb)
  have HD := Lib.hid hb
  clear hb BR4 HB4 KL hz hs
  have hr1 : ¬ r = 0 := by omega
  by_cases hq : q = 1
  · have hq1 : ((q : Int) == 1) = true := by simp; omega
    obtain ⟨p, hp⟩ : ∃ p, L[0]? = some p := ⟨_, List.getElem?_eq_getElem (by rw [HN.out]; exact hr0)⟩
    have hrng := HR.out.1 p (List.mem_of_getElem? hp)
    have c0 := below_of HD.out (HC.out 0 p hp).1
    have hd : L.getD 0 (0, 0) = p := by rw [List.getD_eq_getElem?_getD, hp]; rfl
    rw [hd] at hR
    obtain ⟨p1, p2⟩ := p
    have K1 := Lib.hid (KT.out p1 (by simp only [] at hrng; omega))
    simp only [] at c0 hR
    clear hp hd hrng HC HD KT
    have hr2 : (0 : Int) < (r : Int) := by omega
    go_wp2_with fail
    refine (K1.out _).mono ?_
    rintro e w6 ⟨rfl, hb⟩
    have HB6 := Lib.hid (below_step HB5.out hb)
    clear hb
    go_wp2
    go_ret
    exact ⟨by rw [← hR.out, if_neg hr1, if_pos hq]; rfl, HB6.out⟩
  · have hq1 : ((q : Int) == 1) = false := by simp; omega
    go_wp2
    clear hq1
    go_loopw [5, 6] (fun o t wr => ∃ (k : Nat) (s : ByteArray), k ≤ r ∧ o = .string s ∧ t = .int .i64 (k : Nat) ∧ s.size ≤ 2400 ∧ Hid (s = rngs (L.take k) ⟨#[91]⟩) ∧ Hid (Below w.heap.size w wr) ∧ Hid (Below w4.heap.size w4 wr)) (fun _ t _ => r - (intOf t).toNat)
    case atStart => exact ⟨0, ⟨#[91]⟩, Nat.zero_le _, rfl, rfl, by decide, Lib.hid rfl, HB5, HD⟩
    case round =>
      clear HB5 HD
      obtain ⟨k, s, hk, rfl, rfl, hs, HS, HB, HD⟩ := hrel
      by_cases h : k < r
      · have hk2 : (k : Int) < (r : Int) := by omega
        obtain ⟨p, hp⟩ : ∃ p, L[k]? = some p := ⟨_, List.getElem?_eq_getElem (by rw [HN.out]; exact h)⟩
        have hrng := HR.out.1 p (List.mem_of_getElem? hp)
        have hsn := rngs_snoc L ⟨#[91]⟩ k p hp
        have hsz := rngs_size (L.take (k + 1)) ⟨#[91]⟩
        have hsz2 : (L.take (k + 1)).length ≤ 257 := by rw [List.length_take, HN.out]; omega
        have e91 : (⟨#[91]⟩ : ByteArray).size = 1 := rfl
        have e45 : (⟨#[45]⟩ : ByteArray).size = 1 := rfl
        rw [← HS.out] at hsn
        have hsz3 : (sst s p).size ≤ 2400 := by rw [← hsn]; omega
        have HS3 := Lib.hid hsz3
        have HSN := Lib.hid hsn
        have HC0 := Lib.hid (below_of HD.out (HC.out k p hp).1)
        have HC1 := Lib.hid (below_of HD.out (HC.out k p hp).2)
        obtain ⟨p1, p2⟩ := p
        simp only [] at HC0 HC1 hrng
        have K1 := Lib.hid (KT.out p1 (by omega))
        have K2 := Lib.hid (KT.out p2 (by omega))
        have HRG := Lib.hid hrng
        have t1s := txt_size p1
        have t2s := txt_size p2
        unfold sst at HSN HS3
        simp only [] at HSN HS3
        generalize txt p1 = t1 at *
        generalize txt p2 = t2 at *
        have c0 := HC0.out
        clear hp hsn hsz hsz2 hsz3 hrng HS
        go_wp2_with fail
        refine (K1.out _).mono ?_
        rintro e w7 ⟨rfl, hb⟩
        have HB7 := Lib.hid (below_step HB.out hb).drew
        have HD7 := Lib.hid (below_step HD.out hb).drew
        have c1 := below_of hb.drew HC0.out
        have c2 := below_of hb.drew HC1.out
        clear hb c0 HB HD HC0 HC1
        rcases Nat.lt_or_ge p1 p2 with hlt | hge
        · have hne : ((p1 : Int) != (p2 : Int)) = true := by simp; omega
          go_wp2
          go_region
          all_goals try go_wp2_with fail
          refine (K2.out _).mono ?_
          rintro e w8 ⟨rfl, hb⟩
          have HB8 := Lib.hid (below_step HB7.out hb)
          have HD8 := Lib.hid (below_step HD7.out hb)
          clear hb HB7 HD7 c1 c2 K2
          go_wp2
          go_roundw
          case rel => exact ⟨k + 1, _, by omega, rfl, by simp, by have := HS3.out; rw [if_pos hlt] at this; exact this, Lib.hid (by have := HSN.out; rw [if_pos hlt] at this; exact this.symm), HB8, HD8⟩
          case measure => simp [intOf]; omega
        · have hne : ((p1 : Int) != (p2 : Int)) = false := by have := HRG.out; simp; omega
          have hlt : ¬ p1 < p2 := by omega
          go_wp2
          go_region
          all_goals try go_wp2
          go_roundw
          case rel => exact ⟨k + 1, _, by omega, rfl, by simp, by have := HS3.out; rw [if_neg hlt] at this; exact this, Lib.hid (by have := HSN.out; rw [if_neg hlt] at this; exact this.symm), HB7, HD7⟩
          case measure => simp [intOf]; omega
      · obtain rfl : r = k := by omega
        have hk2 : ¬ ((r : Int) < (r : Int)) := by omega
        have e93 : (⟨#[93]⟩ : ByteArray).size = 1 := rfl
        have hall := HS.out
        rw [List.take_of_length_le (by rw [HN.out]; exact Nat.le_refl _)] at hall
        replace hall := Lib.hid hall
        go_wp2
        go_ret
        exact ⟨by rw [← hR.out, if_neg hr1, if_neg hq, hall.out]; rfl, HB.out⟩
end Go.Proofs.YtaaihcojedibeaaGreatDoor.RShow
end
section
/- The document's numerals, up to 100. -/
namespace Go.Proofs.YtaaihcojedibeaaGreatDoor.RNum
open Go.RowKit CMem DRow DDeep DSizes SText SSpec HNum Q Go.Proofs.YtaaihcojedibeaaGreatDoorW.PrintWords Go.Proofs.YtaaihcojedibeaaGreatDoorW.PrintLast Go.Proofs.YtaaihcojedibeaaGreatDoorW.PrintMore
set_option linter.unusedVariables false
set_option linter.unusedSimpArgs false
set_option maxRecDepth 100000
theorem num_small (n : Nat) (h : n < 10) : num (n : Nat) = ⟨#[UInt8.ofNat (48 + n)]⟩ := by
  unfold num
  rw [itoa_small (by omega) (by omega), if_neg (by omega), Int.natAbs_natCast]
theorem num_big (n : Nat) (h : ¬ n < 10) : num (n : Nat) = num ((n / 10 : Nat) : Int) ++ ⟨#[UInt8.ofNat (48 + n % 10)]⟩ := by
  have e1 : Int.tdiv (n : Nat) 10 = ((n / 10 : Nat) : Int) := by rw [Int.tdiv_eq_ediv_of_nonneg (by omega)]; omega
  have e2 : Int.tmod (n : Nat) 10 = ((n % 10 : Nat) : Int) := by rw [Int.tmod_eq_emod_of_nonneg (by omega)]; omega
  have h2 := itoa_step (n := (n : Nat)) (by rw [e1]; omega)
  rw [e1, e2, Int.natAbs_natCast] at h2
  unfold num
  rw [h2]
  apply ByteArray.ext
  simp
set_option maxHeartbeats 6400000 in
theorem rnum_calls : ∀ (n : Nat), n ≤ 100 → ∀ w : World, Calls Tryz.prog 66 #[.int .i64 (n : Nat)] w fun e w' => e = .returned (.string (num (n : Nat))) ∧ Below w.heap.size w w' := by
  intro n
  induction n using Nat.strongRecOn with
  | ind n ih =>
    intro hn w
    have hk := one_byte (48 + n % 10) (by omega) w
    have hB := Lib.hid (below1 w (.cells #[.int .u8 (48 + n % 10 : Nat)] 5))
    have hc : ((48 + n % 10 : Nat) : Int) = 48 + ((n % 10 : Nat) : Int) := by omega
    rw [hc] at hk hB
    have e2 : (n : Int) % 10 = ((n % 10 : Nat) : Int) := by omega
    have n10 : (n : Int) ≤ 100 := by omega
    by_cases h : n < 10
    · have h10 : ¬ (10 : Int) ≤ n := by omega
      rw [num_small n h, show UInt8.ofNat (48 + n) = UInt8.ofNat (48 + n % 10) by rw [Nat.mod_eq_of_lt h]]
      have r10 : n % 10 < 10 := by omega
      generalize UInt8.ofNat (48 + n % 10) = b at *
      generalize n % 10 = r at *
      clear hc hn h ih
      go_enter Tryz.func66, Tryz.ntmps66
      go_wp2
      go_ret
      exact ⟨rfl, hB.out⟩
    · rw [num_big n h]
      have K := Lib.hid (fun W => ih (n / 10) (by omega) (by omega) W)
      have hsz := num_size (n := ((n / 10 : Nat) : Int)) (by omega) (by omega)
      obtain ⟨s, hs⟩ : ∃ s, num ((n / 10 : Nat) : Int) = s := ⟨_, rfl⟩
      rw [hs] at K hsz ⊢
      have h10 : (10 : Int) ≤ n := by omega
      have e1 : (n : Int) / 10 = ((n / 10 : Nat) : Int) := by omega
      have r10 : n % 10 < 10 := by omega
      have l1 : (⟨#[UInt8.ofNat (48 + n % 10)]⟩ : ByteArray).size = 1 := rfl
      generalize UInt8.ofNat (48 + n % 10) = b at *
      generalize n % 10 = r at *
      generalize n / 10 = q at *
      clear hc hn h ih hs
      go_enter Tryz.func66, Tryz.ntmps66
      go_wp2_with fail
      refine (K.out _).mono ?_
      rintro e w2 ⟨rfl, hb⟩
      have HB2 := Lib.hid (below_step hB.out hb)
      clear hb
      go_wp2
      go_ret
      exact ⟨rfl, HB2.out⟩
end Go.Proofs.YtaaihcojedibeaaGreatDoor.RNum
end
section
/- The document's often. -/
namespace Go.Proofs.YtaaihcojedibeaaGreatDoor.ROften
open Go.RowKit CMem DRow DDeep DSizes SText SSpec RNum Q Go.Proofs.YtaaihcojedibeaaGreatDoorW.PrintWords Go.Proofs.YtaaihcojedibeaaGreatDoorW.PrintLast Go.Proofs.YtaaihcojedibeaaGreatDoorW.PrintMore
set_option linter.unusedVariables false
set_option linter.unusedSimpArgs false
set_option maxRecDepth 100000
set_option maxHeartbeats 12800000 in
theorem o1 (sa : ByteArray) (xk xa xb y0 y1 y2 y3 o xn : Int) (xf : Bool) (ho : o = 0 ∨ o = 1 ∨ o = 2)  (KA : Hid (∀ W : World, Calls Tryz.prog 66 #[.int .i64 0] W fun e w' => e = .returned (.string sa) ∧ Below W.heap.size W w')) (za : sa.size ≤ 21) (w : World) :
    Calls Tryz.prog 36 #[.agg #[.int .i64 xk, .int .i64 xa, .int .i64 xb, .int .u64 y0, .int .u64 y1, .int .u64 y2, .int .u64 y3, .int .i64 0, .int .i64 (-1), .int .i64 o, .int .i64 xn, .bool xf]] w fun e w' => e = .returned (.string (⟨#[42]⟩ ++ mode o)) ∧ Below w.heap.size w w' := by
  have l1 : (⟨#[123]⟩ : ByteArray).size = 1 := rfl
  have l2 : (⟨#[125]⟩ : ByteArray).size = 1 := rfl
  have l3 : (⟨#[44, 125]⟩ : ByteArray).size = 2 := rfl
  have l4 : (⟨#[44]⟩ : ByteArray).size = 1 := rfl
  have l5 : (⟨#[63]⟩ : ByteArray).size = 1 := rfl
  have l6 : (⟨#[43]⟩ : ByteArray).size = 1 := rfl
  have l7 : (⟨#[42]⟩ : ByteArray).size = 1 := rfl
  have l8 : (⟨#[]⟩ : ByteArray).size = 0 := rfl
  have B0 := Lib.hid (heap_alloc_new w (.cells #[.int .i64 xk, .int .i64 xa, .int .i64 xb, .int .u64 y0, .int .u64 y1, .int .u64 y2, .int .u64 y3, .int .i64 0, .int .i64 (-1), .int .i64 o, .int .i64 xn, .bool xf] 46))
  have HB0 := Lib.hid (below1 w (.cells #[.int .i64 xk, .int .i64 xa, .int .i64 xb, .int .u64 y0, .int .u64 y1, .int .u64 y2, .int .u64 y3, .int .i64 0, .int .i64 (-1), .int .i64 o, .int .i64 xn, .bool xf] 46))
  go_enter Tryz.func36, Tryz.ntmps36
  go_wp2_with fail
  refine (KA.out _).mono ?_
  rintro e w2 ⟨rfl, hb⟩
  have B2 := Lib.hid (below_blk hb B0.out)
  have HB2 := Lib.hid (below_step HB0.out hb)
  have m4 := blk_cell B2.out 7 (.int .i64 0) rfl
  have m5 := blk_cell B2.out 8 (.int .i64 (-1)) rfl
  have m6 := blk_cell B2.out 9 (.int .i64 o) rfl
  clear hb B0 HB0
  have HB3 := Lib.hid (HB2.out.alloc HB2.out.size (.cells #[.string ⟨#[]⟩, .string ⟨#[63]⟩, .string ⟨#[43]⟩] 9))
  have m7 := blk_cell (blk_alloc B2.out (.cells #[.string ⟨#[]⟩, .string ⟨#[63]⟩, .string ⟨#[43]⟩] 9)) 9 (.int .i64 o) rfl
  clear HB2
  rcases ho with rfl | rfl | rfl
  all_goals
    go_wp2
    go_ret
    exact ⟨rfl, HB3.out⟩
set_option maxHeartbeats 12800000 in
theorem o2 (sa : ByteArray) (xk xa xb y0 y1 y2 y3 o xn : Int) (xf : Bool) (ho : o = 0 ∨ o = 1 ∨ o = 2)  (KA : Hid (∀ W : World, Calls Tryz.prog 66 #[.int .i64 1] W fun e w' => e = .returned (.string sa) ∧ Below W.heap.size W w')) (za : sa.size ≤ 21) (w : World) :
    Calls Tryz.prog 36 #[.agg #[.int .i64 xk, .int .i64 xa, .int .i64 xb, .int .u64 y0, .int .u64 y1, .int .u64 y2, .int .u64 y3, .int .i64 1, .int .i64 (-1), .int .i64 o, .int .i64 xn, .bool xf]] w fun e w' => e = .returned (.string (⟨#[43]⟩ ++ mode o)) ∧ Below w.heap.size w w' := by
  have l1 : (⟨#[123]⟩ : ByteArray).size = 1 := rfl
  have l2 : (⟨#[125]⟩ : ByteArray).size = 1 := rfl
  have l3 : (⟨#[44, 125]⟩ : ByteArray).size = 2 := rfl
  have l4 : (⟨#[44]⟩ : ByteArray).size = 1 := rfl
  have l5 : (⟨#[63]⟩ : ByteArray).size = 1 := rfl
  have l6 : (⟨#[43]⟩ : ByteArray).size = 1 := rfl
  have l7 : (⟨#[42]⟩ : ByteArray).size = 1 := rfl
  have l8 : (⟨#[]⟩ : ByteArray).size = 0 := rfl
  have B0 := Lib.hid (heap_alloc_new w (.cells #[.int .i64 xk, .int .i64 xa, .int .i64 xb, .int .u64 y0, .int .u64 y1, .int .u64 y2, .int .u64 y3, .int .i64 1, .int .i64 (-1), .int .i64 o, .int .i64 xn, .bool xf] 46))
  have HB0 := Lib.hid (below1 w (.cells #[.int .i64 xk, .int .i64 xa, .int .i64 xb, .int .u64 y0, .int .u64 y1, .int .u64 y2, .int .u64 y3, .int .i64 1, .int .i64 (-1), .int .i64 o, .int .i64 xn, .bool xf] 46))
  go_enter Tryz.func36, Tryz.ntmps36
  go_wp2_with fail
  refine (KA.out _).mono ?_
  rintro e w2 ⟨rfl, hb⟩
  have B2 := Lib.hid (below_blk hb B0.out)
  have HB2 := Lib.hid (below_step HB0.out hb)
  have m4 := blk_cell B2.out 7 (.int .i64 1) rfl
  have m5 := blk_cell B2.out 8 (.int .i64 (-1)) rfl
  have m6 := blk_cell B2.out 9 (.int .i64 o) rfl
  clear hb B0 HB0
  have HB3 := Lib.hid (HB2.out.alloc HB2.out.size (.cells #[.string ⟨#[]⟩, .string ⟨#[63]⟩, .string ⟨#[43]⟩] 9))
  have m7 := blk_cell (blk_alloc B2.out (.cells #[.string ⟨#[]⟩, .string ⟨#[63]⟩, .string ⟨#[43]⟩] 9)) 9 (.int .i64 o) rfl
  clear HB2
  rcases ho with rfl | rfl | rfl
  all_goals
    go_wp2
    go_ret
    exact ⟨rfl, HB3.out⟩
set_option maxHeartbeats 12800000 in
theorem o3 (sa : ByteArray) (xk xa xb y0 y1 y2 y3 o xn : Int) (xf : Bool) (ho : o = 0 ∨ o = 1 ∨ o = 2) (a : Int) (a0 : (a == 0) = false) (a1 : (a == 1) = false) (KA : Hid (∀ W : World, Calls Tryz.prog 66 #[.int .i64 a] W fun e w' => e = .returned (.string sa) ∧ Below W.heap.size W w')) (za : sa.size ≤ 21) (w : World) :
    Calls Tryz.prog 36 #[.agg #[.int .i64 xk, .int .i64 xa, .int .i64 xb, .int .u64 y0, .int .u64 y1, .int .u64 y2, .int .u64 y3, .int .i64 a, .int .i64 (-1), .int .i64 o, .int .i64 xn, .bool xf]] w fun e w' => e = .returned (.string (⟨#[123]⟩ ++ sa ++ ⟨#[44, 125]⟩ ++ mode o)) ∧ Below w.heap.size w w' := by
  have l1 : (⟨#[123]⟩ : ByteArray).size = 1 := rfl
  have l2 : (⟨#[125]⟩ : ByteArray).size = 1 := rfl
  have l3 : (⟨#[44, 125]⟩ : ByteArray).size = 2 := rfl
  have l4 : (⟨#[44]⟩ : ByteArray).size = 1 := rfl
  have l5 : (⟨#[63]⟩ : ByteArray).size = 1 := rfl
  have l6 : (⟨#[43]⟩ : ByteArray).size = 1 := rfl
  have l7 : (⟨#[42]⟩ : ByteArray).size = 1 := rfl
  have l8 : (⟨#[]⟩ : ByteArray).size = 0 := rfl
  have B0 := Lib.hid (heap_alloc_new w (.cells #[.int .i64 xk, .int .i64 xa, .int .i64 xb, .int .u64 y0, .int .u64 y1, .int .u64 y2, .int .u64 y3, .int .i64 a, .int .i64 (-1), .int .i64 o, .int .i64 xn, .bool xf] 46))
  have HB0 := Lib.hid (below1 w (.cells #[.int .i64 xk, .int .i64 xa, .int .i64 xb, .int .u64 y0, .int .u64 y1, .int .u64 y2, .int .u64 y3, .int .i64 a, .int .i64 (-1), .int .i64 o, .int .i64 xn, .bool xf] 46))
  go_enter Tryz.func36, Tryz.ntmps36
  go_wp2_with fail
  refine (KA.out _).mono ?_
  rintro e w2 ⟨rfl, hb⟩
  have B2 := Lib.hid (below_blk hb B0.out)
  have HB2 := Lib.hid (below_step HB0.out hb)
  have m4 := blk_cell B2.out 7 (.int .i64 a) rfl
  have m5 := blk_cell B2.out 8 (.int .i64 (-1)) rfl
  have m6 := blk_cell B2.out 9 (.int .i64 o) rfl
  clear hb B0 HB0
  have HB3 := Lib.hid (HB2.out.alloc HB2.out.size (.cells #[.string ⟨#[]⟩, .string ⟨#[63]⟩, .string ⟨#[43]⟩] 9))
  have m7 := blk_cell (blk_alloc B2.out (.cells #[.string ⟨#[]⟩, .string ⟨#[63]⟩, .string ⟨#[43]⟩] 9)) 9 (.int .i64 o) rfl
  clear HB2
  rcases ho with rfl | rfl | rfl
  all_goals
    go_wp2
    go_ret
    exact ⟨rfl, HB3.out⟩
set_option maxHeartbeats 12800000 in
theorem o4 (sa sb : ByteArray) (xk xa xb y0 y1 y2 y3 o xn : Int) (xf : Bool) (ho : o = 0 ∨ o = 1 ∨ o = 2)  (KA : Hid (∀ W : World, Calls Tryz.prog 66 #[.int .i64 0] W fun e w' => e = .returned (.string sa) ∧ Below W.heap.size W w')) (za : sa.size ≤ 21) (KB : Hid (∀ W : World, Calls Tryz.prog 66 #[.int .i64 1] W fun e w' => e = .returned (.string sb) ∧ Below W.heap.size W w')) (zb : sb.size ≤ 21) (w : World) :
    Calls Tryz.prog 36 #[.agg #[.int .i64 xk, .int .i64 xa, .int .i64 xb, .int .u64 y0, .int .u64 y1, .int .u64 y2, .int .u64 y3, .int .i64 0, .int .i64 1, .int .i64 o, .int .i64 xn, .bool xf]] w fun e w' => e = .returned (.string (⟨#[63]⟩ ++ mode o)) ∧ Below w.heap.size w w' := by
  have l1 : (⟨#[123]⟩ : ByteArray).size = 1 := rfl
  have l2 : (⟨#[125]⟩ : ByteArray).size = 1 := rfl
  have l3 : (⟨#[44, 125]⟩ : ByteArray).size = 2 := rfl
  have l4 : (⟨#[44]⟩ : ByteArray).size = 1 := rfl
  have l5 : (⟨#[63]⟩ : ByteArray).size = 1 := rfl
  have l6 : (⟨#[43]⟩ : ByteArray).size = 1 := rfl
  have l7 : (⟨#[42]⟩ : ByteArray).size = 1 := rfl
  have l8 : (⟨#[]⟩ : ByteArray).size = 0 := rfl
  have B0 := Lib.hid (heap_alloc_new w (.cells #[.int .i64 xk, .int .i64 xa, .int .i64 xb, .int .u64 y0, .int .u64 y1, .int .u64 y2, .int .u64 y3, .int .i64 0, .int .i64 1, .int .i64 o, .int .i64 xn, .bool xf] 46))
  have HB0 := Lib.hid (below1 w (.cells #[.int .i64 xk, .int .i64 xa, .int .i64 xb, .int .u64 y0, .int .u64 y1, .int .u64 y2, .int .u64 y3, .int .i64 0, .int .i64 1, .int .i64 o, .int .i64 xn, .bool xf] 46))
  go_enter Tryz.func36, Tryz.ntmps36
  go_wp2_with fail
  refine (KA.out _).mono ?_
  rintro e w2 ⟨rfl, hb⟩
  have B2 := Lib.hid (below_blk hb B0.out)
  have HB2 := Lib.hid (below_step HB0.out hb)
  have m4 := blk_cell B2.out 7 (.int .i64 0) rfl
  have m5 := blk_cell B2.out 8 (.int .i64 1) rfl
  have m6 := blk_cell B2.out 9 (.int .i64 o) rfl
  clear hb B0 HB0
  go_wp2_with fail
  refine (KB.out _).mono ?_
  rintro e w3 ⟨rfl, hb⟩
  have B3 := Lib.hid (below_blk hb B2.out)
  have HB3 := Lib.hid (below_step HB2.out hb)
  clear m4 m5 m6
  have m4 := blk_cell B3.out 7 (.int .i64 0) rfl
  have m5 := blk_cell B3.out 8 (.int .i64 1) rfl
  have m6 := blk_cell B3.out 9 (.int .i64 o) rfl
  clear hb B2
  have HB4 := Lib.hid (HB3.out.alloc HB3.out.size (.cells #[.string ⟨#[]⟩, .string ⟨#[63]⟩, .string ⟨#[43]⟩] 9))
  have m7 := blk_cell (blk_alloc B3.out (.cells #[.string ⟨#[]⟩, .string ⟨#[63]⟩, .string ⟨#[43]⟩] 9)) 9 (.int .i64 o) rfl
  clear HB2 HB3
  rcases ho with rfl | rfl | rfl
  all_goals
    go_wp2
    go_ret
    exact ⟨rfl, HB4.out⟩
set_option maxHeartbeats 12800000 in
theorem o5 (sa : ByteArray) (xk xa xb y0 y1 y2 y3 o xn : Int) (xf : Bool) (ho : o = 0 ∨ o = 1 ∨ o = 2) (a : Int) (a0 : ¬ a < 0) (a1 : (a == 1) = false) (KA : Hid (∀ W : World, Calls Tryz.prog 66 #[.int .i64 a] W fun e w' => e = .returned (.string sa) ∧ Below W.heap.size W w')) (za : sa.size ≤ 21) (w : World) :
    Calls Tryz.prog 36 #[.agg #[.int .i64 xk, .int .i64 xa, .int .i64 xb, .int .u64 y0, .int .u64 y1, .int .u64 y2, .int .u64 y3, .int .i64 a, .int .i64 a, .int .i64 o, .int .i64 xn, .bool xf]] w fun e w' => e = .returned (.string (⟨#[123]⟩ ++ sa ++ ⟨#[125]⟩ ++ mode o)) ∧ Below w.heap.size w w' := by
  have l1 : (⟨#[123]⟩ : ByteArray).size = 1 := rfl
  have l2 : (⟨#[125]⟩ : ByteArray).size = 1 := rfl
  have l3 : (⟨#[44, 125]⟩ : ByteArray).size = 2 := rfl
  have l4 : (⟨#[44]⟩ : ByteArray).size = 1 := rfl
  have l5 : (⟨#[63]⟩ : ByteArray).size = 1 := rfl
  have l6 : (⟨#[43]⟩ : ByteArray).size = 1 := rfl
  have l7 : (⟨#[42]⟩ : ByteArray).size = 1 := rfl
  have l8 : (⟨#[]⟩ : ByteArray).size = 0 := rfl
  have B0 := Lib.hid (heap_alloc_new w (.cells #[.int .i64 xk, .int .i64 xa, .int .i64 xb, .int .u64 y0, .int .u64 y1, .int .u64 y2, .int .u64 y3, .int .i64 a, .int .i64 a, .int .i64 o, .int .i64 xn, .bool xf] 46))
  have HB0 := Lib.hid (below1 w (.cells #[.int .i64 xk, .int .i64 xa, .int .i64 xb, .int .u64 y0, .int .u64 y1, .int .u64 y2, .int .u64 y3, .int .i64 a, .int .i64 a, .int .i64 o, .int .i64 xn, .bool xf] 46))
  go_enter Tryz.func36, Tryz.ntmps36
  go_wp2_with fail
  refine (KA.out _).mono ?_
  rintro e w2 ⟨rfl, hb⟩
  have B2 := Lib.hid (below_blk hb B0.out)
  have HB2 := Lib.hid (below_step HB0.out hb)
  have m4 := blk_cell B2.out 7 (.int .i64 a) rfl
  have m5 := blk_cell B2.out 8 (.int .i64 a) rfl
  have m6 := blk_cell B2.out 9 (.int .i64 o) rfl
  clear hb B0 HB0
  have HB3 := Lib.hid (HB2.out.alloc HB2.out.size (.cells #[.string ⟨#[]⟩, .string ⟨#[63]⟩, .string ⟨#[43]⟩] 9))
  have m7 := blk_cell (blk_alloc B2.out (.cells #[.string ⟨#[]⟩, .string ⟨#[63]⟩, .string ⟨#[43]⟩] 9)) 9 (.int .i64 o) rfl
  clear HB2
  rcases ho with rfl | rfl | rfl
  all_goals
    go_wp2
    go_ret
    exact ⟨rfl, HB3.out⟩
set_option maxHeartbeats 12800000 in
theorem o6 (sa : ByteArray) (xk xa xb y0 y1 y2 y3 o xn : Int) (xf : Bool) (ho : o = 0 ∨ o = 1 ∨ o = 2)  (KA : Hid (∀ W : World, Calls Tryz.prog 66 #[.int .i64 1] W fun e w' => e = .returned (.string sa) ∧ Below W.heap.size W w')) (za : sa.size ≤ 21) (w : World) :
    Calls Tryz.prog 36 #[.agg #[.int .i64 xk, .int .i64 xa, .int .i64 xb, .int .u64 y0, .int .u64 y1, .int .u64 y2, .int .u64 y3, .int .i64 1, .int .i64 1, .int .i64 o, .int .i64 xn, .bool xf]] w fun e w' => e = .returned (.string (⟨#[123]⟩ ++ sa ++ ⟨#[125]⟩ ++ mode o)) ∧ Below w.heap.size w w' := by
  have l1 : (⟨#[123]⟩ : ByteArray).size = 1 := rfl
  have l2 : (⟨#[125]⟩ : ByteArray).size = 1 := rfl
  have l3 : (⟨#[44, 125]⟩ : ByteArray).size = 2 := rfl
  have l4 : (⟨#[44]⟩ : ByteArray).size = 1 := rfl
  have l5 : (⟨#[63]⟩ : ByteArray).size = 1 := rfl
  have l6 : (⟨#[43]⟩ : ByteArray).size = 1 := rfl
  have l7 : (⟨#[42]⟩ : ByteArray).size = 1 := rfl
  have l8 : (⟨#[]⟩ : ByteArray).size = 0 := rfl
  have B0 := Lib.hid (heap_alloc_new w (.cells #[.int .i64 xk, .int .i64 xa, .int .i64 xb, .int .u64 y0, .int .u64 y1, .int .u64 y2, .int .u64 y3, .int .i64 1, .int .i64 1, .int .i64 o, .int .i64 xn, .bool xf] 46))
  have HB0 := Lib.hid (below1 w (.cells #[.int .i64 xk, .int .i64 xa, .int .i64 xb, .int .u64 y0, .int .u64 y1, .int .u64 y2, .int .u64 y3, .int .i64 1, .int .i64 1, .int .i64 o, .int .i64 xn, .bool xf] 46))
  go_enter Tryz.func36, Tryz.ntmps36
  go_wp2_with fail
  refine (KA.out _).mono ?_
  rintro e w2 ⟨rfl, hb⟩
  have B2 := Lib.hid (below_blk hb B0.out)
  have HB2 := Lib.hid (below_step HB0.out hb)
  have m4 := blk_cell B2.out 7 (.int .i64 1) rfl
  have m5 := blk_cell B2.out 8 (.int .i64 1) rfl
  have m6 := blk_cell B2.out 9 (.int .i64 o) rfl
  clear hb B0 HB0
  have HB3 := Lib.hid (HB2.out.alloc HB2.out.size (.cells #[.string ⟨#[]⟩, .string ⟨#[63]⟩, .string ⟨#[43]⟩] 9))
  have m7 := blk_cell (blk_alloc B2.out (.cells #[.string ⟨#[]⟩, .string ⟨#[63]⟩, .string ⟨#[43]⟩] 9)) 9 (.int .i64 o) rfl
  clear HB2
  rcases ho with rfl | rfl | rfl
  all_goals
    go_wp2
    go_ret
    exact ⟨rfl, HB3.out⟩
set_option maxHeartbeats 12800000 in
theorem o7 (sa sb : ByteArray) (xk xa xb y0 y1 y2 y3 o xn : Int) (xf : Bool) (ho : o = 0 ∨ o = 1 ∨ o = 2) (a b : Int) (b0 : ¬ b < 0) (b1 : (b == 1) = false) (bne : (b != a) = true) (KA : Hid (∀ W : World, Calls Tryz.prog 66 #[.int .i64 a] W fun e w' => e = .returned (.string sa) ∧ Below W.heap.size W w')) (za : sa.size ≤ 21) (KB : Hid (∀ W : World, Calls Tryz.prog 66 #[.int .i64 b] W fun e w' => e = .returned (.string sb) ∧ Below W.heap.size W w')) (zb : sb.size ≤ 21) (w : World) :
    Calls Tryz.prog 36 #[.agg #[.int .i64 xk, .int .i64 xa, .int .i64 xb, .int .u64 y0, .int .u64 y1, .int .u64 y2, .int .u64 y3, .int .i64 a, .int .i64 b, .int .i64 o, .int .i64 xn, .bool xf]] w fun e w' => e = .returned (.string (⟨#[123]⟩ ++ sa ++ (⟨#[44]⟩ ++ sb ++ ⟨#[125]⟩) ++ mode o)) ∧ Below w.heap.size w w' := by
  have l1 : (⟨#[123]⟩ : ByteArray).size = 1 := rfl
  have l2 : (⟨#[125]⟩ : ByteArray).size = 1 := rfl
  have l3 : (⟨#[44, 125]⟩ : ByteArray).size = 2 := rfl
  have l4 : (⟨#[44]⟩ : ByteArray).size = 1 := rfl
  have l5 : (⟨#[63]⟩ : ByteArray).size = 1 := rfl
  have l6 : (⟨#[43]⟩ : ByteArray).size = 1 := rfl
  have l7 : (⟨#[42]⟩ : ByteArray).size = 1 := rfl
  have l8 : (⟨#[]⟩ : ByteArray).size = 0 := rfl
  have B0 := Lib.hid (heap_alloc_new w (.cells #[.int .i64 xk, .int .i64 xa, .int .i64 xb, .int .u64 y0, .int .u64 y1, .int .u64 y2, .int .u64 y3, .int .i64 a, .int .i64 b, .int .i64 o, .int .i64 xn, .bool xf] 46))
  have HB0 := Lib.hid (below1 w (.cells #[.int .i64 xk, .int .i64 xa, .int .i64 xb, .int .u64 y0, .int .u64 y1, .int .u64 y2, .int .u64 y3, .int .i64 a, .int .i64 b, .int .i64 o, .int .i64 xn, .bool xf] 46))
  go_enter Tryz.func36, Tryz.ntmps36
  go_wp2_with fail
  refine (KA.out _).mono ?_
  rintro e w2 ⟨rfl, hb⟩
  have B2 := Lib.hid (below_blk hb B0.out)
  have HB2 := Lib.hid (below_step HB0.out hb)
  have m4 := blk_cell B2.out 7 (.int .i64 a) rfl
  have m5 := blk_cell B2.out 8 (.int .i64 b) rfl
  have m6 := blk_cell B2.out 9 (.int .i64 o) rfl
  clear hb B0 HB0
  go_wp2_with fail
  refine (KB.out _).mono ?_
  rintro e w3 ⟨rfl, hb⟩
  have B3 := Lib.hid (below_blk hb B2.out)
  have HB3 := Lib.hid (below_step HB2.out hb)
  clear m4 m5 m6
  have m4 := blk_cell B3.out 7 (.int .i64 a) rfl
  have m5 := blk_cell B3.out 8 (.int .i64 b) rfl
  have m6 := blk_cell B3.out 9 (.int .i64 o) rfl
  clear hb B2
  have HB4 := Lib.hid (HB3.out.alloc HB3.out.size (.cells #[.string ⟨#[]⟩, .string ⟨#[63]⟩, .string ⟨#[43]⟩] 9))
  have m7 := blk_cell (blk_alloc B3.out (.cells #[.string ⟨#[]⟩, .string ⟨#[63]⟩, .string ⟨#[43]⟩] 9)) 9 (.int .i64 o) rfl
  clear HB2 HB3
  rcases ho with rfl | rfl | rfl
  all_goals
    go_wp2
    go_ret
    exact ⟨rfl, HB4.out⟩
theorem roften_calls (x : S49) (h4 : 0 ≤ x.f4 ∧ x.f4 ≤ 100) (h5 : x.f5 ≤ 100 ∧ (x.f5 = -1 ∨ x.f4 ≤ x.f5)) (h6 : 0 ≤ x.f6 ∧ x.f6 ≤ 2) (w : World) :
    Calls Tryz.prog 36 #[.agg (nc x)] w fun e w' => e = .returned (.string (often x.f4 x.f5 x.f6)) ∧ Below w.heap.size w w' := by
  obtain ⟨xk, xa, xb, ⟨⟨y0, y1, y2, y3⟩⟩, mi, ma, o, xn, xf⟩ := x
  simp only [] at h4 h5 h6 ⊢
  obtain ⟨a, rfl⟩ := Int.eq_ofNat_of_zero_le h4.1
  have ho : o = 0 ∨ o = 1 ∨ o = 2 := by omega
  have za := num_size (n := (a : Nat)) (by omega) (by omega)
  have KA := Lib.hid (fun W => rnum_calls a (by omega) W)
  rcases h5.2 with rfl | h
  · by_cases a0 : a = 0
    · subst a0
      exact o1 _ xk xa xb y0 y1 y2 y3 o xn xf ho KA za w
    · by_cases a1 : a = 1
      · subst a1
        exact o2 _ xk xa xb y0 y1 y2 y3 o xn xf ho KA za w
      · have e : often (a : Nat) (-1) o = ⟨#[123]⟩ ++ num (a : Nat) ++ ⟨#[44, 125]⟩ ++ mode o := by
          unfold often
          rw [if_neg (by omega), if_neg (by omega), if_neg (by omega), if_neg (by omega), if_pos rfl]
        rw [e]
        exact o3 _ xk xa xb y0 y1 y2 y3 o xn xf ho (a : Nat) (by simp; omega) (by simp; omega) KA za w
  · obtain ⟨b, rfl⟩ := Int.eq_ofNat_of_zero_le (show 0 ≤ ma by omega)
    have zb := num_size (n := (b : Nat)) (by omega) (by omega)
    have KB := Lib.hid (fun W => rnum_calls b (by omega) W)
    by_cases hab : a = b
    · subst hab
      by_cases a1 : a = 1
      · subst a1
        exact o6 _ xk xa xb y0 y1 y2 y3 o xn xf ho KA za w
      · have e : often (a : Nat) (a : Nat) o = ⟨#[123]⟩ ++ num (a : Nat) ++ ⟨#[125]⟩ ++ mode o := by
          unfold often
          rw [if_neg (by omega), if_neg (by omega), if_neg (by omega), if_pos rfl]
        rw [e]
        exact o5 _ xk xa xb y0 y1 y2 y3 o xn xf ho (a : Nat) (by omega) (by simp; omega) KA za w
    · by_cases b1 : b = 1
      · subst b1
        obtain rfl : a = 0 := by omega
        exact o4 _ _ xk xa xb y0 y1 y2 y3 o xn xf ho KA za KB zb w
      · have e : often (a : Nat) (b : Nat) o = ⟨#[123]⟩ ++ num (a : Nat) ++ (⟨#[44]⟩ ++ num (b : Nat) ++ ⟨#[125]⟩) ++ mode o := by
          unfold often
          rw [if_neg (by omega), if_neg (by omega), if_neg (by omega), if_neg (by omega), if_neg (by omega)]
          simp only [ByteArray.append_assoc]
        rw [e]
        exact o7 _ _ xk xa xb y0 y1 y2 y3 o xn xf ho (a : Nat) (b : Nat) (by omega) (by simp; omega) (by simp; omega) KA za KB zb w
end Go.Proofs.YtaaihcojedibeaaGreatDoor.ROften
end
section
/- Trees and nodes that came in. -/
namespace Go.Proofs.YtaaihcojedibeaaGreatDoor.DArgS
open Go.RowKit Go.ChangeShapes Go.WideShapes Go.Deep DSizes SSpec Q Go.Proofs.YtaaihcojedibeaaGreatDoorW.PrintWords
set_option linter.unusedVariables false
set_option maxRecDepth 100000
variable {H : Type} {enc : TypeId × Value → H} {w : World} {base : Nat} {spare : Nat → Bool} {held : Bool}
theorem one_of {cs : List Value} {i : Nat} {v : Value} (h : (cs.drop i).take 1 = [v]) : cs[i]? = some v := by
  have := congrArg (·[0]?) h
  simpa [List.getElem?_take, List.getElem?_drop] using this
theorem arr_ints {P : Program} {k : IntKind} {n fuel : Nat} {t e : TypeId} {cs : List Value} {x : DataW H × List MemPlace} (ht : P.underlying t = some (.array n e)) (he : P.underlying e = some (.int k)) (hc : P.cellsOf e = 1)
    (h : DataW.trod enc P w base spare held fuel t cs = some x) : ∃ L : Nat → Int, ∀ i, i < n → cs[i]? = some (.int k (L i)) ∧ (Lit.int k (L i)).wf = true := by
  obtain ⟨xs, m, _, _, _, hxl, hel⟩ := DataW.trod_array ht h
  have each : ∀ i, i < n → ∃ f : Int, cs[i]? = some (.int k f) ∧ (Lit.int k f).wf = true := by
    intro i hi
    have g := hel i hi
    rw [hc, Nat.mul_one, List.getElem?_eq_getElem (by omega)] at g
    obtain ⟨f, q, _, wf⟩ := DataW.trod_int he g
    exact ⟨f, one_of q, wf⟩
  exact choose_lt (α := Int) each
theorem node_cells {fuel : Nat} {cs : List Value} {x : DataW H × List MemPlace} (hl : cs.length = 12) (h : DataW.trod enc Tryz.prog w base spare held fuel 49 cs = some x) : ∃ z : S49, cs = (nc z).toList ∧ OkN z := by
  have ci : Tryz.prog.cellsOf 3 = 1 := by kernel_rfl
  have cb : Tryz.prog.cellsOf 4 = 1 := by kernel_rfl
  have cS : Tryz.prog.cellsOf 28 = 4 := by kernel_rfl
  have cA : Tryz.prog.cellsOf 26 = 4 := by kernel_rfl
  obtain ⟨xs, k, hk, hxy, _, hxl, hff⟩ := DataW.trod_struct Tryz.underlying49 h
  match xs, hxl, cs, hl with
  | [y0, y1, y2, y3, y4, y5, y6, y7, y8], _, [v0, v1, v2, v3, v4, v5, v6, v7, v8, v9, v10, v11], _ =>
    have g0 := hff 0 _ rfl
    have g1 := hff 1 _ rfl
    have g2 := hff 2 _ rfl
    have g3 := hff 3 _ rfl
    have g4 := hff 4 _ rfl
    have g5 := hff 5 _ rfl
    have g6 := hff 6 _ rfl
    have g7 := hff 7 _ rfl
    have g8 := hff 8 _ rfl
    simp [ci, cb, cS] at g0 g1 g2 g3 g4 g5 g6 g7 g8
    obtain ⟨n0, q0, _, _⟩ := DataW.trod_int Tryz.underlying3 g0
    obtain ⟨n1, q1, _, _⟩ := DataW.trod_int Tryz.underlying3 g1
    obtain ⟨n2, q2, _, _⟩ := DataW.trod_int Tryz.underlying3 g2
    obtain ⟨n4, q4, _, _⟩ := DataW.trod_int Tryz.underlying3 g4
    obtain ⟨n5, q5, _, _⟩ := DataW.trod_int Tryz.underlying3 g5
    obtain ⟨n6, q6, _, _⟩ := DataW.trod_int Tryz.underlying3 g6
    obtain ⟨n7, q7, _, v7⟩ := DataW.trod_int Tryz.underlying3 g7
    obtain ⟨n8, q8, _⟩ := DataW.trod_bool Tryz.underlying4 g8
    obtain ⟨zs, k2, _, _, _, hzl, hzf⟩ := DataW.trod_struct Tryz.underlying28 g3
    match zs, hzl with
    | [u0], _ =>
      have r0 := hzf 0 _ rfl
      simp [cA] at r0
      obtain ⟨L, hL⟩ := arr_ints Tryz.underlying26 Tryz.underlying25 (by kernel_rfl) r0
      have l0 := (hL 0 (by omega)).1
      have u64r : ∀ i, i < 4 → in64 (L i) := fun i hi => by
        have h := (hL i hi).2
        have m1 : IntKind.u64.min = 0 := rfl
        have m2 : IntKind.u64.max = 18446744073709551615 := rfl
        simp [Lit.wf, m1, m2] at h
        unfold in64
        omega
      have i64r : -9223372036854775808 ≤ n7 ∧ n7 ≤ 9223372036854775807 := by
        have m1 : IntKind.i64.min = -9223372036854775808 := rfl
        have m2 : IntKind.i64.max = 9223372036854775807 := rfl
        simp [Lit.wf, m1, m2] at v7
        exact v7
      have l1 := (hL 1 (by omega)).1
      have l2 := (hL 2 (by omega)).1
      have l3 := (hL 3 (by omega)).1
      simp at l0 l1 l2 l3 q0 q1 q2 q4 q5 q6 q7 q8
      subst l0 l1 l2 l3 q0 q1 q2 q4 q5 q6 q7 q8
      exact ⟨⟨n0, n1, n2, ⟨⟨L 0, L 1, L 2, L 3⟩⟩, n4, n5, n6, n7, n8⟩, rfl, u64r 0 (by omega), u64r 1 (by omega), u64r 2 (by omega), u64r 3 (by omega), i64r⟩
/-- a tree that came in: address, nodes, room -/
structure TreeArg where
  A : Option Addr
  n : Nat
  c : Nat
  L : List S49
def TreeIn (W : World) (z : TreeArg) : Prop := z.L.length = z.n ∧ z.n ≤ z.c ∧ z.c ≤ 9223372036854775807 ∧ Kd.C k49 W z.A z.n z.L ∧ ∀ x ∈ z.L, OkN x
theorem open_nodes {a : Option Addr} {len cap : Nat} {fuel : Nat} {x : DataW H × List MemPlace} (h : DataW.trod enc Tryz.prog w base spare held fuel 22 [.slice a len cap] = some x) : ∃ L : List S49, L.length = len ∧ len ≤ cap ∧ cap ≤ 9223372036854775807 ∧ Kd.C k49 w a len L ∧ ∀ x ∈ L, OkN x := by
  have ce : Tryz.prog.cellsOf 49 = 12 := by kernel_rfl
  rcases open_slice Tryz.underlying22 h with ⟨hcs, _⟩ | ⟨x, l, c, m, n, D, Pl, hcs, _, hlc, hcm, hmm, _, hx⟩
  · simp at hcs
    obtain ⟨rfl, rfl, rfl⟩ := hcs
    exact ⟨[], rfl, by decide, by decide, ⟨rfl, by decide, fun h => absurd h (Nat.lt_irrefl _)⟩, fun x hx => by simp at hx⟩
  · simp at hcs
    obtain ⟨rfl, rfl, rfl⟩ := hcs
    have hlm : len ≤ m := by rw [hmm]; split <;> omega
    have each : ∀ i, i < len → ∃ f : S49, (∀ j u, (nc f).toList[j]? = some u → w.cell? (x.add (i * 12 + j)) = some u) ∧ OkN f := by
      intro i hi
      obtain ⟨cs', h1, h2⟩ := hx i (by omega)
      rw [ce] at h1
      obtain ⟨_, hlen, hcell⟩ := World.cells?_some h1
      obtain ⟨f, rfl, hok⟩ := node_cells hlen h2
      refine ⟨f, fun j u hj => ?_, hok⟩
      have hj2 : j < 12 := by
        rcases Nat.lt_or_ge j 12 with h | h
        · exact h
        · rw [List.getElem?_eq_none (by exact h)] at hj; cases hj
      have := hcell j hj2
      rw [Deep.add_add] at this
      rw [this, hj]
    haveI : Inhabited S49 := ⟨z49⟩
    obtain ⟨F, hF⟩ := choose_lt (α := S49) each
    have hcm2 : cap ≤ 9223372036854775807 := by first | exact hcm | (unfold maxLen at hcm; omega)
    refine ⟨(List.range len).map F, by simp, hlc, hcm2, ⟨by simp, by omega, fun _ => ⟨x, rfl, fun j p hj => ?_⟩⟩, fun y hy => ?_⟩
    rotate_left
    · obtain ⟨i, hi, rfl⟩ := List.mem_map.1 hy
      exact (hF i (List.mem_range.1 hi)).2
    rw [List.getElem?_map, Option.map_eq_some_iff] at hj
    obtain ⟨i, hi, rfl⟩ := hj
    have hqi := List.getElem?_eq_some_iff.1 hi
    obtain ⟨hlt, hqe⟩ := hqi
    have hlt : j < len := by simpa using hlt
    obtain rfl : j = i := by simpa using hqe
    exact ⟨(nc (F j)).toList, rfl, k49_mk w (F j), fun k u hu => (hF j hlt).1 k u hu⟩
theorem open_tree {r : Reach} {b0 : Nat} {v : Value} {d : DataW H} {p : List MemPlace} (hv : Value.okWide Tryz.prog w r b0 24 v) (h : DataW.Trod enc Tryz.prog w base spare held 24 v d p) :
    ∃ z : TreeArg, v = .agg #[.slice z.A z.n z.c] ∧ TreeIn w z := by
  have ha : ∃ cs, v = .agg cs ∧ cs.size = 1 := by
    simp only [Value.okWide, Tryz.underlying24] at hv
    obtain ⟨cs, h1, h2, _⟩ := hv
    exact ⟨cs, h1, by rw [h2]; kernel_rfl⟩
  obtain ⟨cs, rfl, hs⟩ := ha
  obtain ⟨fuel, hf⟩ := h
  obtain ⟨xs, m, _, _, _, hxl, hff⟩ := DataW.trod_struct Tryz.underlying24 hf
  obtain ⟨l, rfl⟩ : ∃ l : List Value, cs = l.toArray := ⟨cs.toList, by simp⟩
  have hl : l.length = 1 := by simpa using hs
  have cS : Tryz.prog.cellsOf 22 = 1 := by kernel_rfl
  match l, hl, xs, hxl with
  | [v0], _, [x0], _ =>
    have g0 := hff 0 _ rfl
    simp [Value.cells, cS] at g0
    have hsl : ∃ a n c, v0 = .slice a n c := by
      rcases open_slice Tryz.underlying22 g0 with ⟨hcs, _⟩ | ⟨x, l, c, m, n, D, Pl, hcs, _⟩
      · simp at hcs; exact ⟨_, _, _, hcs⟩
      · simp at hcs; exact ⟨_, _, _, hcs⟩
    obtain ⟨a, len, cap, rfl⟩ := hsl
    obtain ⟨L, h1, h2, h3, h4, h5⟩ := open_nodes g0
    exact ⟨⟨a, len, cap, L⟩, rfl, h1, h2, h3, h4, h5⟩
end Go.Proofs.YtaaihcojedibeaaGreatDoor.DArgS
end
section
/- A set that came in. -/
namespace Go.Proofs.YtaaihcojedibeaaGreatDoor.DArgZ
set_option maxRecDepth 100000
open Go.RowKit Go.ChangeShapes Go.WideShapes CBits CSet
set_option linter.unusedVariables false
set_option linter.unusedSimpArgs false
variable {H : Type} {enc : TypeId × Value → H} {w : World} {base : Nat} {spare : Nat → Bool} {held : Bool}
theorem of_words (a b c d : Nat) (ha : a < 18446744073709551616) (hb : b < 18446744073709551616) (hc : c < 18446744073709551616) (hd : d < 18446744073709551616) :
    ∃ N : Nat, N < 2 ^ 256 ∧ #[.int .u64 (a : Int), .int .u64 (b : Int), .int .u64 (c : Int), .int .u64 (d : Int)] = sc N := by
  refine ⟨a + 18446744073709551616 * b + 340282366920938463463374607431768211456 * c + 6277101735386680763835789423207666416102355444464034512896 * d, ?_, ?_⟩
  · show _ < 115792089237316195423570985008687907853269984665640564039457584007913129639936
    omega
  · unfold sc wd
    rw [show (a + 18446744073709551616 * b + 340282366920938463463374607431768211456 * c + 6277101735386680763835789423207666416102355444464034512896 * d) / 2 ^ (64 * 0) % 2 ^ 64 = a by
        show (a + 18446744073709551616 * b + 340282366920938463463374607431768211456 * c + 6277101735386680763835789423207666416102355444464034512896 * d) / 1 % 18446744073709551616 = a
        omega,
      show (a + 18446744073709551616 * b + 340282366920938463463374607431768211456 * c + 6277101735386680763835789423207666416102355444464034512896 * d) / 2 ^ (64 * 1) % 2 ^ 64 = b by
        show (a + 18446744073709551616 * b + 340282366920938463463374607431768211456 * c + 6277101735386680763835789423207666416102355444464034512896 * d) / 18446744073709551616 % 18446744073709551616 = b
        omega,
      show (a + 18446744073709551616 * b + 340282366920938463463374607431768211456 * c + 6277101735386680763835789423207666416102355444464034512896 * d) / 2 ^ (64 * 2) % 2 ^ 64 = c by
        show (a + 18446744073709551616 * b + 340282366920938463463374607431768211456 * c + 6277101735386680763835789423207666416102355444464034512896 * d) / 340282366920938463463374607431768211456 % 18446744073709551616 = c
        omega,
      show (a + 18446744073709551616 * b + 340282366920938463463374607431768211456 * c + 6277101735386680763835789423207666416102355444464034512896 * d) / 2 ^ (64 * 3) % 2 ^ 64 = d by
        show (a + 18446744073709551616 * b + 340282366920938463463374607431768211456 * c + 6277101735386680763835789423207666416102355444464034512896 * d) / 6277101735386680763835789423207666416102355444464034512896 % 18446744073709551616 = d
        omega]
theorem open_set {r : Reach} {b0 : Nat} {v : Value} {d : DataW H} {p : List MemPlace} (hv : Value.okWide Tryz.prog w r b0 28 v) (h : DataW.Trod enc Tryz.prog w base spare held 28 v d p) :
    ∃ N : Nat, v = .agg (sc N) ∧ N < 2 ^ 256 := by
  have c4 : Tryz.prog.cellsOf 26 = 4 := by kernel_rfl
  have c5 : Tryz.prog.cellsOf 28 = 4 := by kernel_rfl
  have c1 : Tryz.prog.cellsOf 25 = 1 := by kernel_rfl
  have ha : ∃ cs, v = .agg cs ∧ cs.size = 4 := by
    simp only [Value.okWide, Tryz.underlying28] at hv
    obtain ⟨cs, h1, h2, _⟩ := hv
    exact ⟨cs, h1, by rw [h2, c5]⟩
  obtain ⟨cs, rfl, hs⟩ := ha
  obtain ⟨fuel, hf⟩ := h
  obtain ⟨xs, m, _, _, _, hxl, hff⟩ := DataW.trod_struct Tryz.underlying28 hf
  have wfu : ∀ n : Int, (Lit.int .u64 n).wf = true → ∃ m : Nat, n = (m : Int) ∧ m < 18446744073709551616 := fun n h => by
    simp [Lit.wf, IntKind.min, IntKind.max, IntKind.signed, IntKind.bits] at h
    exact ⟨n.toNat, by omega, by omega⟩
  obtain ⟨l, rfl⟩ : ∃ l : List Value, cs = l.toArray := ⟨cs.toList, by simp⟩
  match l, (by simpa using hs : l.length = 4) with
  | [v0, v1, v2, v3], _ =>
    match xs, hxl with
    | [y], _ =>
      have g := hff 0 _ rfl
      simp [Value.cells, c4] at g
      obtain ⟨xs', m', _, _, _, hxl', hel⟩ := DataW.trod_array Tryz.underlying26 g
      match xs', hxl' with
      | [y0, y1, y2, y3], _ =>
        have g0 := hel 0 (by omega)
        have g1 := hel 1 (by omega)
        have g2 := hel 2 (by omega)
        have g3 := hel 3 (by omega)
        simp [Value.cells, c1] at g0 g1 g2 g3
        obtain ⟨n0, q0, _, w0⟩ := DataW.trod_int Tryz.underlying25 g0
        obtain ⟨n1, q1, _, w1⟩ := DataW.trod_int Tryz.underlying25 g1
        obtain ⟨n2, q2, _, w2⟩ := DataW.trod_int Tryz.underlying25 g2
        obtain ⟨n3, q3, _, w3⟩ := DataW.trod_int Tryz.underlying25 g3
        simp at q0 q1 q2 q3
        subst q0 q1 q2 q3
        obtain ⟨a, rfl, ha⟩ := wfu _ w0
        obtain ⟨b, rfl, hb⟩ := wfu _ w1
        obtain ⟨c, rfl, hc⟩ := wfu _ w2
        obtain ⟨e, rfl, he⟩ := wfu _ w3
        obtain ⟨N, hN, hE⟩ := of_words a b c e ha hb hc he
        exact ⟨N, congrArg Value.agg hE, hN⟩
end Go.Proofs.YtaaihcojedibeaaGreatDoor.DArgZ
end
