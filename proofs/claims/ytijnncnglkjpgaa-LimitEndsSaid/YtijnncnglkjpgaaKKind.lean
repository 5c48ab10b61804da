/- The kind of a number: both functions answer alike. -/
import Derived.Test.YtijnncnglkjpgaaKFlt
import Derived.Test.YtijnncnglkjpgaaProg
import Derived.Laws.Externs
import Derived.Below
import Derived.WalkKit
import Derived.Tactics2
import Derived.StillTactics
import Derived.Deep.RegionHeld3
import Derived.Lib.Hide
import Derived.KernelRfl
namespace Go.Proofs.Ytijnncnglkjpgaa.KKind
open Go.RowKit KFlt
set_option linter.unusedVariables false
set_option linter.unusedSimpArgs false

theorem run_store_float {P : Program} {w : World} {a : Addr} {m : Mode} (k : FloatKind) (b : Nat) : (store a (.float k b) m).run P w = stored P w a (.float k b) m := run_store P w a _ m rfl
theorem bits_run (x : Nat) (w : World) : (callFunc 32 #[.float .f64 x]).run Try.prog w = .ok (.value (.int .u64 x)) w := by
  rw [run_callFunc_extern (e := Extern.MathFloatBits.float64bits) Try.func32 (by kernel_rfl) (by kernel_rfl) (by kernel_rfl) (by kernel_rfl)]
  rfl
theorem from_run (x : Nat) (w : World) : (callFunc 37 #[.int .u64 x]).run Try.prog w = .ok (.value (.float .f64 x)) w := by
  rw [run_callFunc_extern (e := Extern.MathFloatBits.float64frombits) Try.func37 (by kernel_rfl) (by kernel_rfl) (by kernel_rfl) (by kernel_rfl)]
  rfl
theorem cmp_lt (a b : Int) : (some (compare a b) == some Ordering.lt) = decide (a < b) := by
  show (some (compareOfLessAndEq a b) == _) = _
  unfold compareOfLessAndEq
  by_cases h : a < b
  · simp [h]
  · rw [if_neg h]; split <;> simp [h]
theorem cmp_gt (a b : Int) : (some (compare a b) == some Ordering.gt) = decide (b < a) := by
  show (some (compareOfLessAndEq a b) == _) = _
  unfold compareOfLessAndEq
  by_cases h : a < b
  · simp [h]; omega
  · rw [if_neg h]; split
    · simp; omega
    · simp; omega
theorem cmp_eq (a b : Int) : (some (compare a b) == some Ordering.eq) = decide (a = b) := by
  show (some (compareOfLessAndEq a b) == _) = _
  unfold compareOfLessAndEq
  by_cases h : a < b
  · simp [h]; omega
  · rw [if_neg h]; split
    · simp [*]
    · simp [*]
theorem f_lt {x y : Nat} (hx : nan x = false) (hy : nan y = false) : (FloatKind.f64.format.order x y == some Ordering.lt) = decide (key x < key y) := by
  show (Ieee.double.order x y == _) = _
  rw [order_key x y hx hy, cmp_lt]
theorem f_gt {x y : Nat} (hx : nan x = false) (hy : nan y = false) : (FloatKind.f64.format.order x y == some Ordering.gt) = decide (key y < key x) := by
  show (Ieee.double.order x y == _) = _
  rw [order_key x y hx hy, cmp_gt]
theorem f_eq {x y : Nat} (hx : nan x = false) (hy : nan y = false) : (FloatKind.f64.format.order x y == some Ordering.eq) = decide (key x = key y) := by
  show (Ieee.double.order x y == _) = _
  rw [order_key x y hx hy, cmp_eq]
theorem f_none {x y : Nat} (h : nan x = true ∨ nan y = true) : FloatKind.f64.format.order x y = none := order_nan x y h
theorem f_self (x : Nat) : (FloatKind.f64.format.order x x != some Ordering.eq) = nan x := by
  cases h : nan x
  · show (!(_ == _)) = _
    rw [f_eq h h]; simp
  · rw [f_none (.inl h)]; rfl

theorem isnan_calls (x : Nat) (w : World) : Calls Try.prog 29 #[.float .f64 x] w fun e w' => e = .returned (.bool (nan x)) ∧ w' = w := by
  have h := f_self x
  go_enter Try.func29, Try.ntmps29
  go_wp2
  go_ret
  exact ⟨rfl, rfl⟩
/-- which of the seven -/
def kd (x : Nat) : Int := if nan x then 0 else if rung x = inf then (if neg x then 1 else 6) else if rung x = 0 then (if neg x then 3 else 4) else if neg x then 2 else 5
theorem lt64 {x : Nat} (h : x < 18446744073709551616) : x = (if neg x then 9223372036854775808 else 0) + rung x := by
  unfold neg rung
  by_cases h1 : x < 9223372036854775808
  · rw [show x / 9223372036854775808 = 0 by omega]; simp; omega
  · rw [show x / 9223372036854775808 = 1 by omega]; simp; omega
theorem neg_run (x : Nat) (h : x < 18446744073709551616) : Op.negFloat .f64 x = if neg x then rung x else 9223372036854775808 + rung x := by
  show x ^^^ 2 ^ 63 = _
  have hl := lt64 h
  have hr : rung x < 2 ^ 63 := by unfold rung; omega
  have hx : ∀ r, r < 2 ^ 63 → (2 ^ 63 + r) ^^^ 2 ^ 63 = r := fun r hr => by
    apply Nat.eq_of_testBit_eq
    intro i
    rw [Nat.testBit_xor, Nat.testBit_two_pow]
    by_cases e : i = 63
    · subst e
      rw [Nat.testBit_two_pow_add_eq, Nat.testBit_lt_two_pow hr]; rfl
    · rw [show decide (63 = i) = false by simp; omega, Bool.xor_false]
      by_cases l : i < 63
      · rw [Nat.testBit_two_pow_add_gt l]
      · rw [Nat.testBit_lt_two_pow (Nat.lt_of_lt_of_le hr (Nat.pow_le_pow_right (by decide) (by omega))), Nat.testBit_lt_two_pow (x := 2 ^ 63 + r) (i := i) (Nat.lt_of_lt_of_le (show 2 ^ 63 + r < 2 ^ 64 by omega) (Nat.pow_le_pow_right (by decide) (by omega)))]
  cases hn : neg x
  · rw [hn] at hl
    simp at hl
    rw [hl]
    have hr2 := hr
    have : rung x ^^^ 2 ^ 63 = 2 ^ 63 + rung x := by
      have h1 := hx (rung x) hr
      calc rung x ^^^ 2 ^ 63 = ((2 ^ 63 + rung x) ^^^ 2 ^ 63) ^^^ 2 ^ 63 := by rw [h1]
        _ = 2 ^ 63 + rung x := by rw [Nat.xor_assoc, Nat.xor_self, Nat.xor_zero]
    rw [show rung (rung x) = rung x by unfold rung; omega]
    simpa using this
  · rw [hn] at hl
    simp only [if_true] at hl
    have := hx (rung x) hr
    rw [show (2 : Nat) ^ 63 = 9223372036854775808 by decide] at this ⊢
    rw [if_pos rfl]
    conv => lhs; rw [hl]
    exact this
/-- the number with the other sign -/
def nf (x : Nat) : Nat := if neg x then rung x else 9223372036854775808 + rung x
theorem nf_rung (x : Nat) : rung (nf x) = rung x := by
  unfold nf
  split <;> (unfold rung; omega)
theorem nf_neg (x : Nat) : neg (nf x) = !neg x := by
  unfold nf
  have hr : rung x < 9223372036854775808 := by unfold rung; omega
  cases hn : neg x
  · simp only [Bool.false_eq_true, if_false, Bool.not_false]
    unfold neg
    rw [show (9223372036854775808 + rung x) / 9223372036854775808 = 1 by omega]; rfl
  · simp only [if_true, Bool.not_true]
    unfold neg
    rw [show rung x / 9223372036854775808 = 0 by omega]; rfl
theorem nf_nan (x : Nat) : nan (nf x) = nan x := by unfold nan; rw [nf_rung]
theorem neg_op (x : Nat) (h : x < 18446744073709551616) : Op.negFloat .f64 x = nf x := by
  rw [neg_run x h]
  rfl
theorem neg_step (x : Nat) (h : x < 18446744073709551616) (W : World) : (Op.unary UnOp.neg (.float .f64 x)).run Try.prog W = .ok (.float .f64 (nf x)) W := by
  rw [← neg_op x h]
  rfl
theorem rung_le {x : Nat} (h : nan x = false) : rung x ≤ 9218868437227405312 := by
  unfold nan inf at h
  simpa using h
theorem gt_max (x : Nat) : (FloatKind.f64.format.order x 9218868437227405311 == some Ordering.gt) = (decide (rung x = inf) && !neg x) := by
  have hr : rung x < 9223372036854775808 := by unfold rung; omega
  cases h : nan x
  · rw [f_gt h (by decide)]
    have : key 9218868437227405311 = 9218868437227405311 := by decide
    rw [this]
    have h' := rung_le h
    unfold key inf
    cases hn : neg x
    · by_cases e : rung x = 9218868437227405312
      · simp [e]
      · simp [e]; omega
    · simp <;> omega
  · rw [f_none (.inl h)]
    simp [nan] at h
    have : ¬ rung x = inf := by omega
    simp [this]
theorem isinf_up (x : Nat) (w : World) : Calls Try.prog 30 #[.float .f64 x, .int .i64 1] w fun e w' => e = .returned (.bool (decide (rung x = inf) && !neg x)) ∧ w' = w := by
  have h := gt_max x
  go_enter Try.func30, Try.ntmps30
  go_wp2
  go_ret
  exact ⟨rfl, rfl⟩
theorem isinf_down (x : Nat) (hx : x < 18446744073709551616) (w : World) : Calls Try.prog 30 #[.float .f64 x, .int .i64 (-1)] w fun e w' => e = .returned (.bool (decide (rung x = inf) && neg x)) ∧ w' = w := by
  have h := gt_max (nf x)
  rw [nf_rung, nf_neg, Bool.not_not] at h
  have hn := neg_step x hx
  go_enter Try.func30, Try.ntmps30
  go_wp2
  go_ret
  exact ⟨rfl, rfl⟩
theorem wrap_neg (x : Nat) (hx : x < 18446744073709551616) : decide (wrap64 (x : Int) < 0) = neg x := by
  unfold neg wrap64
  by_cases h1 : x < 9223372036854775808
  · rw [show x / 9223372036854775808 = 0 by omega]; simp; omega
  · rw [show x / 9223372036854775808 = 1 by omega]; simp; omega
theorem signbit_calls (x : Nat) (hx : x < 18446744073709551616) (w : World) : Calls Try.prog 31 #[.float .f64 x] w fun e w' => e = .returned (.bool (neg x)) ∧ w' = w := by
  have h := wrap_neg x hx
  have hb := bits_run x
  go_enter Try.func31, Try.ntmps31
  go_wp2
  go_ret
  exact ⟨rfl, rfl⟩
theorem lt_zero {x : Nat} (h : nan x = false) : (FloatKind.f64.format.order x 0 == some Ordering.lt) = (neg x && !decide (rung x = 0)) := by
  rw [f_lt h (by decide)]
  have : key 0 = 0 := by decide
  rw [this]
  unfold key
  by_cases e : rung x = 0
  · cases neg x <;> simp [e]
  · cases neg x
    · simp [e] <;> omega
    · simp [e] <;> omega
theorem gt_zero {x : Nat} (h : nan x = false) : (FloatKind.f64.format.order x 0 == some Ordering.gt) = (!neg x && !decide (rung x = 0)) := by
  rw [f_gt h (by decide)]
  have : key 0 = 0 := by decide
  rw [this]
  unfold key
  by_cases e : rung x = 0
  · cases neg x <;> simp [e]
  · cases neg x
    · simp [e] <;> omega
    · simp [e] <;> omega
theorem kind_calls (x : Nat) (hx : x < 18446744073709551616) (w : World) : Calls Try.prog 12 #[.float .f64 x] w fun e w' => e = .returned (.int .i64 (kd x)) ∧ w' = w := by
  have hi : ∀ b : Bool, rung x = inf → inf = 0 → b = false := fun b _ h => absurd h (by decide)
  obtain ⟨k, hk⟩ : ∃ k, kd x = k := ⟨_, rfl⟩
  rw [hk]
  have c1 := Lib.hid (isnan_calls x)
  have c2 := Lib.hid (isinf_down x hx)
  have c3 := Lib.hid (isinf_up x)
  have c4 := Lib.hid (signbit_calls x hx)
  unfold kd at hk
  cases hN : nan x
  · have h1 := lt_zero hN
    have h2 := gt_zero hN
    rw [hN] at hk c1
    by_cases hI : rung x = inf
    · have hz : ¬ rung x = 0 := by rw [hI]; decide
      rw [decide_eq_true hI] at c2 c3
      rw [decide_eq_false hz] at h1 h2
      rw [if_pos hI] at hk
      clear hI hz hi
      cases hS : neg x <;> rw [hS] at hk c2 c3 c4 h1 h2 <;> simp at hk <;> subst hk <;> clear hS hN <;> (
        go_enter Try.func12, Try.ntmps12
        go_wp2_with (first | (go_at_call 29; (with_reducible refine (c1.out _).mono ?_); rintro e w6 ⟨rfl, rfl⟩) | (go_at_call 30; (with_reducible refine (c2.out _).mono ?_); rintro e w6 ⟨rfl, rfl⟩) | (go_at_call 30; (with_reducible refine (c3.out _).mono ?_); rintro e w6 ⟨rfl, rfl⟩) | (go_at_call 31; (with_reducible refine (c4.out _).mono ?_); rintro e w6 ⟨rfl, rfl⟩))
        go_ret
        exact ⟨rfl, rfl⟩)
    · rw [decide_eq_false hI] at c2 c3
      rw [if_neg hI] at hk
      by_cases hz : rung x = 0
      · rw [decide_eq_true hz] at h1 h2
        rw [if_pos hz] at hk
        clear hI hz hi
        cases hS : neg x <;> rw [hS] at hk c2 c3 c4 h1 h2 <;> simp at hk <;> subst hk <;> clear hS hN <;> (
          go_enter Try.func12, Try.ntmps12
          go_wp2_with (first | (go_at_call 29; (with_reducible refine (c1.out _).mono ?_); rintro e w6 ⟨rfl, rfl⟩) | (go_at_call 30; (with_reducible refine (c2.out _).mono ?_); rintro e w6 ⟨rfl, rfl⟩) | (go_at_call 30; (with_reducible refine (c3.out _).mono ?_); rintro e w6 ⟨rfl, rfl⟩) | (go_at_call 31; (with_reducible refine (c4.out _).mono ?_); rintro e w6 ⟨rfl, rfl⟩))
          go_ret
          exact ⟨rfl, rfl⟩)
      · rw [decide_eq_false hz] at h1 h2
        rw [if_neg hz] at hk
        clear hI hz hi
        cases hS : neg x <;> rw [hS] at hk c2 c3 c4 h1 h2 <;> simp at hk <;> subst hk <;> clear hS hN <;> (
          go_enter Try.func12, Try.ntmps12
          go_wp2_with (first | (go_at_call 29; (with_reducible refine (c1.out _).mono ?_); rintro e w6 ⟨rfl, rfl⟩) | (go_at_call 30; (with_reducible refine (c2.out _).mono ?_); rintro e w6 ⟨rfl, rfl⟩) | (go_at_call 30; (with_reducible refine (c3.out _).mono ?_); rintro e w6 ⟨rfl, rfl⟩) | (go_at_call 31; (with_reducible refine (c4.out _).mono ?_); rintro e w6 ⟨rfl, rfl⟩))
          go_ret
          exact ⟨rfl, rfl⟩)
  · rw [hN] at hk c1
    simp at hk
    subst hk
    go_enter Try.func12, Try.ntmps12
    go_wp2_with (go_at_call 29; (with_reducible refine (c1.out _).mono ?_); rintro e w6 ⟨rfl, rfl⟩)
    go_ret
    exact ⟨rfl, rfl⟩
end Go.Proofs.Ytijnncnglkjpgaa.KKind
