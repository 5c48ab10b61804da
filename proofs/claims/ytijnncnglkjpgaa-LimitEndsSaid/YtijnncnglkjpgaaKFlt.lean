/- float64, plain: a word's sign and rung; how two words stand to each other. -/
import Derived.Laws.FloatArith
import Derived.ProofKit
namespace Go.Proofs.Ytijnncnglkjpgaa.KFlt
open Ieee

def inf : Nat := 9218868437227405312
def rung (x : Nat) : Nat := x % 9223372036854775808
def neg (x : Nat) : Bool := x / 9223372036854775808 % 2 == 1
def nan (x : Nat) : Bool := decide (inf < rung x)
def key (x : Nat) : Int := if neg x then -(rung x : Int) else rung x
/-- the significand and the exponent of a rung below infinity's -/
def mg (r : Nat) : Nat := if r < 4503599627370496 then r else 4503599627370496 + r % 4503599627370496
def sh (r : Nat) : Nat := if r < 4503599627370496 then 0 else r / 4503599627370496 - 1
def V (r : Nat) : Nat := mg r * 2 ^ sh r
theorem V_succ (r : Nat) : V r < V (r + 1) := by
  unfold V
  have h2 : (4503599627370496 : Nat) = 2 ^ 52 := by decide
  by_cases h : r + 1 < 4503599627370496
  · simp [mg, sh, h, show r < 4503599627370496 by omega]
  · by_cases h0 : r < 4503599627370496
    · have : r = 4503599627370495 := by omega
      subst this
      decide
    · obtain ⟨e, f, he, hf, rfl⟩ : ∃ e f, 1 ≤ e ∧ f < 4503599627370496 ∧ r = 4503599627370496 * e + f := ⟨r / 4503599627370496, r % 4503599627370496, by omega, by omega, by omega⟩
      have hm : mg (4503599627370496 * e + f) = 4503599627370496 + f := by unfold mg; rw [if_neg (by omega)]; omega
      have hs : sh (4503599627370496 * e + f) = e - 1 := by unfold sh; rw [if_neg (by omega)]; omega
      rw [hm, hs]
      obtain ⟨d, rfl⟩ : ∃ d, e = d + 1 := ⟨e - 1, by omega⟩
      by_cases h1 : f + 1 < 4503599627370496
      · have hm' : mg (4503599627370496 * (d + 1) + f + 1) = 4503599627370496 + f + 1 := by unfold mg; rw [if_neg (by omega)]; omega
        have hs' : sh (4503599627370496 * (d + 1) + f + 1) = d := by unfold sh; rw [if_neg (by omega)]; omega
        rw [hm', hs']
        exact Nat.mul_lt_mul_of_pos_right (by omega) (Nat.two_pow_pos _)
      · have hf' : f = 4503599627370495 := by omega
        subst hf'
        have hm' : mg (4503599627370496 * (d + 1) + 4503599627370495 + 1) = 4503599627370496 := by unfold mg; rw [if_neg (by omega)]; omega
        have hs' : sh (4503599627370496 * (d + 1) + 4503599627370495 + 1) = d + 1 := by unfold sh; rw [if_neg (by omega)]; omega
        rw [hm', hs', Nat.pow_succ]
        have := Nat.two_pow_pos d
        simp only [Nat.add_sub_cancel]
        omega
theorem V_lt {r q : Nat} (h : r < q) : V r < V q := by
  induction q with
  | zero => omega
  | succ q ih =>
    by_cases e : r = q
    · subst e; exact V_succ r
    · exact Nat.lt_trans (ih (by omega)) (V_succ q)
theorem V_lt_iff (r q : Nat) : V r < V q ↔ r < q := by
  rcases Nat.lt_trichotomy r q with h | h | h
  · exact ⟨fun _ => h, fun _ => V_lt h⟩
  · subst h; simp
  · have := V_lt h
    constructor <;> intro h' <;> omega
theorem V_eq_iff (r q : Nat) : V r = V q ↔ r = q := by
  have h1 := V_lt_iff r q
  have h2 := V_lt_iff q r
  omega
theorem V_zero : V 0 = 0 := by decide
theorem cmp_congr {a b c d : Int} (h1 : a < b ↔ c < d) (h2 : a = b ↔ c = d) : compare a b = compare c d := by
  show compareOfLessAndEq a b = compareOfLessAndEq c d
  unfold compareOfLessAndEq
  by_cases h : a < b
  · rw [if_pos h, if_pos (h1.1 h)]
  · rw [if_neg h, if_neg (fun x => h (h1.2 x))]
    by_cases g : a = b
    · rw [if_pos g, if_pos (h2.1 g)]
    · rw [if_neg g, if_neg (fun x => g (h2.2 x))]
theorem read_num (x : Nat) (h : rung x < inf) : double.read x = .number (neg x) (mg (rung x)) (-1074 + sh (rung x) : Int) := by
  have hb : double.binade = 4503599627370496 := by decide
  have hi : double.infRung = inf := by decide
  have hs : double.signWeight = 9223372036854775808 := by decide
  have hl : double.leastPlace = -1074 := by decide
  unfold Format.read
  simp only [hb, hi, hs, hl]
  unfold mg sh neg rung at *
  by_cases h1 : x % 9223372036854775808 < 4503599627370496
  · simp [h1]
  · simp [h1, h]
theorem read_inf (x : Nat) (h : rung x = inf) : double.read x = .infinity (neg x) := by
  have hb : double.binade = 4503599627370496 := by decide
  have hi : double.infRung = inf := by decide
  have hs : double.signWeight = 9223372036854775808 := by decide
  unfold Format.read
  simp only [hb, hi, hs]
  unfold neg rung at *
  rw [if_neg (by rw [h]; decide), if_neg (by omega), if_pos h]
theorem read_nan (x : Nat) (h : inf < rung x) : double.read x = .nan (neg x) (rung x - inf) := by
  have hb : double.binade = 4503599627370496 := by decide
  have hi : double.infRung = inf := by decide
  have hs : double.signWeight = 9223372036854775808 := by decide
  unfold Format.read
  simp only [hb, hi, hs]
  unfold neg rung inf at *
  rw [if_neg (by omega), if_neg (by omega), if_neg (by omega)]
theorem nat_cmp (a b : Nat) : compare a b = compare (a : Int) (b : Int) := by
  show compareOfLessAndEq a b = compareOfLessAndEq (a : Int) (b : Int)
  unfold compareOfLessAndEq
  simp only [Int.ofNat_lt, Int.ofNat_inj]
/-- HOW TWO WORDS STAND TO EACH OTHER -/
theorem order_key (x y : Nat) (hx : nan x = false) (hy : nan y = false) : double.order x y = some (compare (key x) (key y)) := by
  have hx' : rung x ≤ inf := by simpa [nan] using hx
  have hy' : rung y ≤ inf := by simpa [nan] using hy
  unfold Format.order
  unfold inf at *
  by_cases h1 : rung x = 9218868437227405312
  · by_cases h2 : rung y = 9218868437227405312
    · rw [read_inf x h1, read_inf y h2]
      simp only [Datum.order]
      rw [nat_cmp]
      congr 1
      unfold key
      rw [h1, h2]
      cases neg x <;> cases neg y <;> decide
    · rw [read_inf x h1, read_num y (by unfold inf; omega)]
      simp only [Datum.order]
      unfold key
      rw [h1]
      cases hn : neg x
      · simp only [Bool.false_eq_true, if_false]
        congr 1
        symm
        show compareOfLessAndEq _ _ = _
        unfold compareOfLessAndEq
        rw [if_neg (by split <;> omega), if_neg (by split <;> omega)]
      · simp only [if_true]
        congr 1
        symm
        show compareOfLessAndEq _ _ = _
        unfold compareOfLessAndEq
        rw [if_pos (by split <;> omega)]
  · by_cases h2 : rung y = 9218868437227405312
    · rw [read_num x (by unfold inf; omega), read_inf y h2]
      simp only [Datum.order]
      unfold key
      rw [h2]
      cases hn : neg y
      · simp only [Bool.false_eq_true, if_false]
        congr 1
        symm
        show compareOfLessAndEq _ _ = _
        unfold compareOfLessAndEq
        rw [if_pos (by split <;> omega)]
      · simp only [if_true]
        congr 1
        symm
        show compareOfLessAndEq _ _ = _
        unfold compareOfLessAndEq
        rw [if_neg (by split <;> omega), if_neg (by split <;> omega)]
    · rw [read_num x (by unfold inf; omega), read_num y (by unfold inf; omega)]
      simp only [Datum.order]
      congr 1
      obtain ⟨c, hc⟩ : ∃ c : Nat, c = min (sh (rung x)) (sh (rung y)) := ⟨_, rfl⟩
      have hmin : min (-1074 + (sh (rung x) : Int)) (-1074 + (sh (rung y) : Int)) = -1074 + (c : Int) := by omega
      rw [hmin]
      have e1 : (-1074 + (sh (rung x) : Int) - (-1074 + (c : Int))).toNat = sh (rung x) - c := by omega
      have e2 : (-1074 + (sh (rung y) : Int) - (-1074 + (c : Int))).toNat = sh (rung y) - c := by omega
      rw [e1, e2]
      have v1 : V (rung x) = (mg (rung x) <<< (sh (rung x) - c)) * 2 ^ c := by
        unfold V
        rw [Nat.shiftLeft_eq, Nat.mul_assoc, ← Nat.pow_add]
        congr 2
        omega
      have v2 : V (rung y) = (mg (rung y) <<< (sh (rung y) - c)) * 2 ^ c := by
        unfold V
        rw [Nat.shiftLeft_eq, Nat.mul_assoc, ← Nat.pow_add]
        congr 2
        omega
      unfold signed key
      generalize mg (rung x) <<< (sh (rung x) - c) = m at *
      generalize mg (rung y) <<< (sh (rung y) - c) = n at *
      have hp := Nat.two_pow_pos c
      have l1 : m < n ↔ rung x < rung y := by rw [← V_lt_iff (rung x) (rung y), v1, v2]; exact (Nat.mul_lt_mul_right hp).symm
      have l2 : n < m ↔ rung y < rung x := by rw [← V_lt_iff (rung y) (rung x), v1, v2]; exact (Nat.mul_lt_mul_right hp).symm
      have z1 : m = 0 ↔ rung x = 0 := by
        rw [← V_eq_iff (rung x) 0, V_zero, v1]
        exact ⟨fun h => by rw [h, Nat.zero_mul], fun h => (Nat.mul_eq_zero.1 h).resolve_right (by omega)⟩
      have z2 : n = 0 ↔ rung y = 0 := by
        rw [← V_eq_iff (rung y) 0, V_zero, v2]
        exact ⟨fun h => by rw [h, Nat.zero_mul], fun h => (Nat.mul_eq_zero.1 h).resolve_right (by omega)⟩
      apply cmp_congr
      · cases neg x <;> cases neg y <;> simp <;> omega
      · cases neg x <;> cases neg y <;> simp <;> omega
theorem order_nan (x y : Nat) (h : nan x = true ∨ nan y = true) : double.order x y = none := by
  unfold Format.order
  rcases h with h | h
  · rw [read_nan x (by simpa [nan] using h)]
    rfl
  · rw [read_nan y (by simpa [nan] using h)]
    cases double.read x <;> rfl
/-! float64(n) of a whole number -/
def kp (n : Nat) : Nat :=
  if n.log2 ≤ 52 then n * 2 ^ (52 - n.log2)
  else n / 2 ^ (n.log2 - 52) + (if 2 ^ (n.log2 - 52) < 2 * (n % 2 ^ (n.log2 - 52)) ∨ (2 ^ (n.log2 - 52) = 2 * (n % 2 ^ (n.log2 - 52)) ∧ n / 2 ^ (n.log2 - 52) % 2 = 1) then 1 else 0)
def rn (n : Nat) : Nat := if n = 0 then 0 else (n.log2 + 1022) * 4503599627370496 + kp n
theorem log_lo {n : Nat} (h : n ≠ 0) : 2 ^ n.log2 ≤ n := Nat.log2_self_le h
theorem log_hi (n : Nat) : n < 2 ^ (n.log2 + 1) := Nat.lt_log2_self
theorem kp_lo {n : Nat} (h : n ≠ 0) : 4503599627370496 ≤ kp n := by
  have h1 := log_lo h
  unfold kp
  split
  · rename_i hl
    calc 4503599627370496 = 2 ^ n.log2 * 2 ^ (52 - n.log2) := by rw [← Nat.pow_add, show n.log2 + (52 - n.log2) = 52 by omega]
      _ ≤ _ := Nat.mul_le_mul_right _ h1
  · rename_i hl
    have : 4503599627370496 ≤ n / 2 ^ (n.log2 - 52) := by
      rw [Nat.le_div_iff_mul_le (Nat.two_pow_pos _)]
      calc 4503599627370496 * 2 ^ (n.log2 - 52) = 2 ^ n.log2 := by rw [show (4503599627370496 : Nat) = 2 ^ 52 by decide, ← Nat.pow_add, show 52 + (n.log2 - 52) = n.log2 by omega]
        _ ≤ n := h1
    omega
theorem kp_hi (n : Nat) : kp n ≤ 9007199254740992 := by
  have h2 := log_hi n
  unfold kp
  split
  · rename_i hl
    apply Nat.le_of_lt
    calc n * 2 ^ (52 - n.log2) < 2 ^ (n.log2 + 1) * 2 ^ (52 - n.log2) := Nat.mul_lt_mul_of_pos_right h2 (Nat.two_pow_pos _)
      _ = 9007199254740992 := by rw [← Nat.pow_add, show n.log2 + 1 + (52 - n.log2) = 53 by omega]
  · rename_i hl
    have : n / 2 ^ (n.log2 - 52) < 9007199254740992 := by
      rw [Nat.div_lt_iff_lt_mul (Nat.two_pow_pos _)]
      calc n < 2 ^ (n.log2 + 1) := h2
        _ = 9007199254740992 * 2 ^ (n.log2 - 52) := by rw [show (9007199254740992 : Nat) = 2 ^ 53 by decide, ← Nat.pow_add, show 53 + (n.log2 - 52) = n.log2 + 1 by omega]
    split <;> omega
theorem log_mono {a b : Nat} (h0 : a ≠ 0) (h : a ≤ b) : a.log2 ≤ b.log2 := by
  have h1 := log_lo h0
  have h2 := log_hi b
  rcases Nat.lt_or_ge b.log2 a.log2 with hl | hl
  · have : 2 ^ (b.log2 + 1) ≤ 2 ^ a.log2 := Nat.pow_le_pow_right (by decide) hl
    omega
  · exact hl
theorem rn_mono {a b : Nat} (h : a ≤ b) : rn a ≤ rn b := by
  unfold rn
  by_cases h0 : a = 0
  · rw [if_pos h0]; exact Nat.zero_le _
  · have hb0 : b ≠ 0 := by omega
    rw [if_neg h0, if_neg hb0]
    have hl := log_mono h0 h
    have k1 := kp_hi a
    have k2 := kp_lo hb0
    by_cases e : a.log2 = b.log2
    · rw [e]
      have : kp a ≤ kp b := by
        unfold kp
        rw [e]
        by_cases h52 : b.log2 ≤ 52
        · rw [if_pos h52, if_pos h52]
          exact Nat.mul_le_mul_right _ h
        · rw [if_neg h52, if_neg h52]
          generalize 2 ^ (b.log2 - 52) = g
          have hd : a / g ≤ b / g := Nat.div_le_div_right h
          by_cases he : a / g = b / g
          · have hr : a % g ≤ b % g := by
              have ha := Nat.div_add_mod a g
              have hb := Nat.div_add_mod b g
              rw [he] at ha
              omega
            rw [he]
            split <;> split <;> omega
          · split <;> split <;> omega
      omega
    · have h3 : (a.log2 + 1022 + 1) * 4503599627370496 ≤ (b.log2 + 1022) * 4503599627370496 := Nat.mul_le_mul_right _ (by omega)
      rw [Nat.add_mul (a.log2 + 1022) 1, Nat.one_mul] at h3
      have fin : ∀ u v x y : Nat, u + 4503599627370496 ≤ v → x ≤ 9007199254740992 → 4503599627370496 ≤ y → u + x ≤ v + y := fun u v x y h1 h2 h3 => by omega
      exact fin _ _ _ _ h3 k1 k2
theorem fl_eq (n : Nat) (h : n ≤ 9223372036854775808) : floatOfInt .f64 (n : Int) = rn n := by
  have hs : double.signWeight = 9223372036854775808 := by decide
  have hb : double.binade = 4503599627370496 := by decide
  have hi : double.infRung = inf := by decide
  have hl : double.leastPlace = -1074 := by decide
  have hf : double.fractionBits = 52 := rfl
  show double.write (.number ((n : Int) < 0) (n : Int).natAbs 0) = rn n
  have hn : decide ((n : Int) < 0) = false := by simp
  rw [hn]
  show double.nearest false n 0 = rn n
  unfold Format.nearest rn
  by_cases h0 : n = 0
  · rw [if_pos h0, if_pos h0]; rfl
  · rw [if_neg h0, if_neg h0]
    simp only [hb, hi, hl, hf, Format.word, Bool.false_eq_true, if_false]
    have hlog : n.log2 ≤ 63 := by
      have h1 := log_lo h0
      rcases Nat.lt_or_ge 63 n.log2 with hg | hg
      · have : 2 ^ 64 ≤ 2 ^ n.log2 := Nat.pow_le_pow_right (by decide) hg
        have e : (2 : Nat) ^ 64 = 18446744073709551616 := by decide
        omega
      · exact hg
    have hmax : max ((0 : Int) + (n.log2 : Int) - (52 : Nat)) (-1074) = (n.log2 : Int) - 52 := by omega
    rw [hmax]
    have k := kp_hi n
    have hk : Toward.even.cut false (n <<< ((0 : Int) - ((n.log2 : Int) - 52)).toNat) (((n.log2 : Int) - 52) - 0).toNat = kp n := by
      unfold kp Toward.cut
      by_cases h52 : n.log2 ≤ 52
      · rw [if_pos h52, show (((n.log2 : Int) - 52) - 0).toNat = 0 by omega, show ((0 : Int) - ((n.log2 : Int) - 52)).toNat = 52 - n.log2 by omega, Nat.shiftLeft_eq]
        simp [Nat.mod_one, Nat.shiftLeft_eq]
      · rw [if_neg h52, show (((n.log2 : Int) - 52) - 0).toNat = n.log2 - 52 by omega, show ((0 : Int) - ((n.log2 : Int) - 52)).toNat = 0 by omega, Nat.shiftLeft_zero]
        rw [show min (n.log2 - 52) (n.log2 + 2) = n.log2 - 52 by omega, Nat.one_shiftLeft]
        simp only []
        congr 1
        generalize 2 ^ (n.log2 - 52) = g
        generalize n % g = r
        generalize n / g = q
        by_cases c1 : g < 2 * r
        · simp [c1]
        · by_cases c2 : g = 2 * r
          · by_cases c3 : q % 2 = 1
            · simp [c2, c3]
            · simp [c2, c3]
          · have c2' : (g == 2 * r) = false := by simp [c2]
            simp [c1, c2, c2']
    rw [hk]
    have : (((n.log2 : Int) - 52) - -1074).toNat = n.log2 + 1022 := by omega
    rw [this]
    have hle : (n.log2 + 1022) * 4503599627370496 + kp n ≤ inf := by
      have h3 : (n.log2 + 1022) * 4503599627370496 ≤ 1085 * 4503599627370496 := Nat.mul_le_mul_right _ (by omega)
      rw [show 1085 * 4503599627370496 = 4886405595696988160 from rfl] at h3
      generalize (n.log2 + 1022) * 4503599627370496 = u at *
      unfold inf
      omega
    exact Nat.min_eq_left hle
theorem rn_le (n : Nat) (h : n ≤ 9223372036854775808) : rn n ≤ 4895412794951729152 := by
  unfold rn
  split
  · exact Nat.zero_le _
  · rename_i h0
    have hlog : n.log2 ≤ 63 := by
      have h1 := log_lo h0
      rcases Nat.lt_or_ge 63 n.log2 with hg | hg
      · have : 2 ^ 64 ≤ 2 ^ n.log2 := Nat.pow_le_pow_right (by decide) hg
        have e : (2 : Nat) ^ 64 = 18446744073709551616 := by decide
        omega
      · exact hg
    have k := kp_hi n
    have h3 : (n.log2 + 1022) * 4503599627370496 ≤ 1085 * 4503599627370496 := Nat.mul_le_mul_right _ (by omega)
    rw [show 1085 * 4503599627370496 = 4886405595696988160 from rfl] at h3
    generalize (n.log2 + 1022) * 4503599627370496 = u at *
    omega
theorem key_rn (n : Nat) (h : n ≤ 9223372036854775808) : key (rn n) = rn n ∧ nan (rn n) = false ∧ rung (rn n) = rn n ∧ neg (rn n) = false := by
  have h1 := rn_le n h
  have hr : rung (rn n) = rn n := by unfold rung; omega
  have hn : neg (rn n) = false := by unfold neg; rw [show rn n / 9223372036854775808 = 0 by omega]; rfl
  refine ⟨by unfold key; rw [hn, hr]; rfl, ?_, hr, hn⟩
  unfold nan
  rw [hr]
  unfold inf
  simp
  omega
end Go.Proofs.Ytijnncnglkjpgaa.KFlt
