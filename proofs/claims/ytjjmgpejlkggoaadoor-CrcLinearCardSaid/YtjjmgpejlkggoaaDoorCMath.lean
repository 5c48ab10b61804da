/- Sums of 24 binary digits, plain: digit by digit, half a byte by half a byte; what is laid over one another. -/
import Derived.Test.YtjjmgpejlkggoaaDoorHOn
namespace Go.Proofs.YtjjmgpejlkggoaaDoor.CMath
open HOn

/-- one binary digit -/
def step (n : Nat) : Nat := if n * 2 ≥ 16777216 then (n * 2) ^^^ 25578747 else n * 2
theorem xor_two (a b : Nat) : (a ^^^ b) * 2 = a * 2 ^^^ b * 2 := by
  apply Nat.eq_of_testBit_eq
  intro i
  rw [Nat.testBit_xor, show (a ^^^ b) * 2 = 2 ^ 1 * (a ^^^ b) by omega, show a * 2 = 2 ^ 1 * a by omega, show b * 2 = 2 ^ 1 * b by omega]
  rw [Nat.testBit_two_pow_mul, Nat.testBit_two_pow_mul, Nat.testBit_two_pow_mul, Nat.testBit_xor]
  by_cases h : i ≥ 1 <;> simp [h]
theorem top_bit {n : Nat} (h : n < 16777216) : (n * 2 ≥ 16777216) ↔ n.testBit 23 = true := by
  rw [Nat.testBit_eq_decide_div_mod_eq]
  simp
  omega
theorem step_bit {n : Nat} (h : n < 16777216) : step n = (n * 2) ^^^ (if n.testBit 23 then 25578747 else 0) := by
  unfold step
  by_cases hc : n * 2 ≥ 16777216
  · rw [if_pos hc, if_pos ((top_bit h).1 hc)]
  · rw [if_neg hc, if_neg (fun hh => hc ((top_bit h).2 hh)), Nat.xor_zero]
theorem step_lt {n : Nat} (h : n < 16777216) : step n < 16777216 := by
  unfold step
  split
  · rename_i hc
    have h1 : n * 2 < 2 ^ 25 := by omega
    have h2 : (n * 2) ^^^ 25578747 < 2 ^ 25 := Nat.xor_lt_two_pow h1 (by decide)
    have hb : ((n * 2) ^^^ 25578747).testBit 24 = false := by
      rw [Nat.testBit_xor, show (25578747 : Nat).testBit 24 = true by decide]
      have : (n * 2).testBit 24 = true := by
        rw [Nat.testBit_eq_decide_div_mod_eq]
        simp
        omega
      rw [this]
      rfl
    rw [Nat.testBit_eq_decide_div_mod_eq] at hb
    simp at hb
    omega
  · omega
theorem step_xor {a b : Nat} (ha : a < 16777216) (hb : b < 16777216) : step (a ^^^ b) = step a ^^^ step b := by
  rw [step_bit (xor_lt ha hb), step_bit ha, step_bit hb, xor_two, Nat.testBit_xor]
  cases a.testBit 23 <;> cases b.testBit 23
  · simp
  · simp [Nat.xor_assoc]
  · simp only [Bool.xor_false, if_true, Bool.false_eq_true, if_false, Nat.xor_zero]
    rw [Nat.xor_assoc, Nat.xor_comm (b * 2), ← Nat.xor_assoc]
  · simp only [Bool.xor_self, Bool.false_eq_true, if_false, if_true, Nat.xor_zero]
    rw [Nat.xor_assoc (a * 2), Nat.xor_comm (b * 2), ← Nat.xor_assoc 25578747, Nat.xor_self, Nat.zero_xor]
theorem step_zero {n : Nat} (_h : n < 16777216) (h0 : step n = 0) : n = 0 := by
  unfold step at h0
  split at h0
  · have hb := congrArg (fun x => x.testBit 0) h0
    simp only [Nat.testBit_xor, Nat.zero_testBit] at hb
    rw [show (25578747 : Nat).testBit 0 = true by decide, show (n * 2).testBit 0 = false by simp [Nat.testBit_zero]] at hb
    cases hb
  · omega
def steps : Nat → Nat → Nat
  | 0, n => n
  | k + 1, n => steps k (step n)
theorem steps_lt (k : Nat) : ∀ n, n < 16777216 → steps k n < 16777216 := by
  induction k with
  | zero => intro n h; exact h
  | succ k ih => intro n h; exact ih _ (step_lt h)
theorem steps_xor (k : Nat) : ∀ a b, a < 16777216 → b < 16777216 → steps k (a ^^^ b) = steps k a ^^^ steps k b := by
  induction k with
  | zero => intro a b _ _; rfl
  | succ k ih => intro a b ha hb; rw [steps, step_xor ha hb, ih _ _ (step_lt ha) (step_lt hb)]; rfl
theorem steps_zero (k : Nat) : ∀ n, n < 16777216 → steps k n = 0 → n = 0 := by
  induction k with
  | zero => intro n _ h; exact h
  | succ k ih => intro n h h0; exact step_zero h (ih _ (step_lt h) h0)
theorem steps_small : ∀ (k n : Nat), n * 2 ^ k < 16777216 → steps k n = n * 2 ^ k := by
  intro k
  induction k with
  | zero => intro n _; simp [steps]
  | succ k ih =>
    intro n h
    have h1 : n * 2 ^ (k + 1) = n * 2 * 2 ^ k := by rw [Nat.pow_succ, Nat.mul_comm (2 ^ k) 2, Nat.mul_assoc]
    have h2 : n * 2 ≤ n * 2 * 2 ^ k := Nat.le_mul_of_pos_right _ (Nat.pow_pos (by decide))
    rw [steps, show step n = n * 2 by unfold step; rw [if_neg (by omega)], ih _ (by omega), h1]
theorem div_mod_xor (m k : Nat) : m / 2 ^ k * 2 ^ k ^^^ m % 2 ^ k = m := by
  apply Nat.eq_of_testBit_eq
  intro i
  rw [Nat.testBit_xor, Nat.mul_comm, Nat.testBit_two_pow_mul, Nat.testBit_mod_two_pow, Nat.testBit_div_two_pow]
  by_cases hi : i < k
  · simp [hi, show ¬ k ≤ i by omega]
  · simp [hi, show k ≤ i by omega]
theorem split_xor (n : Nat) : n = (n / 1048576 * 1048576) ^^^ (n % 1048576) := (div_mod_xor n 20).symm
theorem half_steps {n : Nat} (h : n < 16777216) : half n = steps 4 n := by
  have key : ∀ j : Fin 16, steps 4 (j.val * 1048576) = tab j.val := by decide
  have hk := key ⟨n / 1048576, by omega⟩
  simp only [] at hk
  have hlo : n % 1048576 < 1048576 := Nat.mod_lt _ (by decide)
  have e := steps_xor 4 (n / 1048576 * 1048576) (n % 1048576) (by omega) (by omega)
  rw [← split_xor n, hk, steps_small 4 (n % 1048576) (by show n % 1048576 * 16 < _; omega)] at e
  rw [e, Nat.xor_comm]
  unfold half
  congr 1
  show n * 16 % 16777216 = n % 1048576 * 16
  omega
theorem steps_add (a b n : Nat) : steps (a + b) n = steps b (steps a n) := by
  induction a generalizing n with
  | zero => rw [Nat.zero_add]; rfl
  | succ a ih => rw [Nat.succ_add]; exact ih (step n)
theorem byte_steps {n c : Nat} (hn : n < 16777216) (hc : c < 256) : byte n c = steps 8 (n ^^^ c * 65536) := by
  have h1 : n ^^^ c * 65536 < 16777216 := xor_lt hn (by omega)
  unfold byte
  rw [half_steps h1, half_steps (steps_lt 4 _ h1), ← steps_add]
theorem byte_xor {a b c d : Nat} (ha : a < 16777216) (hb : b < 16777216) (hc : c < 256) (hd : d < 256) : byte (a ^^^ b) (c ^^^ d) = byte a c ^^^ byte b d := by
  have hcd : c ^^^ d < 256 := Nat.xor_lt_two_pow (n := 8) hc hd
  have e : (c ^^^ d) * 65536 = c * 65536 ^^^ d * 65536 := by
    apply Nat.eq_of_testBit_eq
    intro i
    rw [Nat.testBit_xor, show (c ^^^ d) * 65536 = 2 ^ 16 * (c ^^^ d) by omega, show c * 65536 = 2 ^ 16 * c by omega, show d * 65536 = 2 ^ 16 * d by omega]
    rw [Nat.testBit_two_pow_mul, Nat.testBit_two_pow_mul, Nat.testBit_two_pow_mul, Nat.testBit_xor]
    by_cases h : i ≥ 16 <;> simp [h]
  rw [byte_steps (xor_lt ha hb) hcd, byte_steps ha hc, byte_steps hb hd, ← steps_xor 8 _ _ (xor_lt ha (by omega)) (xor_lt hb (by omega)), e]
  congr 1
  rw [Nat.xor_assoc, Nat.xor_assoc]
  congr 1
  rw [← Nat.xor_assoc, Nat.xor_comm b, Nat.xor_assoc]
theorem byte_zero {n : Nat} (hn : n < 16777216) (h : byte n 0 = 0) : n = 0 := by
  rw [byte_steps hn (by decide), Nat.zero_mul, Nat.xor_zero] at h
  exact steps_zero 8 n hn h
theorem on_lt {n : Nat} (hn : n < 16777216) (l : List UInt8) : on n l < 16777216 := by
  rcases List.eq_nil_or_concat l with rfl | ⟨m, c, rfl⟩
  · exact hn
  · rw [List.concat_eq_append, on_snoc]; exact byte_lt _ _
theorem on_append (n : Nat) (l m : List UInt8) : on n (l ++ m) = on (on n l) m := by simp [on]
theorem on_cons (n : Nat) (c : UInt8) (l : List UInt8) : on n (c :: l) = on (byte n c.toNat) l := rfl
/-- three texts laid over one another -/
theorem on_three : ∀ (l m r : List UInt8) (a b c : Nat), a < 16777216 → b < 16777216 → c < 16777216 → l.length = m.length → m.length = r.length →
    on (a ^^^ b ^^^ c) (List.zipWith (fun x y => x ^^^ y) (List.zipWith (fun x y => x ^^^ y) l m) r) = on a l ^^^ on b m ^^^ on c r := by
  intro l
  induction l with
  | nil =>
    intro m r a b c _ _ _ h1 h2
    have : m = [] := List.length_eq_zero_iff.1 h1.symm
    subst this
    have : r = [] := List.length_eq_zero_iff.1 h2.symm
    subst this
    rfl
  | cons x l ih =>
    intro m r a b c ha hb hc h1 h2
    match m, r, h1, h2 with
    | y :: m, z :: r, h1, h2 =>
      simp only [List.zipWith_cons_cons, on_cons]
      have e : byte (a ^^^ b ^^^ c) (x ^^^ y ^^^ z).toNat = byte a x.toNat ^^^ byte b y.toNat ^^^ byte c z.toNat := by
        rw [UInt8.toNat_xor, UInt8.toNat_xor, byte_xor (xor_lt ha hb) hc (Nat.xor_lt_two_pow (n := 8) x.toNat_lt y.toNat_lt) z.toNat_lt, byte_xor ha hb x.toNat_lt y.toNat_lt]
      rw [e]
      exact ih m r _ _ _ (byte_lt _ _) (byte_lt _ _) (byte_lt _ _) (by simpa using h1) (by simpa using h2)
/-- unlike sums stay unlike, over the same bytes -/
theorem on_inj : ∀ (l : List UInt8) (a b : Nat), a < 16777216 → b < 16777216 → on a l = on b l → a = b := by
  intro l
  induction l with
  | nil => intro a b _ _ h; exact h
  | cons x l ih =>
    intro a b ha hb h
    rw [on_cons, on_cons] at h
    have h1 := ih _ _ (byte_lt _ _) (byte_lt _ _) h
    have h2 : byte (a ^^^ b) (x.toNat ^^^ x.toNat) = 0 := by rw [byte_xor ha hb x.toNat_lt x.toNat_lt, h1, Nat.xor_self]
    rw [Nat.xor_self] at h2
    have h3 := byte_zero (xor_lt ha hb) h2
    have := congrArg (fun z => z ^^^ b) h3
    simpa [Nat.xor_assoc] using this
theorem byte_inj {n c d : Nat} (hn : n < 16777216) (hc : c < 256) (hd : d < 256) (h : byte n c = byte n d) : c = d := by
  rw [byte_steps hn hc, byte_steps hn hd] at h
  have h1 : n ^^^ c * 65536 < 16777216 := xor_lt hn (by omega)
  have h2 : n ^^^ d * 65536 < 16777216 := xor_lt hn (by omega)
  have h3 : steps 8 ((n ^^^ c * 65536) ^^^ (n ^^^ d * 65536)) = 0 := by rw [steps_xor 8 _ _ h1 h2, h, Nat.xor_self]
  have h4 := steps_zero 8 _ (xor_lt h1 h2) h3
  have h5 : n ^^^ c * 65536 = n ^^^ d * 65536 := by
    have := congrArg (fun z => z ^^^ (n ^^^ d * 65536)) h4
    simpa [Nat.xor_assoc] using this
  have h6 := congrArg (fun z => n ^^^ z) h5
  simp only [← Nat.xor_assoc, Nat.xor_self, Nat.zero_xor] at h6
  omega
/-- with one byte another one the sum is another one -/
theorem on_spoilt (n : Nat) (hn : n < 16777216) (l r : List UInt8) (c d : UInt8) (h : c ≠ d) : on n (l ++ c :: r) ≠ on n (l ++ d :: r) := by
  intro he
  rw [on_append, on_append, on_cons, on_cons] at he
  have h1 := on_inj r _ _ (byte_lt _ _) (byte_lt _ _) he
  exact h (UInt8.toNat_inj.1 (byte_inj (on_lt hn l) c.toNat_lt d.toNat_lt h1))
/-- a sum goes on over its own three bytes to 0 -/
theorem own_bytes {n : Nat} (hn : n < 16777216) : byte (byte (byte n (n / 65536)) (n / 256 % 256)) (n % 256) = 0 := by
  have hx : ∀ (m : Nat), m < 16777216 → m ^^^ (m / 65536 * 65536) = m % 65536 := by
    intro m _
    have h : m / 2 ^ 16 * 2 ^ 16 ^^^ m % 2 ^ 16 ^^^ (m / 65536 * 65536) = m ^^^ (m / 65536 * 65536) := congrArg (fun z => z ^^^ (m / 65536 * 65536)) (div_mod_xor m 16)
    rw [← h, show (2 : Nat) ^ 16 = 65536 from rfl, Nat.xor_comm (m / 65536 * 65536) (m % 65536), Nat.xor_assoc, Nat.xor_self, Nat.xor_zero]
  have b1 : byte n (n / 65536) = n % 65536 * 256 := by
    rw [byte_steps hn (by omega), hx n hn, steps_small 8 _ (by show n % 65536 * 256 < _; omega)]
  have b2 : byte (n % 65536 * 256) (n / 256 % 256) = n % 256 * 65536 := by
    have := hx (n % 65536 * 256) (by omega)
    rw [show n % 65536 * 256 / 65536 = n / 256 % 256 by omega] at this
    rw [byte_steps (by omega) (by omega), this, steps_small 8 _ (by show n % 65536 * 256 % 65536 * 256 < _; omega)]
    show n % 65536 * 256 % 65536 * 256 = _
    omega
  rw [b1, b2, byte_steps (by omega) (by omega), Nat.xor_self, steps_small 8 0 (by decide)]
theorem steps_inj {k a b : Nat} (ha : a < 16777216) (hb : b < 16777216) (h : steps k a = steps k b) : a = b := by
  have h1 : steps k (a ^^^ b) = 0 := by rw [steps_xor k a b ha hb, h, Nat.xor_self]
  have h2 := steps_zero k _ (xor_lt ha hb) h1
  have := congrArg (fun z => z ^^^ b) h2
  simpa [Nat.xor_assoc] using this
theorem shift_xor (m k r : Nat) (h : r < 2 ^ k) : m * 2 ^ k ^^^ r = m * 2 ^ k + r := by
  have := div_mod_xor (m * 2 ^ k + r) k
  rw [Nat.mul_comm m, Nat.mul_add_div (Nat.pow_pos (by decide)), Nat.div_eq_of_lt h, Nat.add_zero, Nat.mul_add_mod, Nat.mod_eq_of_lt h, Nat.mul_comm m] at this
  rw [Nat.mul_comm m]
  exact this
theorem on_bytes3 (n a b c : Nat) (hn : n < 16777216) (ha : a < 256) (hb : b < 256) (hc : c < 256) : byte (byte (byte n a) b) c = steps 24 (n ^^^ (a * 65536 + (b * 256 + c))) := by
  have h1 : b * 65536 = steps 8 (b * 256) := (steps_small 8 (b * 256) (by show b * 256 * 256 < _; omega)).symm ▸ (by show b * 65536 = b * 256 * 256; omega)
  have h2 : c * 65536 = steps 16 c := (steps_small 16 c (by show c * 65536 < _; omega)).symm
  have l1 : n ^^^ a * 65536 < 16777216 := xor_lt hn (by omega)
  have l2 : n ^^^ a * 65536 ^^^ b * 256 < 16777216 := xor_lt l1 (by omega)
  rw [byte_steps hn ha, byte_steps (steps_lt 8 _ l1) hb, h1, ← steps_xor 8 _ _ l1 (by omega), byte_steps (steps_lt 8 _ (steps_lt 8 _ l2)) hc, ← steps_add 8 8, h2, ← steps_xor 16 _ _ l2 (by omega), ← steps_add 16 8]
  congr 1
  rw [Nat.xor_assoc n, Nat.xor_assoc n]
  congr 1
  rw [Nat.xor_assoc]
  have e1 := shift_xor b 8 c hc
  have e2 := shift_xor a 16 (b * 256 + c) (by omega)
  rw [show (2 : Nat) ^ 8 = 256 from rfl] at e1
  rw [show (2 : Nat) ^ 16 = 65536 from rfl] at e2
  rw [e1, e2]
theorem three_bytes {n : Nat} (hn : n < 16777216) (a b c a' b' c' : UInt8) (h : on n [a, b, c] = on n [a', b', c']) : a = a' ∧ b = b' ∧ c = c' := by
  have la := a.toNat_lt
  have lb := b.toNat_lt
  have lc := c.toNat_lt
  have la' := a'.toNat_lt
  have lb' := b'.toNat_lt
  have lc' := c'.toNat_lt
  have h1 : steps 24 (n ^^^ (a.toNat * 65536 + (b.toNat * 256 + c.toNat))) = steps 24 (n ^^^ (a'.toNat * 65536 + (b'.toNat * 256 + c'.toNat))) := by
    rw [← on_bytes3 n _ _ _ hn la lb lc, ← on_bytes3 n _ _ _ hn la' lb' lc']
    exact h
  have h2 := steps_inj (xor_lt hn (by omega)) (xor_lt hn (by omega)) h1
  have h3 := congrArg (fun z => n ^^^ z) h2
  simp only [← Nat.xor_assoc, Nat.xor_self, Nat.zero_xor] at h3
  exact ⟨UInt8.toNat_inj.1 (by omega), UInt8.toNat_inj.1 (by omega), UInt8.toNat_inj.1 (by omega)⟩
end Go.Proofs.YtjjmgpejlkggoaaDoor.CMath
