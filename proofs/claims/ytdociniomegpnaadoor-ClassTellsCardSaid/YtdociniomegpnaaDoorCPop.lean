/- How many bits: byte by byte. -/
import Derived.Test.YtdociniomegpnaaDoorCBits
namespace Go.Proofs.YtdociniomegpnaaDoor.CPop
open CBits

theorem and_split (a b c d : Nat) (hc : c < 256) (hd : d < 256) : (256 * a + c) &&& (256 * b + d) = 256 * (a &&& b) + (c &&& d) := by
  have hcd : c &&& d < 256 := Nat.lt_of_le_of_lt Nat.and_le_left hc
  apply Nat.eq_of_testBit_eq
  intro i
  rw [show (256 : Nat) = 2 ^ 8 by decide] at *
  rw [Nat.testBit_and, Nat.testBit_two_pow_mul_add _ hc, Nat.testBit_two_pow_mul_add _ hd, Nat.testBit_two_pow_mul_add _ hcd]
  by_cases h : i < 8
  · simp [h]
  · simp [h]
/-- the same byte, n times -/
def rep (k : Nat) : Nat → Nat
  | 0 => 0
  | n + 1 => 256 * rep k n + k
/-- the digits of base 256, each turned by f -/
def dig (f : Nat → Nat) : Nat → Nat → Nat
  | 0, _ => 0
  | n + 1, x => 256 * dig f n (x / 256) + f (x % 256)
def s1 (n x : Nat) : Nat := (x / 2 &&& rep 85 n) + (x &&& rep 85 n)
def s2 (n x : Nat) : Nat := (x / 4 &&& rep 51 n) + (x &&& rep 51 n)
def s3 (n x : Nat) : Nat := (x / 16 + x) &&& rep 15 n
def t1 (b : Nat) : Nat := (b / 2 &&& 85) + (b &&& 85)
def t2 (b : Nat) : Nat := (b / 4 &&& 51) + (b &&& 51)
def t3 (b : Nat) : Nat := (b / 16 + b) &&& 15
theorem low1 : ∀ (e : Fin 2) (b : Fin 256), (e.val * 128 + b.val / 2) &&& 85 = b.val / 2 &&& 85 := by decide +kernel
theorem low2 : ∀ (e : Fin 4) (b : Fin 256), (e.val * 64 + b.val / 4) &&& 51 = b.val / 4 &&& 51 := by decide +kernel
theorem low3 : ∀ (e : Fin 5) (b : Fin 256), b.val / 16 ≤ 4 → b.val % 16 ≤ 4 → (e.val * 16 + b.val / 16 + b.val) &&& 15 = (b.val / 16 + b.val) &&& 15 ∧ e.val * 16 + b.val / 16 + b.val < 256 := by decide +kernel
theorem s1_dig (n x : Nat) (h : x < 256 ^ n) : s1 n x = dig t1 n x := by
  induction n generalizing x with
  | zero => simp [s1, dig, rep]
  | succ n ih =>
    have hq : x / 256 < 256 ^ n := by rw [Nat.pow_succ] at h; omega
    have hx : x = 256 * (x / 256) + x % 256 := by omega
    have h2 : x / 2 = 256 * (x / 256 / 2) + (x / 256 % 2 * 128 + x % 256 / 2) := by omega
    unfold s1 dig rep
    have := ih (x / 256) hq
    have l := low1 ⟨x / 256 % 2, by omega⟩ ⟨x % 256, by omega⟩
    simp only [] at l
    unfold s1 at this
    rw [← this, h2]
    conv => lhs; arg 2; arg 1; rw [hx]
    rw [and_split _ _ _ _ (by omega) (by decide), and_split _ _ _ _ (by omega) (by decide), l]
    unfold t1
    omega
theorem s2_dig (n x : Nat) (h : x < 256 ^ n) : s2 n x = dig t2 n x := by
  induction n generalizing x with
  | zero => simp [s2, dig, rep]
  | succ n ih =>
    have hq : x / 256 < 256 ^ n := by rw [Nat.pow_succ] at h; omega
    have hx : x = 256 * (x / 256) + x % 256 := by omega
    have h2 : x / 4 = 256 * (x / 256 / 4) + (x / 256 % 4 * 64 + x % 256 / 4) := by omega
    unfold s2 dig rep
    have := ih (x / 256) hq
    have l := low2 ⟨x / 256 % 4, by omega⟩ ⟨x % 256, by omega⟩
    simp only [] at l
    unfold s2 at this
    rw [← this, h2]
    conv => lhs; arg 2; arg 1; rw [hx]
    rw [and_split _ _ _ _ (by omega) (by decide), and_split _ _ _ _ (by omega) (by decide), l]
    unfold t2
    omega
theorem dig_lt (f : Nat → Nat) (hf : ∀ b, b < 256 → f b < 256) (n x : Nat) : dig f n x < 256 ^ n := by
  induction n generalizing x with
  | zero => simp [dig]
  | succ n ih =>
    have := ih (x / 256)
    have := hf (x % 256) (by omega)
    rw [dig, Nat.pow_succ]
    omega
theorem dig_dig (f g : Nat → Nat) (hf : ∀ b, b < 256 → f b < 256) (n x : Nat) : dig g n (dig f n x) = dig (fun b => g (f b)) n x := by
  induction n generalizing x with
  | zero => rfl
  | succ n ih =>
    have := hf (x % 256) (by omega)
    rw [dig, dig, dig, show (256 * dig f n (x / 256) + f (x % 256)) / 256 = dig f n (x / 256) by omega, show (256 * dig f n (x / 256) + f (x % 256)) % 256 = f (x % 256) by omega, ih]
theorem s3_dig (f : Nat → Nat) (hf : ∀ b, b < 256 → f b < 256 ∧ f b / 16 ≤ 4 ∧ f b % 16 ≤ 4) (n x : Nat) : s3 n (dig f n x) = dig (fun b => t3 (f b)) n x := by
  induction n generalizing x with
  | zero => simp [s3, dig, rep]
  | succ n ih =>
    have hc := hf (x % 256) (by omega)
    have hnext : dig f n (x / 256) % 16 ≤ 4 := by
      cases n with
      | zero => simp [dig]
      | succ n =>
        have := hf (x / 256 % 256) (by omega)
        rw [dig]
        omega
    have h1 := ih (x / 256)
    unfold s3 at h1
    rw [dig, dig, ← h1]
    generalize dig f n (x / 256) = y at *
    generalize f (x % 256) = c at *
    have h2 : (256 * y + c) / 16 + (256 * y + c) = 256 * (y / 16 + y) + (y % 16 * 16 + c / 16 + c) := by omega
    have h3 := low3 ⟨y % 16, by omega⟩ ⟨c, hc.1⟩ hc.2.1 hc.2.2
    simp only [] at h3
    show ((256 * y + c) / 16 + (256 * y + c)) &&& (256 * rep 15 n + 15) = 256 * ((y / 16 + y) &&& rep 15 n) + t3 c
    rw [h2, and_split _ _ _ _ h3.2 (by decide), h3.1]
    rfl
theorem t1_ok : ∀ b : Fin 256, t1 b.val < 256 := by decide +kernel
theorem t2_ok : ∀ b : Fin 256, t2 (t1 b.val) < 256 ∧ t2 (t1 b.val) / 16 ≤ 4 ∧ t2 (t1 b.val) % 16 ≤ 4 := by decide +kernel
theorem t3_ok : ∀ b : Fin 256, t3 (t2 (t1 b.val)) = Go.Lib.popAux 8 b.val ∧ Go.Lib.popAux 8 b.val ≤ 8 := by decide +kernel
theorem dig_congr (f g : Nat → Nat) (h : ∀ b, b < 256 → f b = g b) (n x : Nat) : dig f n x = dig g n x := by
  induction n generalizing x with
  | zero => rfl
  | succ n ih => rw [dig, dig, ih, h _ (by omega)]
theorem swar (x : Nat) (h : x < 256 ^ 8) : s3 8 (s2 8 (s1 8 x)) = dig (Go.Lib.popAux 8) 8 x := by
  have e1 := s1_dig 8 x h
  have l1 := dig_lt t1 (fun b hb => t1_ok ⟨b, hb⟩) 8 x
  rw [e1, s2_dig 8 _ l1, dig_dig t1 t2 (fun b hb => t1_ok ⟨b, hb⟩), s3_dig (fun b => t2 (t1 b)) (fun b hb => t2_ok ⟨b, hb⟩)]
  exact dig_congr _ _ (fun b hb => (t3_ok ⟨b, hb⟩).1) 8 x
theorem pop_step (f x : Nat) : Go.Lib.popAux (f + 8) x = Go.Lib.popAux 8 (x % 256) + Go.Lib.popAux f (x / 256) := by
  simp only [Go.Lib.popAux]
  have e : x / 2 / 2 / 2 / 2 / 2 / 2 / 2 / 2 = x / 256 := by omega
  rw [e]
  generalize Go.Lib.popAux f (x / 256) = r
  omega
set_option linter.unusedVariables false in
theorem pop_bytes (x : Nat) (h : x < 256 ^ 8) : ∃ p0 p1 p2 p3 p4 p5 p6 p7 : Nat, p0 ≤ 8 ∧ p1 ≤ 8 ∧ p2 ≤ 8 ∧ p3 ≤ 8 ∧ p4 ≤ 8 ∧ p5 ≤ 8 ∧ p6 ≤ 8 ∧ p7 ≤ 8 ∧
    dig (Go.Lib.popAux 8) 8 x = 256 * (256 * (256 * (256 * (256 * (256 * (256 * p7 + p6) + p5) + p4) + p3) + p2) + p1) + p0 ∧ Go.Lib.onesCount x = p0 + p1 + p2 + p3 + p4 + p5 + p6 + p7 := by
  have hp : ∀ b, b < 256 → Go.Lib.popAux 8 b ≤ 8 := fun b hb => (t3_ok ⟨b, hb⟩).2
  refine ⟨Go.Lib.popAux 8 ((x) % 256), Go.Lib.popAux 8 ((x / 256) % 256), Go.Lib.popAux 8 ((x / 256 / 256) % 256), Go.Lib.popAux 8 ((x / 256 / 256 / 256) % 256), Go.Lib.popAux 8 ((x / 256 / 256 / 256 / 256) % 256), Go.Lib.popAux 8 ((x / 256 / 256 / 256 / 256 / 256) % 256), Go.Lib.popAux 8 ((x / 256 / 256 / 256 / 256 / 256 / 256) % 256), Go.Lib.popAux 8 ((x / 256 / 256 / 256 / 256 / 256 / 256 / 256) % 256), hp _ (Nat.mod_lt _ (by decide)), hp _ (Nat.mod_lt _ (by decide)), hp _ (Nat.mod_lt _ (by decide)), hp _ (Nat.mod_lt _ (by decide)), hp _ (Nat.mod_lt _ (by decide)), hp _ (Nat.mod_lt _ (by decide)), hp _ (Nat.mod_lt _ (by decide)), hp _ (Nat.mod_lt _ (by decide)), ?_, ?_⟩
  · simp only [dig, Nat.mul_zero, Nat.zero_add]
  · show Go.Lib.popAux 64 x = _
    have e0 : Go.Lib.popAux 64 (x) = Go.Lib.popAux 8 ((x) % 256) + Go.Lib.popAux 56 (x / 256) := pop_step 56 (x)
    have e1 : Go.Lib.popAux 56 (x / 256) = Go.Lib.popAux 8 ((x / 256) % 256) + Go.Lib.popAux 48 (x / 256 / 256) := pop_step 48 (x / 256)
    have e2 : Go.Lib.popAux 48 (x / 256 / 256) = Go.Lib.popAux 8 ((x / 256 / 256) % 256) + Go.Lib.popAux 40 (x / 256 / 256 / 256) := pop_step 40 (x / 256 / 256)
    have e3 : Go.Lib.popAux 40 (x / 256 / 256 / 256) = Go.Lib.popAux 8 ((x / 256 / 256 / 256) % 256) + Go.Lib.popAux 32 (x / 256 / 256 / 256 / 256) := pop_step 32 (x / 256 / 256 / 256)
    have e4 : Go.Lib.popAux 32 (x / 256 / 256 / 256 / 256) = Go.Lib.popAux 8 ((x / 256 / 256 / 256 / 256) % 256) + Go.Lib.popAux 24 (x / 256 / 256 / 256 / 256 / 256) := pop_step 24 (x / 256 / 256 / 256 / 256)
    have e5 : Go.Lib.popAux 24 (x / 256 / 256 / 256 / 256 / 256) = Go.Lib.popAux 8 ((x / 256 / 256 / 256 / 256 / 256) % 256) + Go.Lib.popAux 16 (x / 256 / 256 / 256 / 256 / 256 / 256) := pop_step 16 (x / 256 / 256 / 256 / 256 / 256)
    have e6 : Go.Lib.popAux 16 (x / 256 / 256 / 256 / 256 / 256 / 256) = Go.Lib.popAux 8 ((x / 256 / 256 / 256 / 256 / 256 / 256) % 256) + Go.Lib.popAux 8 (x / 256 / 256 / 256 / 256 / 256 / 256 / 256) := pop_step 8 (x / 256 / 256 / 256 / 256 / 256 / 256)
    have e7 : Go.Lib.popAux 8 (x / 256 / 256 / 256 / 256 / 256 / 256 / 256) = Go.Lib.popAux 8 ((x / 256 / 256 / 256 / 256 / 256 / 256 / 256) % 256) + Go.Lib.popAux 0 (x / 256 / 256 / 256 / 256 / 256 / 256 / 256 / 256) := pop_step 0 (x / 256 / 256 / 256 / 256 / 256 / 256 / 256)
    have z : Go.Lib.popAux 0 (x / 256 / 256 / 256 / 256 / 256 / 256 / 256 / 256) = 0 := rfl
    omega
/-- the last sums -/
theorem sums (p0 p1 p2 p3 p4 p5 p6 p7 y a b c : Nat) (h0 : p0 ≤ 8) (h1 : p1 ≤ 8) (h2 : p2 ≤ 8) (h3 : p3 ≤ 8) (h4 : p4 ≤ 8) (h5 : p5 ≤ 8) (h6 : p6 ≤ 8) (h7 : p7 ≤ 8)
    (hy : y = 256 * (256 * (256 * (256 * (256 * (256 * (256 * p7 + p6) + p5) + p4) + p3) + p2) + p1) + p0) (ha : a = y + y / 256) (hb : b = a + a / 65536) (hc : c = b + b / 4294967296) :
    a < 9223372036854775808 ∧ b < 9223372036854775808 ∧ c < 9223372036854775808 ∧ c % 128 = p0 + p1 + p2 + p3 + p4 + p5 + p6 + p7 := by
  have e1 : y / 256 = 256 * (256 * (256 * (256 * (256 * (256 * p7 + p6) + p5) + p4) + p3) + p2) + p1 := by omega
  have e2 : a / 65536 = 256 * (256 * (256 * (256 * (256 * p7 + (p6 + p7)) + (p5 + p6)) + (p4 + p5)) + (p3 + p4)) + (p2 + p3) := by omega
  have e3 : b = 256 * (256 * (256 * (256 * (256 * (256 * (256 * p7 + (p6 + p7)) + (p5 + p6 + p7)) + (p4 + p5 + p6 + p7)) + (p3 + p4 + p5 + p6)) + (p2 + p3 + p4 + p5)) + (p1 + p2 + p3 + p4)) + (p0 + p1 + p2 + p3) := by omega
  have e4 : b / 4294967296 = 256 * (256 * (256 * p7 + (p6 + p7)) + (p5 + p6 + p7)) + (p4 + p5 + p6 + p7) := by omega
  have hyl : y ≤ 578721382704613384 := by omega
  obtain ⟨B, hB⟩ : ∃ B, b = 256 * B + (p0 + p1 + p2 + p3) := ⟨_, e3⟩
  obtain ⟨C, hC⟩ : ∃ C, b / 4294967296 = 256 * C + (p4 + p5 + p6 + p7) := ⟨_, e4⟩
  clear e1 e2 e3 e4 hy
  have g1 : a < 9223372036854775808 := by omega
  have g2 : b < 9223372036854775808 := by clear hB hC; omega
  have g3 : c < 9223372036854775808 := by clear hB hC; omega
  clear ha hb hyl
  refine ⟨g1, g2, g3, ?_⟩
  rw [hC] at hc
  clear hC g1 g2 g3
  omega
end Go.Proofs.YtdociniomegpnaaDoor.CPop
