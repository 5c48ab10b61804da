/- Decimal numerals: what they are made of; unlike numbers have unlike ones. -/
import Derived.Lib.ItoaLen
import Derived.Test.YtpeccbdobdnpiaaDoorProg
namespace Go.Proofs.YtpeccbdobdnpiaaDoor.HNum
open Go.Lib
theorem dec_small {u : Nat} (h : u < 10) : decDigits u = [UInt8.ofNat (48 + u)] := by rw [decDigits, dif_pos h]
theorem dec_big {u : Nat} (h : ¬ u < 10) : decDigits u = decDigits (u / 10) ++ [UInt8.ofNat (48 + u % 10)] := by rw [decDigits, dif_neg h]
theorem dec_ne (u : Nat) : decDigits u ≠ [] := by
  by_cases h : u < 10
  · rw [dec_small h]; simp
  · rw [dec_big h]; simp
theorem dig_toNat (d : Nat) (h : d < 10) : (UInt8.ofNat (48 + d)).toNat = 48 + d := by
  rw [UInt8.toNat_ofNat']; omega
theorem dec_range (u : Nat) : ∀ c ∈ decDigits u, 48 ≤ c.toNat ∧ c.toNat ≤ 57 := by
  induction u using Nat.strongRecOn with
  | _ u ih =>
    intro c hc
    by_cases h : u < 10
    · rw [dec_small h, List.mem_singleton] at hc
      subst hc
      rw [dig_toNat u h]
      omega
    · rw [dec_big h, List.mem_append, List.mem_singleton] at hc
      rcases hc with hc | hc
      · exact ih (u / 10) (by omega) c hc
      · subst hc
        rw [dig_toNat _ (by omega)]
        omega
/-- the number that digits are -/
def decVal (l : List UInt8) : Nat := l.foldl (fun a c => a * 10 + (c.toNat - 48)) 0
theorem dec_val (u : Nat) : decVal (decDigits u) = u := by
  induction u using Nat.strongRecOn with
  | _ u ih =>
    by_cases h : u < 10
    · rw [dec_small h]
      show 0 * 10 + ((UInt8.ofNat (48 + u)).toNat - 48) = u
      rw [dig_toNat u h]
      omega
    · rw [dec_big h]
      have := ih (u / 10) (by omega)
      unfold decVal at this ⊢
      rw [List.foldl_append, this]
      show u / 10 * 10 + ((UInt8.ofNat (48 + u % 10)).toNat - 48) = u
      rw [dig_toNat _ (by omega)]
      omega
theorem dec_inj {u v : Nat} (h : decDigits u = decDigits v) : u = v := by rw [← dec_val u, ← dec_val v, h]
theorem itoa_ne (n : Int) : itoa n ≠ [] := by
  unfold itoa
  split
  · simp
  · exact dec_ne _
theorem itoa_mem (n : Int) : ∀ c ∈ itoa n, c = 45 ∨ (48 ≤ c.toNat ∧ c.toNat ≤ 57) := by
  intro c hc
  unfold itoa at hc
  split at hc
  · rcases List.mem_cons.1 hc with h | h
    · exact .inl h
    · exact .inr (dec_range _ c h)
  · exact .inr (dec_range _ c hc)
theorem itoa_inj {a b : Int} (h : itoa a = itoa b) : a = b := by
  have hd : ∀ u v : Nat, (45 : UInt8) :: decDigits u ≠ decDigits v := fun u v e => by
    have := dec_range v 45 (by rw [← e]; exact List.mem_cons_self)
    simp at this
  unfold itoa at h
  split at h <;> split at h
  · have := dec_inj (List.cons.inj h).2
    omega
  · exact absurd h (hd _ _)
  · exact absurd h.symm (hd _ _)
  · have := dec_inj h
    omega
theorem itoa_no {n : Int} {c : UInt8} (h : c ≠ 45) (h2 : c.toNat < 48 ∨ 57 < c.toNat) : c ∉ itoa n := fun hc => by
  rcases itoa_mem n c hc with e | e
  · exact h e
  · omega
theorem itoa_small {n : Int} (h0 : -10 < n) (h1 : n < 10) : itoa n = if n < 0 then [45, UInt8.ofNat (48 + n.natAbs)] else [UInt8.ofNat (48 + n.natAbs)] := by
  unfold itoa
  by_cases h : n < 0
  · rw [if_pos h, if_pos h, dec_small (by omega)]
  · rw [if_neg h, if_neg h, dec_small (by omega), show n.toNat = n.natAbs by omega]
theorem itoa_step {n : Int} (h : Int.tdiv n 10 ≠ 0) : itoa n = itoa (Int.tdiv n 10) ++ [UInt8.ofNat (48 + (Int.tmod n 10).natAbs)] := by
  have e1 := Int.natAbs_tdiv n 10
  have e2 := Int.natAbs_tmod n 10
  have hbig : ¬ n.natAbs < 10 := fun hl => h (by
    have : (Int.tdiv n 10).natAbs = 0 := by rw [e1]; exact Nat.div_eq_of_lt (by simpa using hl)
    omega)
  have e1' : (Int.tdiv n 10).natAbs = n.natAbs / 10 := e1
  have e2' : (Int.tmod n 10).natAbs = n.natAbs % 10 := e2
  unfold itoa
  by_cases hn : n < 0
  · have hq : Int.tdiv n 10 < 0 := by
      have : 0 ≤ Int.tdiv (-n) 10 := Int.tdiv_nonneg (by omega) (by decide)
      rw [Int.neg_tdiv] at this
      omega
    rw [if_pos hn, if_pos hq, dec_big hbig, e1', e2']
    rfl
  · have hq : ¬ Int.tdiv n 10 < 0 := by
      have : 0 ≤ Int.tdiv n 10 := Int.tdiv_nonneg (by omega) (by decide)
      omega
    rw [if_neg hn, if_neg hq, show n.toNat = n.natAbs by omega, show (Int.tdiv n 10).toNat = (Int.tdiv n 10).natAbs by omega, dec_big hbig, e1', e2']
end Go.Proofs.YtpeccbdobdnpiaaDoor.HNum
