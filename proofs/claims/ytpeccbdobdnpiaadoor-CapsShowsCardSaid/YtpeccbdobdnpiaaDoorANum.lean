/- The reference's numerals. -/
import Derived.Test.YtpeccbdobdnpiaaDoorQ1
import Derived.Test.YtpeccbdobdnpiaaDoorHNum
namespace Go.Proofs.YtpeccbdobdnpiaaDoor.ANum
open Go.RowKit HNum Q Go.Proofs.YtpeccbdobdnpiaaDoorW.PrintWords Go.Proofs.YtpeccbdobdnpiaaDoorW.PrintLast Go.Proofs.YtpeccbdobdnpiaaDoorW.PrintMore
set_option linter.unusedVariables false
theorem str_one (x : Int) (h0 : 0 ≤ x) (h1 : x < 10) : strOfNums [(wrap64 (48 + x)) % 256] = ⟨#[UInt8.ofNat (48 + x.natAbs)]⟩ := by
  have e : (wrap64 (48 + x) % 256).toNat = 48 + x.natAbs := by unfold wrap64; omega
  unfold strOfNums
  simp only [List.map_cons, List.map_nil, e]
theorem bapp (a b : List UInt8) : (⟨a.toArray⟩ : ByteArray) ++ ⟨b.toArray⟩ = ⟨(a ++ b).toArray⟩ := by
  apply ByteArray.ext
  simp
theorem bsize (a : List UInt8) : (⟨a.toArray⟩ : ByteArray).size = a.length := by
  show a.toArray.size = a.length
  simp
theorem num_l (d : Nat) : ∀ (k : Nat) (n : Int), n.natAbs < 10 ^ d → -9223372036854775808 ≤ n → n ≤ 9223372036854775807 → 2 * d + 2 < k → clewref10_number.f k n = some ⟨(Go.Lib.itoa n).toArray⟩ := by
  induction d with
  | zero =>
    intro k n hn h0 h1 hk
    obtain rfl : n = 0 := by simp at hn; exact hn
    obtain ⟨k, rfl⟩ : ∃ j, k = j + 2 := ⟨k - 2, by omega⟩
    simp only [clewref10_number.f, clewref10_number.j0]
    rw [show Int.tmod 0 10 = 0 from rfl, if_neg (by decide)]
    simp only [Option.bind_some]
    rw [show wrap64 (Int.tdiv 0 10) = 0 by rw [show Int.tdiv 0 10 = 0 from rfl]; unfold wrap64; omega, if_pos rfl, if_neg (by decide), str_one 0 (by decide) (by decide), itoa_small (by decide) (by decide)]
    rfl
  | succ d ih =>
    intro k n hn h0 h1 hk
    obtain ⟨k, rfl⟩ : ∃ j, k = j + 2 := ⟨k - 2, by omega⟩
    have e2 : (Int.tmod n 10).natAbs = n.natAbs % 10 := Int.natAbs_tmod n 10
    have e1 : (Int.tdiv n 10).natAbs = n.natAbs / 10 := Int.natAbs_tdiv n 10
    have hw : wrap64 (Int.tdiv n 10) = Int.tdiv n 10 := by unfold wrap64; omega
    have j : ∀ x : Int, 0 ≤ x → x < 10 → x.natAbs = (Int.tmod n 10).natAbs → clewref10_number.j0 (k + 1) n x = some ⟨(Go.Lib.itoa n).toArray⟩ := by
      intro x hx0 hx1 hx
      simp only [clewref10_number.j0, Option.bind_some]
      rw [str_one x hx0 hx1, hx, hw]
      by_cases hq : Int.tdiv n 10 = 0
      · rw [if_pos hq]
        have hsm : n.natAbs < 10 := by
          have : n.natAbs / 10 = 0 := by rw [← e1, hq]; rfl
          omega
        rw [e2, Nat.mod_eq_of_lt hsm, itoa_small (by omega) (by omega)]
        by_cases hneg : n < 0
        · rw [if_pos hneg, if_pos hneg, if_pos (by show 1 + 1 ≤ _; omega)]
          congr 1
        · rw [if_neg hneg, if_neg hneg]
      · rw [if_neg hq, ih k (Int.tdiv n 10) (by rw [e1]; rw [Nat.pow_succ] at hn; omega) (by omega) (by omega) (by omega)]
        simp only [Option.bind_some]
        have hl := Go.Lib.itoa_length_le (Int.tdiv n 10) (by omega) (by omega)
        rw [if_pos (by rw [bsize]; show _ + 1 ≤ _; omega)]
        congr 1
        rw [itoa_step hq, ← bapp]
    simp only [clewref10_number.f]
    by_cases hneg : Int.tmod n 10 < 0
    · rw [if_pos hneg, show wrap64 (-(Int.tmod n 10)) = -(Int.tmod n 10) by unfold wrap64; omega]
      exact j _ (by omega) (by omega) (by omega)
    · rw [if_neg hneg]
      exact j _ (by omega) (by omega) rfl
theorem number_f (n : Int) (h0 : -9223372036854775808 ≤ n) (h1 : n ≤ 9223372036854775807) (k : Nat) (hk : 50 ≤ k) : clewref10_number.f k n = some ⟨(Go.Lib.itoa n).toArray⟩ :=
  num_l 19 k n (by rw [show (10 : Nat) ^ 19 = 10000000000000000000 from rfl]; omega) h0 h1 (by omega)
end Go.Proofs.YtpeccbdobdnpiaaDoor.ANum
