/- No number's bytes begin with those of another one; two, one behind the other, are both got. No condition. -/
import Derived.Test.YtbillgeckogfnaaWLaw
import Derived.Test.YtbillgeckogfnaaQ11
namespace Go.Proofs.Ytbillgeckogfnaa.Pure
open Go.RowKit Go.Proofs.Ytbillgeckogfnaa.Q Go.Proofs.YtbillgeckogfnaaW.PrintWords Go.Proofs.YtbillgeckogfnaaW.PrintLast Go.Proofs.YtbillgeckogfnaaW.PrintMore WMath BMath WEq

theorem heads_rest (m n : Nat) (hm : m < 2 ^ 64) (hn : n < 2 ^ 64) : clewlaw02_WireHeads.j0 100 (m : Int) (n : Int) (putS m) (putS n) false = some true := by
  have r1 := put_range hm
  have r2 := put_range hn
  have e1 : (putS m).size = (put m).length := putS_size hm
  have e2 : (putS n).size = (put n).length := putS_size hn
  have hb : bl (putS m ++ putS n) = put m ++ put n := by rw [bl_append, bl_putS hm, bl_putS hn]
  have hs : (putS m ++ putS n).size = (put m).length + (put n).length := by rw [ByteArray.size_append, e1, e2]
  have g1 := get_eq (putS m ++ putS n) 0 (by omega) (by omega)
  have g2 := get_eq (putS m ++ putS n) (putS m).size (by omega) (by omega)
  rw [hb, List.drop_zero, getN_put hm] at g1
  rw [hb, e1, List.drop_left, ← List.append_nil (put n), getN_put hn] at g2
  simp only [clewlaw02_WireHeads.j0]
  rw [if_neg (by simp), if_pos (by omega), show (0 : Int) = ((0 : Nat) : Int) from rfl, g1, e1, g2, Option.bind_some, Option.bind_some, e2]
  have t1 : (tell 0 (m, (put m).length, 0)).1 = (m : Int) := rfl
  have t2 : (tell 0 (m, (put m).length, 0)).2.1 = ((put m).length : Int) := by simp [tell]
  have t3 : (tell 0 (m, (put m).length, 0)).2.2 = ((0 : Nat) : Int) := rfl
  have t4 : (tell (put m).length (n, (put n).length, 0)).1 = (n : Int) := rfl
  have t5 : (tell (put m).length (n, (put n).length, 0)).2.1 = ((put m).length : Int) + ((put n).length : Int) := by simp [tell]
  have t6 : (tell (put m).length (n, (put n).length, 0)).2.2 = ((0 : Nat) : Int) := rfl
  rw [t1, t2, t3, t4, t5, t6, if_pos rfl, if_pos rfl, if_pos rfl, if_pos rfl, wrap_in (by omega) (by omega), if_pos rfl, if_pos rfl, fixed_eq 99 (by omega)]
  rfl
theorem WireHeads : clewlaw02_WireHeads.Pure := by
  intro a b ha hb
  obtain ⟨m, rfl, hm⟩ := u64_of ha
  obtain ⟨n, rfl, hn⟩ := u64_of hb
  refine ⟨100, ?_⟩
  unfold clewlaw02_WireHeads.f
  rw [put_eq 100 m (by omega) hm, put_eq 100 n (by omega) hn, Option.bind_some, Option.bind_some]
  by_cases h : (m : Int) = n
  · rw [if_pos h]
    exact heads_rest m n hm hn
  rw [if_neg h]
  by_cases h2 : ((putS m).size : Int) ≤ (putS n).size
  · rw [if_pos h2, if_pos (by omega)]
    have e : (((putS n).extract 0 ((putS m).size : Int).toNat).toList == (putS m).toList) = false := by
      rw [beq_eq_false_iff_ne, ne_eq, toList_iff, Int.toNat_natCast, bl_extract_to, bl_putS hm, bl_putS hn, putS_size hm]
      intro hc
      exact h (by rw [put_heads hm hn hc])
    rw [e]
    exact heads_rest m n hm hn
  · rw [if_neg h2]
    exact heads_rest m n hm hn
end Go.Proofs.Ytbillgeckogfnaa.Pure
