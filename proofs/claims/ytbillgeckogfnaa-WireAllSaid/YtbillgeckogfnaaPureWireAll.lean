/- All numbers that any bytes are, or what is wrong first, is as the document says (bytes cut at 300). No condition. -/
import Derived.Test.YtbillgeckogfnaaWRef
import Derived.Test.YtbillgeckogfnaaWLaw
import Derived.Test.YtbillgeckogfnaaQ8
namespace Go.Proofs.Ytbillgeckogfnaa.Pure
open Go.RowKit Go.Proofs.Ytbillgeckogfnaa.Q Go.Proofs.YtbillgeckogfnaaW.PrintWords Go.Proofs.YtbillgeckogfnaaW.PrintLast Go.Proofs.YtbillgeckogfnaaW.PrintMore WMath BMath WEq

theorem all_len (most : Int) (f : Nat) : ∀ (acc l : List Nat), (all most f acc l).1.length ≤ acc.length + f := by
  induction f with
  | zero => intro acc l; simp [all]
  | succ f ih =>
    intro acc l
    rw [all]
    split
    · simp
    split
    · simp
    split
    · simp
    · have := ih (acc ++ [(getN l).1]) (l.drop (getN l).2.1)
      simp at this
      omega
theorem WireAll : clewlaw02_WireAll.Pure := by
  intro s most hs _
  refine ⟨1000, ?_⟩
  unfold clewlaw02_WireAll.f
  have hm : mn (s.size : Int) 300 = ((min s.size 300 : Nat) : Int) := mn_nat s.size 300
  have hz := cut_size s 300
  rw [hm, Int.toNat_natCast]
  generalize s.extract 0 (min s.size 300) = t at hz ⊢
  have hr : clewref02_All.f 1000 t most = wire_All.f 1000 t most := by
    unfold clewref02_All.f wire_All.f
    exact refall_loop t most (by omega) t.size 1000 [] 0 (by omega) (by omega) (by omega)
  rw [if_pos (by omega), if_pos (by omega), hr, all_eq 1000 t most (by omega) (by omega), Option.bind_some, Option.bind_some]
  have hl := all_len most (t.size + 1) [] (bl t)
  simp only [List.length_nil] at hl
  rw [same_eq 1000 _ _ (by rw [ints_length]; omega) (by rw [ints_length]; omega), Option.bind_some, fixed_eq 1000 (by omega)]
  simp
end Go.Proofs.Ytbillgeckogfnaa.Pure
