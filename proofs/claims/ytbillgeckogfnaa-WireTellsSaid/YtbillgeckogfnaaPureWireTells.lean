/- Any number's bytes, the number at any place of any bytes, or what is wrong there, is as the document says (bytes cut at 100). No condition. -/
import Derived.Test.YtbillgeckogfnaaWRef
import Derived.Test.YtbillgeckogfnaaWLaw
import Derived.Test.YtbillgeckogfnaaQ7
namespace Go.Proofs.Ytbillgeckogfnaa.Pure
open Go.RowKit Go.Proofs.Ytbillgeckogfnaa.Q Go.Proofs.YtbillgeckogfnaaW.PrintWords Go.Proofs.YtbillgeckogfnaaW.PrintLast Go.Proofs.YtbillgeckogfnaaW.PrintMore WMath BMath WEq

theorem WireTells : clewlaw02_WireTells.Pure := by
  intro a s i ha hs hi
  obtain ⟨n, rfl, hn⟩ := u64_of ha
  refine ⟨100, ?_⟩
  unfold clewlaw02_WireTells.f
  have hm : mn (s.size : Int) 100 = ((min s.size 100 : Nat) : Int) := mn_nat s.size 100
  have hz := cut_size s 100
  rw [hm, Int.toNat_natCast]
  generalize s.extract 0 (min s.size 100) = t at hz ⊢
  rw [if_pos (by omega), if_pos (by omega), refget_eq 100 t i (by omega) (by omega)]
  obtain ⟨g, hg⟩ : ∃ g, wire_Get.f t i = some g := by
    by_cases h : i < 0 ∨ (t.size : Int) < i
    · exact ⟨_, get_out t i h (by omega)⟩
    · obtain ⟨j, rfl⟩ := Int.eq_ofNat_of_zero_le (a := i) (by omega)
      exact ⟨_, get_eq t j (by omega) (by omega)⟩
  have hsz : ((putS n).size : Int) = ((put n).length : Int) := by rw [putS_size hn]
  simp only [hg, put_eq 100 n (by omega) hn, refput_eq 100 n (by omega) hn, size_eq 100 n (by omega) hn, fixed_eq 100 (by omega), Option.bind_some, if_true, hsz]
end Go.Proofs.Ytbillgeckogfnaa.Pure
