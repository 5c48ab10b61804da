/- Fewer than three bytes open to nothing; what opens is three bytes shorter, and sealed again the same (bytes cut at 200). No condition but the program's own table. -/
import Derived.Test.YtjjmgpejlkggoaaDoorCFix
import Derived.Test.YtjjmgpejlkggoaaDoorQ7
namespace Go.Proofs.YtjjmgpejlkggoaaDoor.Pure
open Go.RowKit Go.Proofs.YtjjmgpejlkggoaaDoor.Q Go.Proofs.YtjjmgpejlkggoaaDoorW.PrintWords Go.Proofs.YtjjmgpejlkggoaaDoorW.PrintLast Go.Proofs.YtjjmgpejlkggoaaDoorW.PrintMore HOn CMath BMath CEq

theorem empty_list : (⟨#[]⟩ : ByteArray).toList = [] := by rw [Lib.toList_data]
theorem CrcFew : clewlaw03_CrcFew.Pure := by
  intro s hs
  unfold clewlaw03_CrcFew.f
  have hm : mn (s.size : Int) 200 = ((min s.size 200 : Nat) : Int) := mn_nat s.size 200
  have hz := cut_size s 200
  rw [hm, Int.toNat_natCast]
  generalize s.extract 0 (min s.size 200) = t at hz ⊢
  rw [if_pos (by omega), if_pos (by omega), open_eq t (by omega), Option.bind_some]
  by_cases h3 : t.size < 3
  · rw [if_pos (by omega), open_few h3, if_pos empty_list, if_pos (by rfl), fixed_eq]
    rfl
  rw [if_neg (by omega)]
  by_cases h0 : sum t = 0
  · have hz0 := zero_open (by omega) h0
    obtain ⟨g1, g2, _⟩ := open_zero hz0
    have hsz : (openB t).1.size + 3 = t.size := g2
    simp only [hz0]
    rw [if_pos (by rfl), wrap_in (by omega) (by omega), if_pos (by omega), seal_eq _ (by omega), Option.bind_some, g1, if_pos rfl, of_eq t (by omega), Option.bind_some, h0, if_pos (by rfl), fixed_eq]
    rfl
  · rw [open_err (by omega) h0, if_neg (by decide), if_pos empty_list, if_pos (by rfl), of_eq t (by omega), Option.bind_some, if_neg (by omega), fixed_eq]
    rfl
end Go.Proofs.YtjjmgpejlkggoaaDoor.Pure
