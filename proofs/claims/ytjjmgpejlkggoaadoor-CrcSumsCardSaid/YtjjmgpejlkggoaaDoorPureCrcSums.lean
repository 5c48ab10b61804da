/- The sum of any bytes, on from any sum, what is sealed, and what any bytes open to, or what is wrong, is as the document says (bytes cut at 300). No condition but the program's own table. -/
import Derived.Test.YtjjmgpejlkggoaaDoorCFix
import Derived.Test.YtjjmgpejlkggoaaDoorQ4
namespace Go.Proofs.YtjjmgpejlkggoaaDoor.Pure
open Go.RowKit Go.Proofs.YtjjmgpejlkggoaaDoor.Q Go.Proofs.YtjjmgpejlkggoaaDoorW.PrintWords Go.Proofs.YtjjmgpejlkggoaaDoorW.PrintLast Go.Proofs.YtjjmgpejlkggoaaDoorW.PrintMore HOn CMath BMath CEq

theorem CrcSums : clewlaw03_CrcSums.Pure := by
  intro a s ha hs
  obtain ⟨n, rfl, hn⟩ := u32_of ha
  refine ⟨4000, ?_⟩
  unfold clewlaw03_CrcSums.f
  have hm : mn (s.size : Int) 300 = ((min s.size 300 : Nat) : Int) := mn_nat s.size 300
  have hz := cut_size s 300
  rw [hm, Int.toNat_natCast]
  generalize s.extract 0 (min s.size 300) = t at hz ⊢
  rw [if_pos (by omega), if_pos (by omega)]
  simp only [open_eq t (by omega), refopen_eq 4000 t (by omega) (by omega), of_eq t (by omega), refof_eq 4000 t (by omega) (by omega), on_eq n t hn (by omega), refon_eq 4000 n t (by omega) (by omega),
    seal_eq t (by omega), refseal_eq 4000 t (by omega) (by omega), fixed_eq, Option.bind_some, if_true]
end Go.Proofs.YtjjmgpejlkggoaaDoor.Pure
