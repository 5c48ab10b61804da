/- The program's tables, from the row's condition: their cells; and the start in which the door lays them. -/
import Derived.Test.YtpeccbdobdnpiaaDoorRows
import Derived.Test.YtpeccbdobdnpiaaDoorTie
import Derived.Test.YtpeccbdobdnpiaaDoorAShow
import Derived.Test.YtpeccbdobdnpiaaDoorHTail
import Derived.ProofKit
import Derived.LaidMore
import Derived.Lib.LaidTab
namespace Go.Proofs.YtpeccbdobdnpiaaDoor.HLaid
open Go.ChangeShapes Go.WideShapes Go.ChangeAt Go.RowKit Go.Lib

abbrev laidL : List (String × DataW Unit) := [("math/bits.deBruijn32tab", Rows.laid_math_bits_deBruijn32tab), ("math/bits.deBruijn64tab", Rows.laid_math_bits_deBruijn64tab), ("internal/strconv.uint64pow10", Rows.laid_internal_strconv_uint64pow10)]
theorem gPow : Tryd.prog.globalNamed "internal/strconv.uint64pow10" = some 0 := by kernel_rfl
theorem tPow : (Tryd.prog.globals[0]?).map (·.type) = some 84 := by kernel_rfl
theorem tab_of_laid {W : World} (h : laidMetH Tryd.prog laidL W) : AShow.Tab W := by
  rw [MakeChecks.laidMetH_plain _ _ _ (by kernel_rfl)] at h
  have h2 := HTail.laid_tail (HTail.laid_tail h)
  exact ⟨Lib.tabIs_of_head gPow tPow Tryd.underlying84 Tryd.underlying74 (by kernel_rfl) (by kernel_rfl) h2⟩
theorem door_met (os : Os) (args : Array Value) : laidMetH Tryd.prog laidL ((World.doorLaid Tryd.prog 14 os).forCall (fun _ _ => 0) ⟨#[], args, []⟩).memory :=
  laidMetH_of_parts3 (fuel := 8) (laidMet_of_run' 8 (by kernel_rfl) (by kernel_rfl)) (by kernel_rfl) (by kernel_rfl)
end Go.Proofs.YtpeccbdobdnpiaaDoor.HLaid
