/- The table of crc, from the row's condition: its cells; and the start in which the door lays it. -/
import Derived.Test.YtjjmgpejlkggoaaDoorRows
import Derived.Test.YtjjmgpejlkggoaaDoorTie
import Derived.Test.YtjjmgpejlkggoaaDoorHOn
import Derived.ProofKit
import Derived.LaidMore
import Derived.Lib.LaidTab
namespace Go.Proofs.YtjjmgpejlkggoaaDoor.HLaid
open Go.ChangeShapes Go.WideShapes Go.ChangeAt Go.RowKit

abbrev laidL : List (String × DataW Unit) := [("clew/crc.table", Rows.laid_clew_crc_table)]
theorem gTab : Tryd.prog.globalNamed "clew/crc.table" = some 0 := by kernel_rfl
theorem tTab : (Tryd.prog.globals[0]?).map (·.type) = some 37 := by kernel_rfl
theorem tab_of_laid {W : World} (h : laidMetH Tryd.prog laidL W) : HOn.Tab W := by
  rw [MakeChecks.laidMetH_plain _ _ _ (by kernel_rfl)] at h
  have h1 : Lib.TabIs Tryd.prog W "clew/crc.table" .u32 (HOn.tabL.map fun n : Nat => (n : Int)) :=
    Lib.tabIs_of_head gTab tTab Tryd.underlying37 Tryd.underlying22 (by kernel_rfl) (by kernel_rfl) h
  have hc : ∀ i : Nat, i < 16 → W.cell? ⟨0, i, none⟩ = some (.int .u32 (HOn.tab i : Nat)) := by
    intro i hi
    have := World.var?_cell gTab h1 i
    rw [this]
    have key : ∀ j : Fin 16, (HOn.tabL.map fun n : Nat => (n : Int))[j.val]? = some ((HOn.tab j.val : Nat) : Int) := by decide
    have hk := key ⟨i, hi⟩
    simp only [List.getElem?_toArray, List.getElem?_map] at hk ⊢
    rw [hk]
    rfl
  refine ⟨?_, hc⟩
  have h0 := hc 0 (by decide)
  rcases Nat.lt_or_ge 0 W.heap.size with h | h
  · exact h
  · rw [show W.cell? ⟨0, 0, none⟩ = none by simp [World.cell?, Array.getElem?_eq_none h]] at h0
    cases h0
theorem door_met (os : Os) (args : Array Value) : laidMetH Tryd.prog laidL ((World.doorLaid Tryd.prog 14 os).forCall (fun _ _ => 0) ⟨#[], args, []⟩).memory :=
  laidMetH_of_parts3 (fuel := 8) (laidMet_of_run' 8 (by kernel_rfl) (by kernel_rfl)) (by kernel_rfl) (by kernel_rfl)
end Go.Proofs.YtjjmgpejlkggoaaDoor.HLaid
