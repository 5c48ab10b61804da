/- The table of math/bits, from the row's condition: its cells; and the start in which the door lays it. -/
import Derived.Test.YtdociniomegpnaaDoorRows
import Derived.Test.YtdociniomegpnaaDoorTie
import Derived.Test.YtdociniomegpnaaDoorCLen
import Derived.ProofKit
import Derived.LaidMore
import Derived.Lib.LaidTab
namespace Go.Proofs.YtdociniomegpnaaDoor.HLaid
open Go.ChangeShapes Go.WideShapes Go.ChangeAt Go.RowKit

abbrev laidL : List (String × DataW Unit) := [("math/bits.deBruijn64tab", Rows.laid_math_bits_deBruijn64tab)]
def tabL : List Nat := (List.range 64).map fun i => Go.Lib.deBruijn64tab.getD i 0
theorem gTab : Tryd.prog.globalNamed "math/bits.deBruijn64tab" = some 0 := by kernel_rfl
theorem tTab : (Tryd.prog.globals[0]?).map (·.type) = some 62 := by kernel_rfl
theorem tab_of_laid {W : World} (h : laidMetH Tryd.prog laidL W) : CLen.Tab W := by
  rw [MakeChecks.laidMetH_plain _ _ _ (by kernel_rfl)] at h
  have h1 : Lib.TabIs Tryd.prog W "math/bits.deBruijn64tab" .u8 (tabL.map fun n : Nat => (n : Int)) :=
    Lib.tabIs_of_head gTab tTab Tryd.underlying62 Tryd.underlying5 (by kernel_rfl) (by kernel_rfl) h
  have hc : ∀ i : Nat, i < 64 → W.cell? ⟨0, i, none⟩ = some (.int .u8 (Go.Lib.deBruijn64tab.getD i 0 : Nat)) := by
    intro i hi
    have := World.var?_cell gTab h1 i
    rw [this]
    have key : ∀ j : Fin 64, (tabL.map fun n : Nat => (n : Int))[j.val]? = some ((Go.Lib.deBruijn64tab.getD j.val 0 : Nat) : Int) := by decide
    have hk := key ⟨i, hi⟩
    simp only [List.getElem?_toArray, List.getElem?_map] at hk ⊢
    rw [hk]
    rfl
  refine ⟨?_, hc⟩
  have h0 := hc 0 (by decide)
  rcases Nat.lt_or_ge 0 W.heap.size with h | h
  · exact h
  · rw [show W.cell? ⟨0, 0, none⟩ = none by simp [World.cell?, Array.getElem?_eq_none h]] at h0
    cases h0
theorem door_met (os : Os) (args : Array Value) : laidMetH Tryd.prog laidL ((World.doorLaid Tryd.prog 14 os).forCall (fun _ _ => 0) ⟨#[], args, []⟩).memory :=
  laidMetH_of_parts3 (fuel := 8) (laidMet_of_run' 8 (by kernel_rfl) (by kernel_rfl)) (by kernel_rfl) (by kernel_rfl)
end Go.Proofs.YtdociniomegpnaaDoor.HLaid
