/-
  DERIVED. GIVEN WITH THE SEED: THE CARDS: each row of YtaaihcojedibeaaDoorRows.lean that lists a variable, with what it lists TIED to the program's text (the seventh form; the later family's looks); each row that meets fmt, with fmt's text TOLD by the authors' own Lean function (tested against real Go, not proved from fmt's source: count such statements apart). THE CARD IS WHAT COUNTS. Prove the row's statement (the work); the ties are given (YtaaihcojedibeaaDoorTie.lean); close each card by the builder's one call (the guide's Derived/Test/ToyasCard.lean, 'card_holds'). Laid BY PROGRAM, IN A SANDBOX (cutbox-door.mjs). By AI agents, Wed Nov 11 2026. No macro, syntax, notation, axiom, sorry.
-/
import Derived.Test.YtaaihcojedibeaaDoorRows
import GoSem.ClaimSeven
namespace Go.Proofs.YtaaihcojedibeaaDoor
namespace Rows

/-- THE TIED CARD OF 'clewlaw08.ShowPlain'. -/
def showPlainCard : Claim7 := { stood := { row := showPlainRow, standIns := [], harness := (true, "62b4ffde38dd9b42538366b1035a1c394d45180340967e621cd77bb3749ade51"), looks := false }, kinds := [], alts := [], laidByText := true, laidKinds := [.data, .data, .data], laidTests := true, laidLooks := .later }
def ShowPlainCardSaid : Prop := Claim7.holds Tryd.pinned (.plain (OpenSpec.ofChange showPlainSpec)) showPlainCard

/-- THE TIED CARD OF 'clewlaw08.ShowParts'. -/
def showPartsCard : Claim7 := { stood := { row := showPartsRow, standIns := [], harness := (true, "62b4ffde38dd9b42538366b1035a1c394d45180340967e621cd77bb3749ade51"), looks := false }, kinds := [], alts := [], laidByText := true, laidKinds := [.data, .data, .data], laidTests := true, laidLooks := .later }
def ShowPartsCardSaid : Prop := Claim7.holds Tryd.pinned (.plain (OpenSpec.ofChange showPartsSpec)) showPartsCard

/-- THE SECOND FORM's CARD OF 'clewlaw08.ShowPlain'. -/
def showPlainUptoCard : Claim7 := { stood := { row := showPlainUptoRow, standIns := [], harness := (true, "62b4ffde38dd9b42538366b1035a1c394d45180340967e621cd77bb3749ade51"), looks := false }, kinds := [], alts := [], laidByText := true, laidKinds := [.data, .data, .data], laidTests := true, laidLooks := .later }
def ShowPlainUptoCardSaid : Prop := Claim7.holds Tryd.pinned (.plain (OpenSpec.upto showPlainSpec)) showPlainUptoCard

/-- THE SECOND FORM's CARD OF 'clewlaw08.ShowParts'. -/
def showPartsUptoCard : Claim7 := { stood := { row := showPartsUptoRow, standIns := [], harness := (true, "62b4ffde38dd9b42538366b1035a1c394d45180340967e621cd77bb3749ade51"), looks := false }, kinds := [], alts := [], laidByText := true, laidKinds := [.data, .data, .data], laidTests := true, laidLooks := .later }
def ShowPartsUptoCardSaid : Prop := Claim7.holds Tryd.pinned (.plain (OpenSpec.upto showPartsSpec)) showPartsUptoCard
end Rows
end Go.Proofs.YtaaihcojedibeaaDoor
