/-
  DERIVED. GIVEN WITH THE SEED: THE CARDS: each row of YtdociniomegpnaaDoorRows.lean that lists a variable, with what it lists TIED to the program's text (the seventh form; the later family's looks); each row that meets fmt, with fmt's text TOLD by the authors' own Lean function (tested against real Go, not proved from fmt's source: count such statements apart). THE CARD IS WHAT COUNTS. Prove the row's statement (the work); the ties are given (YtdociniomegpnaaDoorTie.lean); close each card by the builder's one call (the guide's Derived/Test/ToyasCard.lean, 'card_holds'). Laid BY PROGRAM, IN A SANDBOX (cutbox-door.mjs). By AI agents, Wed Nov 11 2026. No macro, syntax, notation, axiom, sorry.
-/
import Derived.Test.YtdociniomegpnaaDoorRows
import GoSem.ClaimSeven
namespace Go.Proofs.YtdociniomegpnaaDoor
namespace Rows

/-- THE TIED CARD OF 'clewlaw01.ClassTells'. -/
def classTellsCard : Claim7 := { stood := { row := classTellsRow, standIns := [], harness := (true, "21bb91c88247798ff621ecb8d67f20c8276eeb298583f10aad50f4ad19d8e2f5"), looks := false }, kinds := [], alts := [], laidByText := true, laidKinds := [.data], laidTests := true, laidLooks := .later }
def ClassTellsCardSaid : Prop := Claim7.holds Tryd.pinned (.plain (OpenSpec.ofChange classTellsSpec)) classTellsCard

/-- THE TIED CARD OF 'clewlaw01.ClassMakes'. -/
def classMakesCard : Claim7 := { stood := { row := classMakesRow, standIns := [], harness := (true, "21bb91c88247798ff621ecb8d67f20c8276eeb298583f10aad50f4ad19d8e2f5"), looks := false }, kinds := [], alts := [], laidByText := true, laidKinds := [.data], laidTests := true, laidLooks := .later }
def ClassMakesCardSaid : Prop := Claim7.holds Tryd.pinned (.plain (OpenSpec.ofChange classMakesSpec)) classMakesCard

/-- THE TIED CARD OF 'clewlaw01.ClassRuns'. -/
def classRunsCard : Claim7 := { stood := { row := classRunsRow, standIns := [], harness := (true, "21bb91c88247798ff621ecb8d67f20c8276eeb298583f10aad50f4ad19d8e2f5"), looks := false }, kinds := [], alts := [], laidByText := true, laidKinds := [.data], laidTests := true, laidLooks := .later }
def ClassRunsCardSaid : Prop := Claim7.holds Tryd.pinned (.plain (OpenSpec.ofChange classRunsSpec)) classRunsCard

/-- THE TIED CARD OF 'clewlaw01.ClassLaws'. -/
def classLawsCard : Claim7 := { stood := { row := classLawsRow, standIns := [], harness := (true, "21bb91c88247798ff621ecb8d67f20c8276eeb298583f10aad50f4ad19d8e2f5"), looks := false }, kinds := [], alts := [], laidByText := true, laidKinds := [.data], laidTests := true, laidLooks := .later }
def ClassLawsCardSaid : Prop := Claim7.holds Tryd.pinned (.plain (OpenSpec.ofChange classLawsSpec)) classLawsCard

/-- THE TIED CARD OF 'clewlaw01.ClassHas'. -/
def classHasCard : Claim7 := { stood := { row := classHasRow, standIns := [], harness := (true, "21bb91c88247798ff621ecb8d67f20c8276eeb298583f10aad50f4ad19d8e2f5"), looks := false }, kinds := [], alts := [], laidByText := true, laidKinds := [.data], laidTests := true, laidLooks := .later }
def ClassHasCardSaid : Prop := Claim7.holds Tryd.pinned (.plain (OpenSpec.ofChange classHasSpec)) classHasCard

/-- THE TIED CARD OF 'clewlaw01.ClassSpans'. -/
def classSpansCard : Claim7 := { stood := { row := classSpansRow, standIns := [], harness := (true, "21bb91c88247798ff621ecb8d67f20c8276eeb298583f10aad50f4ad19d8e2f5"), looks := false }, kinds := [], alts := [], laidByText := true, laidKinds := [.data], laidTests := true, laidLooks := .later }
def ClassSpansCardSaid : Prop := Claim7.holds Tryd.pinned (.plain (OpenSpec.ofChange classSpansSpec)) classSpansCard

/-- THE TIED CARD OF 'clewlaw01.ClassFolds'. -/
def classFoldsCard : Claim7 := { stood := { row := classFoldsRow, standIns := [], harness := (true, "21bb91c88247798ff621ecb8d67f20c8276eeb298583f10aad50f4ad19d8e2f5"), looks := false }, kinds := [], alts := [], laidByText := true, laidKinds := [.data], laidTests := true, laidLooks := .later }
def ClassFoldsCardSaid : Prop := Claim7.holds Tryd.pinned (.plain (OpenSpec.ofChange classFoldsSpec)) classFoldsCard

/-- THE SECOND FORM's CARD OF 'clewlaw01.ClassTells'. -/
def classTellsUptoCard : Claim7 := { stood := { row := classTellsUptoRow, standIns := [], harness := (true, "21bb91c88247798ff621ecb8d67f20c8276eeb298583f10aad50f4ad19d8e2f5"), looks := false }, kinds := [], alts := [], laidByText := true, laidKinds := [.data], laidTests := true, laidLooks := .later }
def ClassTellsUptoCardSaid : Prop := Claim7.holds Tryd.pinned (.plain (OpenSpec.upto classTellsSpec)) classTellsUptoCard

/-- THE SECOND FORM's CARD OF 'clewlaw01.ClassMakes'. -/
def classMakesUptoCard : Claim7 := { stood := { row := classMakesUptoRow, standIns := [], harness := (true, "21bb91c88247798ff621ecb8d67f20c8276eeb298583f10aad50f4ad19d8e2f5"), looks := false }, kinds := [], alts := [], laidByText := true, laidKinds := [.data], laidTests := true, laidLooks := .later }
def ClassMakesUptoCardSaid : Prop := Claim7.holds Tryd.pinned (.plain (OpenSpec.upto classMakesSpec)) classMakesUptoCard

/-- THE SECOND FORM's CARD OF 'clewlaw01.ClassRuns'. -/
def classRunsUptoCard : Claim7 := { stood := { row := classRunsUptoRow, standIns := [], harness := (true, "21bb91c88247798ff621ecb8d67f20c8276eeb298583f10aad50f4ad19d8e2f5"), looks := false }, kinds := [], alts := [], laidByText := true, laidKinds := [.data], laidTests := true, laidLooks := .later }
def ClassRunsUptoCardSaid : Prop := Claim7.holds Tryd.pinned (.plain (OpenSpec.upto classRunsSpec)) classRunsUptoCard

/-- THE SECOND FORM's CARD OF 'clewlaw01.ClassLaws'. -/
def classLawsUptoCard : Claim7 := { stood := { row := classLawsUptoRow, standIns := [], harness := (true, "21bb91c88247798ff621ecb8d67f20c8276eeb298583f10aad50f4ad19d8e2f5"), looks := false }, kinds := [], alts := [], laidByText := true, laidKinds := [.data], laidTests := true, laidLooks := .later }
def ClassLawsUptoCardSaid : Prop := Claim7.holds Tryd.pinned (.plain (OpenSpec.upto classLawsSpec)) classLawsUptoCard

/-- THE SECOND FORM's CARD OF 'clewlaw01.ClassHas'. -/
def classHasUptoCard : Claim7 := { stood := { row := classHasUptoRow, standIns := [], harness := (true, "21bb91c88247798ff621ecb8d67f20c8276eeb298583f10aad50f4ad19d8e2f5"), looks := false }, kinds := [], alts := [], laidByText := true, laidKinds := [.data], laidTests := true, laidLooks := .later }
def ClassHasUptoCardSaid : Prop := Claim7.holds Tryd.pinned (.plain (OpenSpec.upto classHasSpec)) classHasUptoCard

/-- THE SECOND FORM's CARD OF 'clewlaw01.ClassSpans'. -/
def classSpansUptoCard : Claim7 := { stood := { row := classSpansUptoRow, standIns := [], harness := (true, "21bb91c88247798ff621ecb8d67f20c8276eeb298583f10aad50f4ad19d8e2f5"), looks := false }, kinds := [], alts := [], laidByText := true, laidKinds := [.data], laidTests := true, laidLooks := .later }
def ClassSpansUptoCardSaid : Prop := Claim7.holds Tryd.pinned (.plain (OpenSpec.upto classSpansSpec)) classSpansUptoCard

/-- THE SECOND FORM's CARD OF 'clewlaw01.ClassFolds'. -/
def classFoldsUptoCard : Claim7 := { stood := { row := classFoldsUptoRow, standIns := [], harness := (true, "21bb91c88247798ff621ecb8d67f20c8276eeb298583f10aad50f4ad19d8e2f5"), looks := false }, kinds := [], alts := [], laidByText := true, laidKinds := [.data], laidTests := true, laidLooks := .later }
def ClassFoldsUptoCardSaid : Prop := Claim7.holds Tryd.pinned (.plain (OpenSpec.upto classFoldsSpec)) classFoldsUptoCard
end Rows
end Go.Proofs.YtdociniomegpnaaDoor
