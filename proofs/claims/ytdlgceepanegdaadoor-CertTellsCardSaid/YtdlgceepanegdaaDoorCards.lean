/-
  DERIVED. GIVEN WITH THE SEED: THE CARDS: each row of YtdlgceepanegdaaDoorRows.lean that lists a variable, with what it lists TIED to the program's text (the seventh form; the later family's looks); each row that meets fmt, with fmt's text TOLD by the authors' own Lean function (tested against real Go, not proved from fmt's source: count such statements apart). THE CARD IS WHAT COUNTS. Prove the row's statement (the work); the ties are given (YtdlgceepanegdaaDoorTie.lean); close each card by the builder's one call (the guide's Derived/Test/ToyasCard.lean, 'card_holds'). Laid BY PROGRAM, IN A SANDBOX (cutbox-door.mjs). By AI agents, Wed Nov 11 2026. No macro, syntax, notation, axiom, sorry.
-/
import Derived.Test.YtdlgceepanegdaaDoorRows
import GoSem.ClaimSeven
namespace Go.Proofs.YtdlgceepanegdaaDoor
namespace Rows

/-- THE TIED CARD OF 'clewlaw15.CertTells'. -/
def certTellsCard : Claim7 := { stood := { row := certTellsRow, standIns := [], harness := (true, "bcca50b5d83b06819d8b070eecbd49dc88af7773e22f983cd8a31429a421b34c"), looks := false }, kinds := [], alts := [], laidByText := true, laidKinds := [.data, .data, .data, .data], laidTests := true, laidLooks := .later }
def CertTellsCardSaid : Prop := Claim7.holds Tryd.pinned (.plain (OpenSpec.ofChange certTellsSpec)) certTellsCard

/-- THE TIED CARD OF 'clewlaw15.CertAdds'. -/
def certAddsCard : Claim7 := { stood := { row := certAddsRow, standIns := [], harness := (true, "bcca50b5d83b06819d8b070eecbd49dc88af7773e22f983cd8a31429a421b34c"), looks := false }, kinds := [], alts := [], laidByText := true, laidKinds := [.data, .data, .data, .data], laidTests := true, laidLooks := .later }
def CertAddsCardSaid : Prop := Claim7.holds Tryd.pinned (.plain (OpenSpec.ofChange certAddsSpec)) certAddsCard

/-- THE TIED CARD OF 'clewlaw15.CertParts'. -/
def certPartsCard : Claim7 := { stood := { row := certPartsRow, standIns := [], harness := (true, "bcca50b5d83b06819d8b070eecbd49dc88af7773e22f983cd8a31429a421b34c"), looks := false }, kinds := [], alts := [], laidByText := true, laidKinds := [.data, .data, .data, .data], laidTests := true, laidLooks := .later }
def CertPartsCardSaid : Prop := Claim7.holds Tryd.pinned (.plain (OpenSpec.ofChange certPartsSpec)) certPartsCard

/-- THE TIED CARD OF 'clewlaw15.CertAgain'. -/
def certAgainCard : Claim7 := { stood := { row := certAgainRow, standIns := [], harness := (true, "bcca50b5d83b06819d8b070eecbd49dc88af7773e22f983cd8a31429a421b34c"), looks := false }, kinds := [], alts := [], laidByText := true, laidKinds := [.data, .data, .data, .data], laidTests := true, laidLooks := .later }
def CertAgainCardSaid : Prop := Claim7.holds Tryd.pinned (.plain (OpenSpec.ofChange certAgainSpec)) certAgainCard

/-- THE TIED CARD OF 'clewlaw15.CertShows'. -/
def certShowsCard : Claim7 := { stood := { row := certShowsRow, standIns := [], harness := (true, "bcca50b5d83b06819d8b070eecbd49dc88af7773e22f983cd8a31429a421b34c"), looks := false }, kinds := [], alts := [], laidByText := true, laidKinds := [.data, .data, .data, .data], laidTests := true, laidLooks := .later }
def CertShowsCardSaid : Prop := Claim7.holds Tryd.pinned (.plain (OpenSpec.ofChange certShowsSpec)) certShowsCard

/-- THE SECOND FORM's CARD OF 'clewlaw15.CertTells'. -/
def certTellsUptoCard : Claim7 := { stood := { row := certTellsUptoRow, standIns := [], harness := (true, "bcca50b5d83b06819d8b070eecbd49dc88af7773e22f983cd8a31429a421b34c"), looks := false }, kinds := [], alts := [], laidByText := true, laidKinds := [.data, .data, .data, .data], laidTests := true, laidLooks := .later }
def CertTellsUptoCardSaid : Prop := Claim7.holds Tryd.pinned (.plain (OpenSpec.upto certTellsSpec)) certTellsUptoCard

/-- THE SECOND FORM's CARD OF 'clewlaw15.CertAdds'. -/
def certAddsUptoCard : Claim7 := { stood := { row := certAddsUptoRow, standIns := [], harness := (true, "bcca50b5d83b06819d8b070eecbd49dc88af7773e22f983cd8a31429a421b34c"), looks := false }, kinds := [], alts := [], laidByText := true, laidKinds := [.data, .data, .data, .data], laidTests := true, laidLooks := .later }
def CertAddsUptoCardSaid : Prop := Claim7.holds Tryd.pinned (.plain (OpenSpec.upto certAddsSpec)) certAddsUptoCard

/-- THE SECOND FORM's CARD OF 'clewlaw15.CertParts'. -/
def certPartsUptoCard : Claim7 := { stood := { row := certPartsUptoRow, standIns := [], harness := (true, "bcca50b5d83b06819d8b070eecbd49dc88af7773e22f983cd8a31429a421b34c"), looks := false }, kinds := [], alts := [], laidByText := true, laidKinds := [.data, .data, .data, .data], laidTests := true, laidLooks := .later }
def CertPartsUptoCardSaid : Prop := Claim7.holds Tryd.pinned (.plain (OpenSpec.upto certPartsSpec)) certPartsUptoCard

/-- THE SECOND FORM's CARD OF 'clewlaw15.CertAgain'. -/
def certAgainUptoCard : Claim7 := { stood := { row := certAgainUptoRow, standIns := [], harness := (true, "bcca50b5d83b06819d8b070eecbd49dc88af7773e22f983cd8a31429a421b34c"), looks := false }, kinds := [], alts := [], laidByText := true, laidKinds := [.data, .data, .data, .data], laidTests := true, laidLooks := .later }
def CertAgainUptoCardSaid : Prop := Claim7.holds Tryd.pinned (.plain (OpenSpec.upto certAgainSpec)) certAgainUptoCard

/-- THE SECOND FORM's CARD OF 'clewlaw15.CertShows'. -/
def certShowsUptoCard : Claim7 := { stood := { row := certShowsUptoRow, standIns := [], harness := (true, "bcca50b5d83b06819d8b070eecbd49dc88af7773e22f983cd8a31429a421b34c"), looks := false }, kinds := [], alts := [], laidByText := true, laidKinds := [.data, .data, .data, .data], laidTests := true, laidLooks := .later }
def CertShowsUptoCardSaid : Prop := Claim7.holds Tryd.pinned (.plain (OpenSpec.upto certShowsSpec)) certShowsUptoCard
end Rows
end Go.Proofs.YtdlgceepanegdaaDoor
