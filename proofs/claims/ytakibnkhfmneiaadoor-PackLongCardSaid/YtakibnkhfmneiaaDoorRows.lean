/-
  NARROWER THAN 'FOR EVERY INPUT', by the rows' own cells (each row's printed sentence says how): PackTells: laid · PackBack: laid · PackShort: laid · PackLong: laid.
  DERIVED. THE GIVEN ROWS OF THIS SEAT. 4 by the template 'for every input the law returns true; each argument reads behind the call as it read before'; 0 by the template 'total and deterministic' (their statements: YtakibnkhfmneiaaDoorTotals.lean).
  GIVEN WITH THE SEED: the statements are not yours to turn. If you find one false, say at which input.
  Laid BY PROGRAM, IN A SANDBOX (cutbox-rows.mjs): the forced cells as the released guide's own fill.sh prints them over the translation 2e09a550c46f3b01… (all of the seat's roots in one cut). By AI agents, Wed Nov 11 2026. No macro, syntax, notation, axiom, sorry.
-/
import Derived.Test.YtakibnkhfmneiaaDoorChecked
import GoSem.Claim
import GoSem.ClaimJoined
import GoSem.ClaimMapViews
import Derived.JoinedTies
import Derived.KernelRfl
namespace Go.Proofs.YtakibnkhfmneiaaDoor
/- THE CELL 'sum', in the pinned program and in every row, IS THE sha256 OF THE DUMP (.gsa) THAT YtakibnkhfmneiaaDoorProg.lean LOADS. Nothing in Lean hashes anything: it is a label: what it is worth is what the hold of that sum in a sandbox is worth. -/
noncomputable def Tryd.pinned : Pinned := { name := "ytakibnkhfmneiaadoor", sum := "2e09a550c46f3b01296b9a0e6a128c2e70a7aa6ce626713d59d951befc1cbe48", checked := Tryd.checked }
namespace Rows
def none {H : Type} : Left H := { results := [], args := [] }

/- WHAT THE LISTED PACKAGE-LEVEL VARIABLES READ AS WHEN THE CALL BEGINS. Each datum BY PROGRAM (the guide's laid-datum.mjs) off the statement by which the dump's own 'gosem.cut.vars' lays the variable. In a bare row this is a premise. The card (YtakibnkhfmneiaaDoorCards.lean) ties it to the program's text. -/
def laid_clew_crc_table {H : Type} : DataW H := .agg [.lit (.int .u32 0), .lit (.int .u32 8801531), .lit (.int .u32 9098509), .lit (.int .u32 825846), .lit (.int .u32 9692897), .lit (.int .u32 1419802), .lit (.int .u32 1651692), .lit (.int .u32 10452759), .lit (.int .u32 10584377), .lit (.int .u32 2608578), .lit (.int .u32 2839604), .lit (.int .u32 11344079), .lit (.int .u32 3303384), .lit (.int .u32 11807523), .lit (.int .u32 12104405), .lit (.int .u32 4128302)]

/-- 'clewlaw16.PackTells': WHATEVER THE INPUT: true; the input reads as it did. -/
def packTellsSpec : ChangeSpec := { name := "packTells", fn := fun _ => fun
  | [d1, d2] => { results := [.lit (.bool true)], args := [d1, d2] }
  | _ => none }
def packTellsRow : OpenClaim := { program := "ytakibnkhfmneiaadoor", sum := "2e09a550c46f3b01296b9a0e6a128c2e70a7aa6ce626713d59d951befc1cbe48", func := "clew/clewlaw16.PackTells", spec := "packTells", inPlace := ["internal/abi.NoEscape"], named := ["clew/crc.table"], apart := false, laid := [("clew/crc.table", laid_clew_crc_table)] }
def PackTellsSaid : Prop := packTellsRow.holds Tryd.pinned (OpenSpec.ofChange packTellsSpec)

/-- ITS FALSE NEIGHBOUR: 'it returns false'. Refute it at one input. -/
def packTellsWrong : ChangeSpec := { name := "packTells", fn := fun _ => fun
  | [d1, d2] => { results := [.lit (.bool false)], args := [d1, d2] }
  | _ => none }
def PackTellsWrongFalsely : Prop := packTellsRow.holds Tryd.pinned (OpenSpec.ofChange packTellsWrong)

/-- 'clewlaw16.PackBack': WHATEVER THE INPUT: true; the input reads as it did. -/
def packBackSpec : ChangeSpec := { name := "packBack", fn := fun _ => fun
  | [d1, d2] => { results := [.lit (.bool true)], args := [d1, d2] }
  | _ => none }
def packBackRow : OpenClaim := { program := "ytakibnkhfmneiaadoor", sum := "2e09a550c46f3b01296b9a0e6a128c2e70a7aa6ce626713d59d951befc1cbe48", func := "clew/clewlaw16.PackBack", spec := "packBack", inPlace := ["internal/abi.NoEscape"], named := ["clew/crc.table"], apart := false, laid := [("clew/crc.table", laid_clew_crc_table)] }
def PackBackSaid : Prop := packBackRow.holds Tryd.pinned (OpenSpec.ofChange packBackSpec)

/-- ITS FALSE NEIGHBOUR: 'it returns false'. Refute it at one input. -/
def packBackWrong : ChangeSpec := { name := "packBack", fn := fun _ => fun
  | [d1, d2] => { results := [.lit (.bool false)], args := [d1, d2] }
  | _ => none }
def PackBackWrongFalsely : Prop := packBackRow.holds Tryd.pinned (OpenSpec.ofChange packBackWrong)

/-- 'clewlaw16.PackShort': WHATEVER THE INPUT: true; the input reads as it did. -/
def packShortSpec : ChangeSpec := { name := "packShort", fn := fun _ => fun
  | [d1, d2, d3] => { results := [.lit (.bool true)], args := [d1, d2, d3] }
  | _ => none }
def packShortRow : OpenClaim := { program := "ytakibnkhfmneiaadoor", sum := "2e09a550c46f3b01296b9a0e6a128c2e70a7aa6ce626713d59d951befc1cbe48", func := "clew/clewlaw16.PackShort", spec := "packShort", inPlace := ["internal/abi.NoEscape"], named := ["clew/crc.table"], apart := false, laid := [("clew/crc.table", laid_clew_crc_table)] }
def PackShortSaid : Prop := packShortRow.holds Tryd.pinned (OpenSpec.ofChange packShortSpec)

/-- ITS FALSE NEIGHBOUR: 'it returns false'. Refute it at one input. -/
def packShortWrong : ChangeSpec := { name := "packShort", fn := fun _ => fun
  | [d1, d2, d3] => { results := [.lit (.bool false)], args := [d1, d2, d3] }
  | _ => none }
def PackShortWrongFalsely : Prop := packShortRow.holds Tryd.pinned (OpenSpec.ofChange packShortWrong)

/-- 'clewlaw16.PackLong': WHATEVER THE INPUT: true; the input reads as it did. -/
def packLongSpec : ChangeSpec := { name := "packLong", fn := fun _ => fun
  | [d] => { results := [.lit (.bool true)], args := [d] }
  | _ => none }
def packLongRow : OpenClaim := { program := "ytakibnkhfmneiaadoor", sum := "2e09a550c46f3b01296b9a0e6a128c2e70a7aa6ce626713d59d951befc1cbe48", func := "clew/clewlaw16.PackLong", spec := "packLong", inPlace := ["internal/abi.NoEscape"], named := ["clew/crc.table"], apart := false, laid := [("clew/crc.table", laid_clew_crc_table)] }
def PackLongSaid : Prop := packLongRow.holds Tryd.pinned (OpenSpec.ofChange packLongSpec)

/-- ITS FALSE NEIGHBOUR: 'it returns false'. Refute it at one input. -/
def packLongWrong : ChangeSpec := { name := "packLong", fn := fun _ => fun
  | [d] => { results := [.lit (.bool false)], args := [d] }
  | _ => none }
def PackLongWrongFalsely : Prop := packLongRow.holds Tryd.pinned (OpenSpec.ofChange packLongWrong)

/- THE SECOND FORM. 'bulk': how many values and letters a reading holds, each counted each time it is reached (what is shared counts as often as it is met; a slice's spare places count too). A statement '..UptoSaid' is the law's where the arguments, and the package variables that the reading takes, are together of bulk at most 1048576: NARROWER than '..Said'. Prove '..Said' where nothing that the law and all that it calls make is longer than what came in: it says more and counts as full. Else prove '..UptoSaid'. A law counts once. -/
mutual
def uptoBulk {H : Type} : DataW H → Nat
  | .lit (.string bytes) => bytes.length + 1
  | .lit _ => 1
  | .nil => 1
  | .ptr d => uptoBulk d + 1
  | .slice elems spare => uptoBulkAll elems + uptoBulkAll spare + 1
  | .agg parts => uptoBulkAll parts + 1
  | .iface _ d => uptoBulk d + 1
  | .map entries => uptoBulkEntries entries + 1
  | .held _ => 1
def uptoBulkAll {H : Type} : List (DataW H) → Nat
  | [] => 0
  | d :: r => uptoBulk d + uptoBulkAll r
def uptoBulkEntries {H : Type} : List (Lit × DataW H) → Nat
  | [] => 0
  | x :: r => uptoBulkEntry x + uptoBulkEntries r
def uptoBulkEntry {H : Type} : Lit × DataW H → Nat
  | (.string bytes, d) => bytes.length + uptoBulk d + 1
  | (_, d) => uptoBulk d + 1
 end
def uptoSmall : (H : Type) → List (DataW H) → Bool := fun _ ds => decide (uptoBulkAll ds ≤ 1048576)
def OpenSpec.upto (s : _root_.Go.ChangeSpec) : _root_.Go.OpenSpec := { _root_.Go.OpenSpec.ofChange s with cond := some uptoSmall }

/-- 'clewlaw16.PackTells', WHERE WHAT IT READS IS OF BULK AT MOST 1048576: true; the input reads as it did. -/
def packTellsUptoRow : OpenClaim := { program := "ytakibnkhfmneiaadoor", sum := "2e09a550c46f3b01296b9a0e6a128c2e70a7aa6ce626713d59d951befc1cbe48", func := "clew/clewlaw16.PackTells", spec := "packTells", inPlace := ["internal/abi.NoEscape"], named := ["clew/crc.table"], apart := false, laid := [("clew/crc.table", laid_clew_crc_table)], narrowed := true }
def PackTellsUptoSaid : Prop := packTellsUptoRow.holds Tryd.pinned (OpenSpec.upto packTellsSpec)

/-- 'clewlaw16.PackBack', WHERE WHAT IT READS IS OF BULK AT MOST 1048576: true; the input reads as it did. -/
def packBackUptoRow : OpenClaim := { program := "ytakibnkhfmneiaadoor", sum := "2e09a550c46f3b01296b9a0e6a128c2e70a7aa6ce626713d59d951befc1cbe48", func := "clew/clewlaw16.PackBack", spec := "packBack", inPlace := ["internal/abi.NoEscape"], named := ["clew/crc.table"], apart := false, laid := [("clew/crc.table", laid_clew_crc_table)], narrowed := true }
def PackBackUptoSaid : Prop := packBackUptoRow.holds Tryd.pinned (OpenSpec.upto packBackSpec)

/-- 'clewlaw16.PackShort', WHERE WHAT IT READS IS OF BULK AT MOST 1048576: true; the input reads as it did. -/
def packShortUptoRow : OpenClaim := { program := "ytakibnkhfmneiaadoor", sum := "2e09a550c46f3b01296b9a0e6a128c2e70a7aa6ce626713d59d951befc1cbe48", func := "clew/clewlaw16.PackShort", spec := "packShort", inPlace := ["internal/abi.NoEscape"], named := ["clew/crc.table"], apart := false, laid := [("clew/crc.table", laid_clew_crc_table)], narrowed := true }
def PackShortUptoSaid : Prop := packShortUptoRow.holds Tryd.pinned (OpenSpec.upto packShortSpec)

/-- 'clewlaw16.PackLong', WHERE WHAT IT READS IS OF BULK AT MOST 1048576: true; the input reads as it did. -/
def packLongUptoRow : OpenClaim := { program := "ytakibnkhfmneiaadoor", sum := "2e09a550c46f3b01296b9a0e6a128c2e70a7aa6ce626713d59d951befc1cbe48", func := "clew/clewlaw16.PackLong", spec := "packLong", inPlace := ["internal/abi.NoEscape"], named := ["clew/crc.table"], apart := false, laid := [("clew/crc.table", laid_clew_crc_table)], narrowed := true }
def PackLongUptoSaid : Prop := packLongUptoRow.holds Tryd.pinned (OpenSpec.upto packLongSpec)

end Rows
end Go.Proofs.YtakibnkhfmneiaaDoor
