/-
  No cell of these rows narrows 'for every input' (looked for: loops, veiled, ifaces, maps, wideKeys, modest, calm, conditions, laid).
  DERIVED. THE GIVEN ROWS OF THIS SEAT. 7 by the template 'for every input the law returns true; each argument reads behind the call as it read before'; 0 by the template 'total and deterministic' (their statements: YtjeoiebdchlilaaTotals.lean).
  GIVEN WITH THE SEED: the statements are not yours to turn. If you find one false, say at which input.
  Laid BY PROGRAM, IN A SANDBOX (cutbox-rows.mjs): the forced cells as the released guide's own fill.sh prints them over the translation dc0a739e8c4bbd74… (all of the seat's roots in one cut). By AI agents, Wed Nov 11 2026. No macro, syntax, notation, axiom, sorry.
-/
import Derived.Test.YtjeoiebdchlilaaChecked
import GoSem.Claim
import GoSem.ClaimJoined
import GoSem.ClaimMapViews
import Derived.JoinedTies
import Derived.KernelRfl
namespace Go.Proofs.Ytjeoiebdchlilaa
/- THE CELL 'sum', in the pinned program and in every row, IS THE sha256 OF THE DUMP (.gsa) THAT YtjeoiebdchlilaaProg.lean LOADS. Nothing in Lean hashes anything: it is a label: what it is worth is what the hold of that sum in a sandbox is worth. -/
noncomputable def Try.pinned : Pinned := { name := "ytjeoiebdchlilaa", sum := "dc0a739e8c4bbd749163962879a304567e3233bb8d29b03bdeae61640a78a540", checked := Try.checked }
namespace Rows
def none {H : Type} : Left H := { results := [], args := [] }

/-- 'clewlaw05.AstTells': WHATEVER THE INPUT: true; the input reads as it did. -/
def astTellsSpec : ChangeSpec := { name := "astTells", fn := fun _ => fun
  | [d1, d2] => { results := [.lit (.bool true)], args := [d1, d2] }
  | _ => none }
def astTellsRow : OpenClaim := { program := "ytjeoiebdchlilaa", sum := "dc0a739e8c4bbd749163962879a304567e3233bb8d29b03bdeae61640a78a540", func := "clew/clewlaw05.AstTells", spec := "astTells", unfollowed := true, recurses := true, apart := false }
def AstTellsSaid : Prop := astTellsRow.holds Try.pinned (OpenSpec.ofChange astTellsSpec)

/-- ITS FALSE NEIGHBOUR: 'it returns false'. Refute it at one input. -/
def astTellsWrong : ChangeSpec := { name := "astTells", fn := fun _ => fun
  | [d1, d2] => { results := [.lit (.bool false)], args := [d1, d2] }
  | _ => none }
def AstTellsWrongFalsely : Prop := astTellsRow.holds Try.pinned (OpenSpec.ofChange astTellsWrong)

/-- 'clewlaw05.AstMakes': WHATEVER THE INPUT: true; the input reads as it did. -/
def astMakesSpec : ChangeSpec := { name := "astMakes", fn := fun _ => fun
  | [d1, d2, d3] => { results := [.lit (.bool true)], args := [d1, d2, d3] }
  | _ => none }
def astMakesRow : OpenClaim := { program := "ytjeoiebdchlilaa", sum := "dc0a739e8c4bbd749163962879a304567e3233bb8d29b03bdeae61640a78a540", func := "clew/clewlaw05.AstMakes", spec := "astMakes", unfollowed := true, recurses := true, apart := false }
def AstMakesSaid : Prop := astMakesRow.holds Try.pinned (OpenSpec.ofChange astMakesSpec)

/-- ITS FALSE NEIGHBOUR: 'it returns false'. Refute it at one input. -/
def astMakesWrong : ChangeSpec := { name := "astMakes", fn := fun _ => fun
  | [d1, d2, d3] => { results := [.lit (.bool false)], args := [d1, d2, d3] }
  | _ => none }
def AstMakesWrongFalsely : Prop := astMakesRow.holds Try.pinned (OpenSpec.ofChange astMakesWrong)

/-- 'clewlaw05.AstGrows': WHATEVER THE INPUT: true; the input reads as it did. -/
def astGrowsSpec : ChangeSpec := { name := "astGrows", fn := fun _ => fun
  | [d1, d2] => { results := [.lit (.bool true)], args := [d1, d2] }
  | _ => none }
def astGrowsRow : OpenClaim := { program := "ytjeoiebdchlilaa", sum := "dc0a739e8c4bbd749163962879a304567e3233bb8d29b03bdeae61640a78a540", func := "clew/clewlaw05.AstGrows", spec := "astGrows", unfollowed := true, recurses := true, apart := false }
def AstGrowsSaid : Prop := astGrowsRow.holds Try.pinned (OpenSpec.ofChange astGrowsSpec)

/-- ITS FALSE NEIGHBOUR: 'it returns false'. Refute it at one input. -/
def astGrowsWrong : ChangeSpec := { name := "astGrows", fn := fun _ => fun
  | [d1, d2] => { results := [.lit (.bool false)], args := [d1, d2] }
  | _ => none }
def AstGrowsWrongFalsely : Prop := astGrowsRow.holds Try.pinned (OpenSpec.ofChange astGrowsWrong)

/-- 'clewlaw05.AstLens': WHATEVER THE INPUT: true; the input reads as it did. -/
def astLensSpec : ChangeSpec := { name := "astLens", fn := fun _ => fun
  | [d1, d2] => { results := [.lit (.bool true)], args := [d1, d2] }
  | _ => none }
def astLensRow : OpenClaim := { program := "ytjeoiebdchlilaa", sum := "dc0a739e8c4bbd749163962879a304567e3233bb8d29b03bdeae61640a78a540", func := "clew/clewlaw05.AstLens", spec := "astLens", unfollowed := true, recurses := true, apart := false }
def AstLensSaid : Prop := astLensRow.holds Try.pinned (OpenSpec.ofChange astLensSpec)

/-- ITS FALSE NEIGHBOUR: 'it returns false'. Refute it at one input. -/
def astLensWrong : ChangeSpec := { name := "astLens", fn := fun _ => fun
  | [d1, d2] => { results := [.lit (.bool false)], args := [d1, d2] }
  | _ => none }
def AstLensWrongFalsely : Prop := astLensRow.holds Try.pinned (OpenSpec.ofChange astLensWrong)

/-- 'clewlaw05.AstCopies': WHATEVER THE INPUT: true; the input reads as it did. -/
def astCopiesSpec : ChangeSpec := { name := "astCopies", fn := fun _ => fun
  | [d1, d2] => { results := [.lit (.bool true)], args := [d1, d2] }
  | _ => none }
def astCopiesRow : OpenClaim := { program := "ytjeoiebdchlilaa", sum := "dc0a739e8c4bbd749163962879a304567e3233bb8d29b03bdeae61640a78a540", func := "clew/clewlaw05.AstCopies", spec := "astCopies", unfollowed := true, recurses := true, apart := false }
def AstCopiesSaid : Prop := astCopiesRow.holds Try.pinned (OpenSpec.ofChange astCopiesSpec)

/-- ITS FALSE NEIGHBOUR: 'it returns false'. Refute it at one input. -/
def astCopiesWrong : ChangeSpec := { name := "astCopies", fn := fun _ => fun
  | [d1, d2] => { results := [.lit (.bool false)], args := [d1, d2] }
  | _ => none }
def AstCopiesWrongFalsely : Prop := astCopiesRow.holds Try.pinned (OpenSpec.ofChange astCopiesWrong)

/-- 'clewlaw05.AstFields': WHATEVER THE INPUT: true; the input reads as it did. -/
def astFieldsSpec : ChangeSpec := { name := "astFields", fn := fun _ => fun
  | [d1, d2] => { results := [.lit (.bool true)], args := [d1, d2] }
  | _ => none }
def astFieldsRow : OpenClaim := { program := "ytjeoiebdchlilaa", sum := "dc0a739e8c4bbd749163962879a304567e3233bb8d29b03bdeae61640a78a540", func := "clew/clewlaw05.AstFields", spec := "astFields", unfollowed := true, recurses := true, apart := false }
def AstFieldsSaid : Prop := astFieldsRow.holds Try.pinned (OpenSpec.ofChange astFieldsSpec)

/-- ITS FALSE NEIGHBOUR: 'it returns false'. Refute it at one input. -/
def astFieldsWrong : ChangeSpec := { name := "astFields", fn := fun _ => fun
  | [d1, d2] => { results := [.lit (.bool false)], args := [d1, d2] }
  | _ => none }
def AstFieldsWrongFalsely : Prop := astFieldsRow.holds Try.pinned (OpenSpec.ofChange astFieldsWrong)

/-- 'clewlaw05.AstOrder': WHATEVER THE INPUT: true; the input reads as it did. -/
def astOrderSpec : ChangeSpec := { name := "astOrder", fn := fun _ => fun
  | [d1, d2] => { results := [.lit (.bool true)], args := [d1, d2] }
  | _ => none }
def astOrderRow : OpenClaim := { program := "ytjeoiebdchlilaa", sum := "dc0a739e8c4bbd749163962879a304567e3233bb8d29b03bdeae61640a78a540", func := "clew/clewlaw05.AstOrder", spec := "astOrder", unfollowed := true, recurses := true, apart := false }
def AstOrderSaid : Prop := astOrderRow.holds Try.pinned (OpenSpec.ofChange astOrderSpec)

/-- ITS FALSE NEIGHBOUR: 'it returns false'. Refute it at one input. -/
def astOrderWrong : ChangeSpec := { name := "astOrder", fn := fun _ => fun
  | [d1, d2] => { results := [.lit (.bool false)], args := [d1, d2] }
  | _ => none }
def AstOrderWrongFalsely : Prop := astOrderRow.holds Try.pinned (OpenSpec.ofChange astOrderWrong)

/- THE SECOND FORM. 'bulk': how many values and letters a reading holds, each counted each time it is reached (what is shared counts as often as it is met; a slice's spare places count too). A statement '..UptoSaid' is the law's where the arguments, and the package variables that the reading takes, are together of bulk at most 1048576: NARROWER than '..Said'. Prove '..Said' where nothing that the law and all that it calls make is longer than what came in: it says more and counts as full. Else prove '..UptoSaid'. A law counts once. -/
mutual
def uptoBulk {H : Type} : DataW H → Nat
  | .lit (.string bytes) => bytes.length + 1
  | .lit _ => 1
  | .nil => 1
  | .ptr d => uptoBulk d + 1
  | .slice elems spare => uptoBulkAll elems + uptoBulkAll spare + 1
  | .agg parts => uptoBulkAll parts + 1
  | .iface _ d => uptoBulk d + 1
  | .map entries => uptoBulkEntries entries + 1
  | .held _ => 1
def uptoBulkAll {H : Type} : List (DataW H) → Nat
  | [] => 0
  | d :: r => uptoBulk d + uptoBulkAll r
def uptoBulkEntries {H : Type} : List (Lit × DataW H) → Nat
  | [] => 0
  | x :: r => uptoBulkEntry x + uptoBulkEntries r
def uptoBulkEntry {H : Type} : Lit × DataW H → Nat
  | (.string bytes, d) => bytes.length + uptoBulk d + 1
  | (_, d) => uptoBulk d + 1
 end
def uptoSmall : (H : Type) → List (DataW H) → Bool := fun _ ds => decide (uptoBulkAll ds ≤ 1048576)
def OpenSpec.upto (s : _root_.Go.ChangeSpec) : _root_.Go.OpenSpec := { _root_.Go.OpenSpec.ofChange s with cond := some uptoSmall }

/-- 'clewlaw05.AstTells', WHERE WHAT IT READS IS OF BULK AT MOST 1048576: true; the input reads as it did. -/
def astTellsUptoRow : OpenClaim := { program := "ytjeoiebdchlilaa", sum := "dc0a739e8c4bbd749163962879a304567e3233bb8d29b03bdeae61640a78a540", func := "clew/clewlaw05.AstTells", spec := "astTells", unfollowed := true, recurses := true, apart := false, narrowed := true }
def AstTellsUptoSaid : Prop := astTellsUptoRow.holds Try.pinned (OpenSpec.upto astTellsSpec)

/-- 'clewlaw05.AstMakes', WHERE WHAT IT READS IS OF BULK AT MOST 1048576: true; the input reads as it did. -/
def astMakesUptoRow : OpenClaim := { program := "ytjeoiebdchlilaa", sum := "dc0a739e8c4bbd749163962879a304567e3233bb8d29b03bdeae61640a78a540", func := "clew/clewlaw05.AstMakes", spec := "astMakes", unfollowed := true, recurses := true, apart := false, narrowed := true }
def AstMakesUptoSaid : Prop := astMakesUptoRow.holds Try.pinned (OpenSpec.upto astMakesSpec)

/-- 'clewlaw05.AstGrows', WHERE WHAT IT READS IS OF BULK AT MOST 1048576: true; the input reads as it did. -/
def astGrowsUptoRow : OpenClaim := { program := "ytjeoiebdchlilaa", sum := "dc0a739e8c4bbd749163962879a304567e3233bb8d29b03bdeae61640a78a540", func := "clew/clewlaw05.AstGrows", spec := "astGrows", unfollowed := true, recurses := true, apart := false, narrowed := true }
def AstGrowsUptoSaid : Prop := astGrowsUptoRow.holds Try.pinned (OpenSpec.upto astGrowsSpec)

/-- 'clewlaw05.AstLens', WHERE WHAT IT READS IS OF BULK AT MOST 1048576: true; the input reads as it did. -/
def astLensUptoRow : OpenClaim := { program := "ytjeoiebdchlilaa", sum := "dc0a739e8c4bbd749163962879a304567e3233bb8d29b03bdeae61640a78a540", func := "clew/clewlaw05.AstLens", spec := "astLens", unfollowed := true, recurses := true, apart := false, narrowed := true }
def AstLensUptoSaid : Prop := astLensUptoRow.holds Try.pinned (OpenSpec.upto astLensSpec)

/-- 'clewlaw05.AstCopies', WHERE WHAT IT READS IS OF BULK AT MOST 1048576: true; the input reads as it did. -/
def astCopiesUptoRow : OpenClaim := { program := "ytjeoiebdchlilaa", sum := "dc0a739e8c4bbd749163962879a304567e3233bb8d29b03bdeae61640a78a540", func := "clew/clewlaw05.AstCopies", spec := "astCopies", unfollowed := true, recurses := true, apart := false, narrowed := true }
def AstCopiesUptoSaid : Prop := astCopiesUptoRow.holds Try.pinned (OpenSpec.upto astCopiesSpec)

/-- 'clewlaw05.AstFields', WHERE WHAT IT READS IS OF BULK AT MOST 1048576: true; the input reads as it did. -/
def astFieldsUptoRow : OpenClaim := { program := "ytjeoiebdchlilaa", sum := "dc0a739e8c4bbd749163962879a304567e3233bb8d29b03bdeae61640a78a540", func := "clew/clewlaw05.AstFields", spec := "astFields", unfollowed := true, recurses := true, apart := false, narrowed := true }
def AstFieldsUptoSaid : Prop := astFieldsUptoRow.holds Try.pinned (OpenSpec.upto astFieldsSpec)

/-- 'clewlaw05.AstOrder', WHERE WHAT IT READS IS OF BULK AT MOST 1048576: true; the input reads as it did. -/
def astOrderUptoRow : OpenClaim := { program := "ytjeoiebdchlilaa", sum := "dc0a739e8c4bbd749163962879a304567e3233bb8d29b03bdeae61640a78a540", func := "clew/clewlaw05.AstOrder", spec := "astOrder", unfollowed := true, recurses := true, apart := false, narrowed := true }
def AstOrderUptoSaid : Prop := astOrderUptoRow.holds Try.pinned (OpenSpec.upto astOrderSpec)

end Rows
end Go.Proofs.Ytjeoiebdchlilaa
