/- Go functions as Lean functions, each with the proof that its call answers just so; written by wip/tools/myprint.py. -/
import Derived.Test.YtjjmgpejlkggoaaDoorProg
import Derived.Below
import Derived.Deep.Draws
import Derived.Deep.AppendLies
import Derived.Maps.AppendAt
import Derived.OwnWalk
import Derived.Laws.BytesArg
import Derived.Laws.MakeOwn
import Derived.Laws.OwnMore
import Derived.Deep.OwnRows
import Derived.Tactics
import Derived.Lib.ConvBytes
import Derived.Laws.Slices
import Derived.WalkKit
import Derived.KernelRfl
import Derived.RowKit3
import Derived.Deep.LoopGhost
import Derived.Deep.QuietTactic
import Derived.BigQuiet
import Derived.WideLaws
import Derived.Deep.DeepCutAuto
import Derived.Deep.CutBlock
import Derived.Deep.RegionHeld3
import Derived.Laws.Rows
import Derived.Lib.AppendStr
import Derived.ArgAppend
import Derived.Laws.IdiomCopy
import Derived.OrdersHeld
import Derived.Laws.BitsLemmas
import Derived.RowKit
import Derived.Test.YtjjmgpejlkggoaaDoorHOn
import Derived.Test.YtjjmgpejlkggoaaDoorWWords
import Derived.Test.YtjjmgpejlkggoaaDoorWLast
import Derived.Test.YtjjmgpejlkggoaaDoorWTab
import Derived.Test.YtjjmgpejlkggoaaDoorWFour
import Derived.Test.YtjjmgpejlkggoaaDoorWQPut
import Derived.Test.YtjjmgpejlkggoaaDoorWApart
import Derived.Test.YtjjmgpejlkggoaaDoorWArr
import Derived.Test.YtjjmgpejlkggoaaDoorWZeros
import Derived.Test.YtjjmgpejlkggoaaDoorWFoot
import Derived.Test.YtjjmgpejlkggoaaDoorWKept
import Derived.Test.YtjjmgpejlkggoaaDoorWShare
import Derived.Test.YtjjmgpejlkggoaaDoorWN
import Derived.Test.YtjjmgpejlkggoaaDoorWFootNe
import Derived.Test.YtjjmgpejlkggoaaDoorWAt
import Derived.Test.YtjjmgpejlkggoaaDoorWEqStruct
import Derived.Test.YtjjmgpejlkggoaaDoorWRepsOne
import Derived.Test.YtjjmgpejlkggoaaDoorWInv
import Derived.Test.YtjjmgpejlkggoaaDoorWInvWords
import Derived.Test.YtjjmgpejlkggoaaDoorWGuard
import Derived.Test.YtjjmgpejlkggoaaDoorWNEv
import Derived.Test.YtjjmgpejlkggoaaDoorWMore
namespace Go.Proofs.YtjjmgpejlkggoaaDoor.Q
open Go.RowKit Go.Proofs.YtjjmgpejlkggoaaDoorW.PrintWords Go.Proofs.YtjjmgpejlkggoaaDoorW.PrintLast Go.Proofs.YtjjmgpejlkggoaaDoorW.PrintMore
attribute [local go_sem] max2_int min2_int max_two min_two max_three min_three max_four min_four   -- for this text's walks alone
set_option linter.unusedVariables false
set_option linter.unusedSimpArgs false



def errW : Option Int → Value
  | none => .nilIface
  | some c => .iface 0 (.int .i64 c)
theorem errW_none : errW none = .nilIface := rfl
theorem errW_some (c : Int) : errW (some c) = .iface 0 (.int .i64 c) := rfl

theorem info5 : (Tryd.prog.info? 5).map (fun i => (i.zero, i.size, i.bytes)) = some (some (.int .u8 0), 1, 1) := by kernel_rfl
-- the values' own types

end Go.Proofs.YtjjmgpejlkggoaaDoor.Q
