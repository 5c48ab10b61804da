/- Go functions as Lean functions, each with the proof that its call answers just so; written by wip/tools/myprint.py. -/
import Derived.Test.YtbillgeckogfnaaProg
import Derived.Below
import Derived.Deep.Draws
import Derived.Deep.AppendLies
import Derived.Maps.AppendAt
import Derived.OwnWalk
import Derived.Laws.BytesArg
import Derived.Laws.MakeOwn
import Derived.Laws.OwnMore
import Derived.Deep.OwnRows
import Derived.Tactics
import Derived.Lib.ConvBytes
import Derived.Laws.Slices
import Derived.WalkKit
import Derived.KernelRfl
import Derived.RowKit3
import Derived.Deep.LoopGhost
import Derived.Deep.QuietTactic
import Derived.BigQuiet
import Derived.WideLaws
import Derived.Deep.DeepCutAuto
import Derived.Deep.CutBlock
import Derived.Deep.RegionHeld3
import Derived.Laws.Rows
import Derived.Lib.AppendStr
import Derived.ArgAppend
import Derived.Laws.IdiomCopy
import Derived.OrdersHeld
import Derived.Laws.BitsLemmas
import Derived.RowKit
import Derived.Test.YtbillgeckogfnaaShelf
import Derived.Test.YtbillgeckogfnaaHGet
import Derived.Test.YtbillgeckogfnaaWWords
import Derived.Test.YtbillgeckogfnaaWLast
import Derived.Test.YtbillgeckogfnaaWTab
import Derived.Test.YtbillgeckogfnaaWFour
import Derived.Test.YtbillgeckogfnaaWQPut
import Derived.Test.YtbillgeckogfnaaWApart
import Derived.Test.YtbillgeckogfnaaWArr
import Derived.Test.YtbillgeckogfnaaWZeros
import Derived.Test.YtbillgeckogfnaaWFoot
import Derived.Test.YtbillgeckogfnaaWKept
import Derived.Test.YtbillgeckogfnaaWShare
import Derived.Test.YtbillgeckogfnaaWN
import Derived.Test.YtbillgeckogfnaaWFootNe
import Derived.Test.YtbillgeckogfnaaWAt
import Derived.Test.YtbillgeckogfnaaWEqStruct
import Derived.Test.YtbillgeckogfnaaWRepsOne
import Derived.Test.YtbillgeckogfnaaWInv
import Derived.Test.YtbillgeckogfnaaWInvWords
import Derived.Test.YtbillgeckogfnaaWGuard
import Derived.Test.YtbillgeckogfnaaWNEv
import Derived.Test.YtbillgeckogfnaaWMore
namespace Go.Proofs.Ytbillgeckogfnaa.Q
open Go.RowKit Go.Proofs.YtbillgeckogfnaaW.PrintWords Go.Proofs.YtbillgeckogfnaaW.PrintLast Go.Proofs.YtbillgeckogfnaaW.PrintMore
attribute [local go_sem] max2_int min2_int max_two min_two max_three min_three max_four min_four   -- for this text's walks alone
set_option linter.unusedVariables false
set_option linter.unusedSimpArgs false



def errW : Option Int → Value
  | none => .nilIface
  | some c => .iface 0 (.int .i64 c)
theorem errW_none : errW none = .nilIface := rfl
theorem errW_some (c : Int) : errW (some c) = .iface 0 (.int .i64 c) := rfl

theorem info5 : (Try.prog.info? 5).map (fun i => (i.zero, i.size, i.bytes)) = some (some (.int .u8 0), 1, 1) := by kernel_rfl
theorem info22 : (Try.prog.info? 22).map (fun i => (i.zero, i.size, i.bytes)) = some (some (.int .u64 0), 1, 8) := by kernel_rfl
-- the values' own types

end Go.Proofs.Ytbillgeckogfnaa.Q
