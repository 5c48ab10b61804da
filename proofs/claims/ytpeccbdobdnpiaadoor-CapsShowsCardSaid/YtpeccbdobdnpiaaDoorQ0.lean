/- Go functions as Lean functions, each with the proof that its call answers just so; written by wip/tools/myprint.py. -/
import Derived.Test.YtpeccbdobdnpiaaDoorProg
import Derived.Below
import Derived.Deep.Draws
import Derived.Deep.AppendLies
import Derived.Maps.AppendAt
import Derived.OwnWalk
import Derived.Laws.BytesArg
import Derived.Laws.MakeOwn
import Derived.Laws.OwnMore
import Derived.Deep.OwnRows
import Derived.Tactics
import Derived.Lib.ConvBytes
import Derived.Laws.Slices
import Derived.WalkKit
import Derived.KernelRfl
import Derived.RowKit3
import Derived.Deep.LoopGhost
import Derived.Deep.QuietTactic
import Derived.BigQuiet
import Derived.WideLaws
import Derived.Deep.DeepCutAuto
import Derived.Deep.CutBlock
import Derived.Deep.RegionHeld3
import Derived.Laws.Rows
import Derived.Lib.AppendStr
import Derived.ArgAppend
import Derived.Laws.IdiomCopy
import Derived.OrdersHeld
import Derived.Laws.BitsLemmas
import Derived.RowKit
import Derived.Test.YtpeccbdobdnpiaaDoorWWords
import Derived.Test.YtpeccbdobdnpiaaDoorWLast
import Derived.Test.YtpeccbdobdnpiaaDoorWTab
import Derived.Test.YtpeccbdobdnpiaaDoorWFour
import Derived.Test.YtpeccbdobdnpiaaDoorWQPut
import Derived.Test.YtpeccbdobdnpiaaDoorWApart
import Derived.Test.YtpeccbdobdnpiaaDoorWArr
import Derived.Test.YtpeccbdobdnpiaaDoorWZeros
import Derived.Test.YtpeccbdobdnpiaaDoorWFoot
import Derived.Test.YtpeccbdobdnpiaaDoorWKept
import Derived.Test.YtpeccbdobdnpiaaDoorWShare
import Derived.Test.YtpeccbdobdnpiaaDoorWN
import Derived.Test.YtpeccbdobdnpiaaDoorWFootNe
import Derived.Test.YtpeccbdobdnpiaaDoorWAt
import Derived.Test.YtpeccbdobdnpiaaDoorWEqStruct
import Derived.Test.YtpeccbdobdnpiaaDoorWRepsOne
import Derived.Test.YtpeccbdobdnpiaaDoorWInv
import Derived.Test.YtpeccbdobdnpiaaDoorWInvWords
import Derived.Test.YtpeccbdobdnpiaaDoorWGuard
import Derived.Test.YtpeccbdobdnpiaaDoorWNEv
import Derived.Test.YtpeccbdobdnpiaaDoorWMore
namespace Go.Proofs.YtpeccbdobdnpiaaDoor.Q
open Go.RowKit Go.Proofs.YtpeccbdobdnpiaaDoorW.PrintWords Go.Proofs.YtpeccbdobdnpiaaDoorW.PrintLast Go.Proofs.YtpeccbdobdnpiaaDoorW.PrintMore
attribute [local go_sem] max2_int min2_int max_two min_two max_three min_three max_four min_four   -- for this text's walks alone
set_option linter.unusedVariables false
set_option linter.unusedSimpArgs false



def errW : Option Int → Value
  | none => .nilIface
  | some c => .iface 0 (.int .i64 c)
theorem errW_none : errW none = .nilIface := rfl
theorem errW_some (c : Int) : errW (some c) = .iface 0 (.int .i64 c) := rfl

theorem info5 : (Tryd.prog.info? 5).map (fun i => (i.zero, i.size, i.bytes)) = some (some (.int .u8 0), 1, 1) := by kernel_rfl
-- the values' own types

end Go.Proofs.YtpeccbdobdnpiaaDoor.Q
