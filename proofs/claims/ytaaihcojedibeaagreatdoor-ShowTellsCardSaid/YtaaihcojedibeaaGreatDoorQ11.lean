/- Go functions as Lean functions, each with the proof that its call answers just so; written by wip/tools/myprint.py. -/
import Derived.Test.YtaaihcojedibeaaGreatDoorZ4
import Derived.Test.YtaaihcojedibeaaGreatDoorQ0
namespace Go.Proofs.YtaaihcojedibeaaGreatDoor.Q
open Go.RowKit Go.Proofs.YtaaihcojedibeaaGreatDoorW.PrintWords Go.Proofs.YtaaihcojedibeaaGreatDoorW.PrintLast Go.Proofs.YtaaihcojedibeaaGreatDoorW.PrintMore
attribute [local go_sem] max2_int min2_int max_two min_two max_three min_three max_four min_four   -- for this text's walks alone
set_option linter.unusedVariables false
set_option linter.unusedSimpArgs false


/-! ### clewref05_Lens: function 34 (its walk: DLensR) -/
def clewref05_Lens.f (l0 : List S46) (a1 : Int) : Option (Int × Int) := DLensR.rlen l0 a1
theorem clewref05_Lens.calls (A0 : Option Addr) (c0 : Nat) (l0 : List S46) (a1 : Int) (r1 r2 : Int) (w : World) (hr0 : Kd.C k46 w A0 l0.length l0) (hc0 : l0.length ≤ c0) (h : clewref05_Lens.f l0 a1 = some (r1, r2)) :
    Calls Tryz.prog 34 #[.slice A0 l0.length c0, .int .i64 a1] w fun e w' => e = .returned (.tuple #[.int .i64 r1, .int .i64 r2]) ∧ Below w.heap.size w w' :=
  DLensR.rlen_calls A0 c0 l0 a1 r1 r2 w hr0 hc0 h

end Go.Proofs.YtaaihcojedibeaaGreatDoor.Q
