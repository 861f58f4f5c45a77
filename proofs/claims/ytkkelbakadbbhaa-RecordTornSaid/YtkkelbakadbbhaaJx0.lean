/- Lean functions that compute what the Go functions named below compute; each theorem '.calls': if its Lean function has an answer, the Go function returns it. -/
import Derived.Test.YtkkelbakadbbhaaProg
import Derived.Below
import Derived.Deep.Draws
import Derived.Deep.AppendLies
import Derived.Maps.AppendAt
import Derived.OwnWalk
import Derived.Laws.BytesArg
import Derived.Laws.MakeOwn
import Derived.Laws.OwnMore
import Derived.Deep.OwnRows
import Derived.Tactics
import Derived.Lib.ConvBytes
import Derived.Laws.Slices
import Derived.WalkKit
import Derived.KernelRfl
import Derived.RowKit3
import Derived.Deep.LoopGhost
import Derived.Deep.QuietTactic
import Derived.BigQuiet
import Derived.WideLaws
import Derived.Deep.DeepCutAuto
import Derived.Deep.CutBlock
import Derived.Deep.RegionHeld3
import Derived.Laws.Rows
import Derived.Lib.AppendStr
import Derived.ArgAppend
import Derived.Laws.IdiomCopy
import Derived.OrdersHeld
import Derived.Laws.BitsLemmas
import Derived.RowKit
import Derived.Test.YtkkelbakadbbhaaWWords
import Derived.Test.YtkkelbakadbbhaaWLast
import Derived.Test.YtkkelbakadbbhaaWTab
import Derived.Test.YtkkelbakadbbhaaWFour
import Derived.Test.YtkkelbakadbbhaaWQPut
import Derived.Test.YtkkelbakadbbhaaWApart
import Derived.Test.YtkkelbakadbbhaaWArr
import Derived.Test.YtkkelbakadbbhaaWZeros
import Derived.Test.YtkkelbakadbbhaaWFoot
import Derived.Test.YtkkelbakadbbhaaWKept
import Derived.Test.YtkkelbakadbbhaaWShare
import Derived.Test.YtkkelbakadbbhaaWN
import Derived.Test.YtkkelbakadbbhaaWFootNe
import Derived.Test.YtkkelbakadbbhaaWAt
import Derived.Test.YtkkelbakadbbhaaWEqStruct
import Derived.Test.YtkkelbakadbbhaaWRepsOne
import Derived.Test.YtkkelbakadbbhaaWInv
import Derived.Test.YtkkelbakadbbhaaWInvWords
import Derived.Test.YtkkelbakadbbhaaWGuard
import Derived.Test.YtkkelbakadbbhaaWNEv
import Derived.Test.YtkkelbakadbbhaaWMore
namespace Go.Proofs.Ytkkelbakadbbhaa.J
open Go.RowKit Go.Proofs.YtkkelbakadbbhaaW.PrintWords Go.Proofs.YtkkelbakadbbhaaW.PrintLast Go.Proofs.YtkkelbakadbbhaaW.PrintMore
attribute [local go_sem] max2_int min2_int max_two min_two max_three min_three max_four min_four   -- for this text's walks alone
set_option linter.unusedVariables false
set_option linter.unusedSimpArgs false



def errW : Option Int → Value
  | none => .nilIface
  | some c => .iface 0 (.int .i64 c)
theorem errW_none : errW none = .nilIface := rfl
theorem errW_some (c : Int) : errW (some c) = .iface 0 (.int .i64 c) := rfl

theorem info5 : (Try.prog.info? 5).map (fun i => (i.zero, i.size, i.bytes)) = some (some (.int .u8 0), 1, 1) := by kernel_rfl
-- the values' own types

end Go.Proofs.Ytkkelbakadbbhaa.J
