/- Functions of this seat as plain Lean functions, each with the contract that the machine keeps. No condition. Laid by wip/qprint.py. -/
import Derived.Test.YtgjajdejjiiocaaProg
import Derived.Below
import Derived.Deep.Draws
import Derived.Deep.AppendLies
import Derived.Maps.AppendAt
import Derived.OwnWalk
import Derived.Laws.BytesArg
import Derived.Laws.MakeOwn
import Derived.Laws.OwnMore
import Derived.Deep.OwnRows
import Derived.Tactics
import Derived.Lib.ConvBytes
import Derived.Laws.Slices
import Derived.WalkKit
import Derived.KernelRfl
import Derived.RowKit3
import Derived.Deep.LoopGhost
import Derived.Deep.QuietTactic
import Derived.BigQuiet
import Derived.WideLaws
import Derived.Deep.DeepCutAuto
import Derived.Deep.CutBlock
import Derived.Deep.RegionHeld3
import Derived.Laws.Rows
import Derived.Lib.AppendStr
import Derived.ArgAppend
import Derived.Laws.IdiomCopy
import Derived.OrdersHeld
import Derived.Laws.BitsLemmas
import Derived.RowKit
import Derived.Test.YtgjajdejjiiocaaWWords
import Derived.Test.YtgjajdejjiiocaaWLast
import Derived.Test.YtgjajdejjiiocaaWTab
import Derived.Test.YtgjajdejjiiocaaWFour
import Derived.Test.YtgjajdejjiiocaaWQPut
import Derived.Test.YtgjajdejjiiocaaWApart
import Derived.Test.YtgjajdejjiiocaaWArr
import Derived.Test.YtgjajdejjiiocaaWZeros
import Derived.Test.YtgjajdejjiiocaaWFoot
import Derived.Test.YtgjajdejjiiocaaWKept
import Derived.Test.YtgjajdejjiiocaaWShare
import Derived.Test.YtgjajdejjiiocaaWN
import Derived.Test.YtgjajdejjiiocaaWFootNe
import Derived.Test.YtgjajdejjiiocaaWAt
import Derived.Test.YtgjajdejjiiocaaWEqStruct
import Derived.Test.YtgjajdejjiiocaaWRepsOne
import Derived.Test.YtgjajdejjiiocaaWInv
import Derived.Test.YtgjajdejjiiocaaWInvWords
import Derived.Test.YtgjajdejjiiocaaWGuard
import Derived.Test.YtgjajdejjiiocaaWNEv
import Derived.Test.YtgjajdejjiiocaaWMore
namespace Go.Proofs.Ytgjajdejjiiocaa.Q
open Go.RowKit Go.Proofs.YtgjajdejjiiocaaW.PrintWords Go.Proofs.YtgjajdejjiiocaaW.PrintLast Go.Proofs.YtgjajdejjiiocaaW.PrintMore
attribute [local go_sem] max2_int min2_int max_two min_two max_three min_three max_four min_four   -- for this text's walks alone
set_option linter.unusedVariables false
set_option linter.unusedSimpArgs false



def errW : Option Int → Value
  | none => .nilIface
  | some c => .iface 0 (.int .i64 c)
theorem errW_none : errW none = .nilIface := rfl
theorem errW_some (c : Int) : errW (some c) = .iface 0 (.int .i64 c) := rfl

-- the values' own types
theorem isEmpty_bne_ (l : List UInt8) : Ending.returned (.bool l.isEmpty) = Ending.returned (.bool (!(l != ([] : List UInt8)))) := by cases l <;> rfl

end Go.Proofs.Ytgjajdejjiiocaa.Q
