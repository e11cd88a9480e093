/- Functions of this seat as plain Lean functions, each with the contract that the machine keeps. No condition. Laid by wip/qprint.py. -/
import Derived.Test.YtakchpeohmkpkaaProg
import Derived.Below
import Derived.Deep.Draws
import Derived.Deep.AppendLies
import Derived.Maps.AppendAt
import Derived.OwnWalk
import Derived.Laws.BytesArg
import Derived.Laws.MakeOwn
import Derived.Laws.OwnMore
import Derived.Deep.OwnRows
import Derived.Tactics
import Derived.Lib.ConvBytes
import Derived.Laws.Slices
import Derived.WalkKit
import Derived.KernelRfl
import Derived.RowKit3
import Derived.Deep.LoopGhost
import Derived.Deep.QuietTactic
import Derived.BigQuiet
import Derived.WideLaws
import Derived.Deep.DeepCutAuto
import Derived.Deep.CutBlock
import Derived.Deep.RegionHeld3
import Derived.Laws.Rows
import Derived.Lib.AppendStr
import Derived.ArgAppend
import Derived.Laws.IdiomCopy
import Derived.OrdersHeld
import Derived.Laws.BitsLemmas
import Derived.RowKit
import Derived.Test.YtakchpeohmkpkaaWWords
import Derived.Test.YtakchpeohmkpkaaWLast
import Derived.Test.YtakchpeohmkpkaaWTab
import Derived.Test.YtakchpeohmkpkaaWFour
import Derived.Test.YtakchpeohmkpkaaWQPut
import Derived.Test.YtakchpeohmkpkaaWApart
import Derived.Test.YtakchpeohmkpkaaWArr
import Derived.Test.YtakchpeohmkpkaaWZeros
import Derived.Test.YtakchpeohmkpkaaWFoot
import Derived.Test.YtakchpeohmkpkaaWKept
import Derived.Test.YtakchpeohmkpkaaWShare
import Derived.Test.YtakchpeohmkpkaaWN
import Derived.Test.YtakchpeohmkpkaaWFootNe
import Derived.Test.YtakchpeohmkpkaaWAt
import Derived.Test.YtakchpeohmkpkaaWEqStruct
import Derived.Test.YtakchpeohmkpkaaWRepsOne
import Derived.Test.YtakchpeohmkpkaaWInv
import Derived.Test.YtakchpeohmkpkaaWInvWords
import Derived.Test.YtakchpeohmkpkaaWGuard
import Derived.Test.YtakchpeohmkpkaaWNEv
import Derived.Test.YtakchpeohmkpkaaWMore
namespace Go.Proofs.Ytakchpeohmkpkaa.Q
open Go.RowKit Go.Proofs.YtakchpeohmkpkaaW.PrintWords Go.Proofs.YtakchpeohmkpkaaW.PrintLast Go.Proofs.YtakchpeohmkpkaaW.PrintMore
attribute [local go_sem] max2_int min2_int max_two min_two max_three min_three max_four min_four   -- for this text's walks alone
set_option linter.unusedVariables false
set_option linter.unusedSimpArgs false



def errW : Option Int → Value
  | none => .nilIface
  | some c => .iface 0 (.int .i64 c)
theorem errW_none : errW none = .nilIface := rfl
theorem errW_some (c : Int) : errW (some c) = .iface 0 (.int .i64 c) := rfl

theorem info5 : (Try.prog.info? 5).map (fun i => (i.zero, i.size, i.bytes)) = some (some (.int .u8 0), 1, 1) := by kernel_rfl
-- the values' own types
theorem isEmpty_bne_ (l : List UInt8) : Ending.returned (.bool l.isEmpty) = Ending.returned (.bool (!(l != ([] : List UInt8)))) := by cases l <;> rfl

end Go.Proofs.Ytakchpeohmkpkaa.Q
