/- Functions of this seat as plain Lean functions, each with the contract that the machine keeps. No condition. Laid by wip/qprint.py. -/
import Derived.Test.YthcooheghekplaaDoorProg
import Derived.Below
import Derived.Deep.Draws
import Derived.Deep.AppendLies
import Derived.Maps.AppendAt
import Derived.OwnWalk
import Derived.Laws.BytesArg
import Derived.Laws.MakeOwn
import Derived.Laws.OwnMore
import Derived.Deep.OwnRows
import Derived.Tactics
import Derived.Lib.ConvBytes
import Derived.Laws.Slices
import Derived.WalkKit
import Derived.KernelRfl
import Derived.RowKit3
import Derived.Deep.LoopGhost
import Derived.Deep.QuietTactic
import Derived.BigQuiet
import Derived.WideLaws
import Derived.Deep.DeepCutAuto
import Derived.Deep.CutBlock
import Derived.Deep.RegionHeld3
import Derived.Laws.Rows
import Derived.Lib.AppendStr
import Derived.ArgAppend
import Derived.Laws.IdiomCopy
import Derived.OrdersHeld
import Derived.Laws.BitsLemmas
import Derived.RowKit
import Derived.Test.YthcooheghekplaaDoorWWords
import Derived.Test.YthcooheghekplaaDoorWLast
import Derived.Test.YthcooheghekplaaDoorWTab
import Derived.Test.YthcooheghekplaaDoorWFour
import Derived.Test.YthcooheghekplaaDoorWQPut
import Derived.Test.YthcooheghekplaaDoorWApart
import Derived.Test.YthcooheghekplaaDoorWArr
import Derived.Test.YthcooheghekplaaDoorWZeros
import Derived.Test.YthcooheghekplaaDoorWFoot
import Derived.Test.YthcooheghekplaaDoorWKept
import Derived.Test.YthcooheghekplaaDoorWShare
import Derived.Test.YthcooheghekplaaDoorWN
import Derived.Test.YthcooheghekplaaDoorWFootNe
import Derived.Test.YthcooheghekplaaDoorWAt
import Derived.Test.YthcooheghekplaaDoorWEqStruct
import Derived.Test.YthcooheghekplaaDoorWRepsOne
import Derived.Test.YthcooheghekplaaDoorWInv
import Derived.Test.YthcooheghekplaaDoorWInvWords
import Derived.Test.YthcooheghekplaaDoorWGuard
import Derived.Test.YthcooheghekplaaDoorWNEv
import Derived.Test.YthcooheghekplaaDoorWMore
namespace Go.Proofs.YthcooheghekplaaDoor.Z
open Go.RowKit Go.Proofs.YthcooheghekplaaDoorW.PrintWords Go.Proofs.YthcooheghekplaaDoorW.PrintLast Go.Proofs.YthcooheghekplaaDoorW.PrintMore
attribute [local go_sem] max2_int min2_int max_two min_two max_three min_three max_four min_four   -- for this text's walks alone
set_option linter.unusedVariables false
set_option linter.unusedSimpArgs false



def errW : Option Int → Value
  | none => .nilIface
  | some c => .iface 0 (.int .i64 c)
theorem errW_none : errW none = .nilIface := rfl
theorem errW_some (c : Int) : errW (some c) = .iface 0 (.int .i64 c) := rfl

theorem info9 : (Tryd.prog.info? 9).map (fun i => (i.zero, i.size, i.bytes)) = some (some (.string ⟨#[]⟩), 1, 16) := by kernel_rfl
-- the values' own types
theorem isEmpty_bne_ (l : List UInt8) : Ending.returned (.bool l.isEmpty) = Ending.returned (.bool (!(l != ([] : List UInt8)))) := by cases l <;> rfl

end Go.Proofs.YthcooheghekplaaDoor.Z
