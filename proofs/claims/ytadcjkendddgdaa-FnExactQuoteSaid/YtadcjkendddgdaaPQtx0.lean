-- Made by a program of this session (tools/pr.sh) out of the translation; Lean checks it.
import Derived.Test.YtadcjkendddgdaaProg
import Derived.Below
import Derived.Deep.Draws
import Derived.Deep.AppendLies
import Derived.Maps.AppendAt
import Derived.OwnWalk
import Derived.Laws.BytesArg
import Derived.Laws.MakeOwn
import Derived.Laws.OwnMore
import Derived.Deep.OwnRows
import Derived.Tactics
import Derived.Lib.ConvBytes
import Derived.Laws.Slices
import Derived.WalkKit
import Derived.KernelRfl
import Derived.RowKit3
import Derived.Deep.LoopGhost
import Derived.Deep.QuietTactic
import Derived.BigQuiet
import Derived.WideLaws
import Derived.Deep.DeepCutAuto
import Derived.Deep.CutBlock
import Derived.Deep.RegionHeld3
import Derived.Laws.Rows
import Derived.Lib.AppendStr
import Derived.ArgAppend
import Derived.Laws.IdiomCopy
import Derived.OrdersHeld
import Derived.Laws.BitsLemmas
import Derived.RowKit
import Derived.Test.YtadcjkendddgdaaConv
import Derived.Test.YtadcjkendddgdaaBuilder
import Derived.Test.YtadcjkendddgdaaWWords
import Derived.Test.YtadcjkendddgdaaWLast
import Derived.Test.YtadcjkendddgdaaWTab
import Derived.Test.YtadcjkendddgdaaWFour
import Derived.Test.YtadcjkendddgdaaWQPut
import Derived.Test.YtadcjkendddgdaaWApart
import Derived.Test.YtadcjkendddgdaaWArr
import Derived.Test.YtadcjkendddgdaaWZeros
import Derived.Test.YtadcjkendddgdaaWFoot
import Derived.Test.YtadcjkendddgdaaWKept
import Derived.Test.YtadcjkendddgdaaWShare
import Derived.Test.YtadcjkendddgdaaWN
import Derived.Test.YtadcjkendddgdaaWFootNe
import Derived.Test.YtadcjkendddgdaaWAt
import Derived.Test.YtadcjkendddgdaaWEqStruct
import Derived.Test.YtadcjkendddgdaaWRepsOne
import Derived.Test.YtadcjkendddgdaaWInv
import Derived.Test.YtadcjkendddgdaaWInvWords
import Derived.Test.YtadcjkendddgdaaWGuard
import Derived.Test.YtadcjkendddgdaaWNEv
import Derived.Test.YtadcjkendddgdaaWMore
namespace Go.Proofs.Ytadcjkendddgdaa.PQt
open Go.RowKit Go.Proofs.YtadcjkendddgdaaW.PrintWords Go.Proofs.YtadcjkendddgdaaW.PrintLast Go.Proofs.YtadcjkendddgdaaW.PrintMore
attribute [local go_sem] max2_int min2_int max_two min_two max_three min_three max_four min_four   -- for this text's walks alone
set_option linter.unusedVariables false
set_option linter.unusedSimpArgs false



def errW : Option Int → Value
  | none => .nilIface
  | some c => .iface 0 (.int .i64 c)
theorem errW_none : errW none = .nilIface := rfl
theorem errW_some (c : Int) : errW (some c) = .iface 0 (.int .i64 c) := rfl

theorem info5 : (Try.prog.info? 5).map (fun i => (i.zero, i.size, i.bytes)) = some (some (.int .u8 0), 1, 1) := by kernel_rfl
-- the values' own types

end Go.Proofs.Ytadcjkendddgdaa.PQt
