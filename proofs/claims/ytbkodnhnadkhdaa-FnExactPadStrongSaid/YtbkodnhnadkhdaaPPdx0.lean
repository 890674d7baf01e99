-- Made by a program of this session (tools/pr.sh) out of the translation; Lean checks it.
import Derived.Test.YtbkodnhnadkhdaaProg
import Derived.Below
import Derived.Deep.Draws
import Derived.Deep.AppendLies
import Derived.Maps.AppendAt
import Derived.OwnWalk
import Derived.Laws.BytesArg
import Derived.Laws.MakeOwn
import Derived.Laws.OwnMore
import Derived.Deep.OwnRows
import Derived.Tactics
import Derived.Lib.ConvBytes
import Derived.Laws.Slices
import Derived.WalkKit
import Derived.KernelRfl
import Derived.RowKit3
import Derived.Deep.LoopGhost
import Derived.Deep.QuietTactic
import Derived.BigQuiet
import Derived.WideLaws
import Derived.Deep.DeepCutAuto
import Derived.Deep.CutBlock
import Derived.Deep.RegionHeld3
import Derived.Laws.Rows
import Derived.Lib.AppendStr
import Derived.ArgAppend
import Derived.Laws.IdiomCopy
import Derived.OrdersHeld
import Derived.Laws.BitsLemmas
import Derived.RowKit
import Derived.Test.YtbkodnhnadkhdaaMarked
import Derived.Test.YtbkodnhnadkhdaaBuilder
import Derived.Test.YtbkodnhnadkhdaaWWords
import Derived.Test.YtbkodnhnadkhdaaWLast
import Derived.Test.YtbkodnhnadkhdaaWTab
import Derived.Test.YtbkodnhnadkhdaaWFour
import Derived.Test.YtbkodnhnadkhdaaWQPut
import Derived.Test.YtbkodnhnadkhdaaWApart
import Derived.Test.YtbkodnhnadkhdaaWArr
import Derived.Test.YtbkodnhnadkhdaaWZeros
import Derived.Test.YtbkodnhnadkhdaaWFoot
import Derived.Test.YtbkodnhnadkhdaaWKept
import Derived.Test.YtbkodnhnadkhdaaWShare
import Derived.Test.YtbkodnhnadkhdaaWN
import Derived.Test.YtbkodnhnadkhdaaWFootNe
import Derived.Test.YtbkodnhnadkhdaaWAt
import Derived.Test.YtbkodnhnadkhdaaWEqStruct
import Derived.Test.YtbkodnhnadkhdaaWRepsOne
import Derived.Test.YtbkodnhnadkhdaaWInv
import Derived.Test.YtbkodnhnadkhdaaWInvWords
import Derived.Test.YtbkodnhnadkhdaaWGuard
import Derived.Test.YtbkodnhnadkhdaaWNEv
import Derived.Test.YtbkodnhnadkhdaaWMore
namespace Go.Proofs.Ytbkodnhnadkhdaa.PPd
open Go.RowKit Go.Proofs.YtbkodnhnadkhdaaW.PrintWords Go.Proofs.YtbkodnhnadkhdaaW.PrintLast Go.Proofs.YtbkodnhnadkhdaaW.PrintMore
attribute [local go_sem] max2_int min2_int max_two min_two max_three min_three max_four min_four   -- for this text's walks alone
set_option linter.unusedVariables false
set_option linter.unusedSimpArgs false



def errW : Option Int → Value
  | none => .nilIface
  | some c => .iface 0 (.int .i64 c)
theorem errW_none : errW none = .nilIface := rfl
theorem errW_some (c : Int) : errW (some c) = .iface 0 (.int .i64 c) := rfl

theorem info5 : (Try.prog.info? 5).map (fun i => (i.zero, i.size, i.bytes)) = some (some (.int .u8 0), 1, 1) := by kernel_rfl
-- the values' own types

end Go.Proofs.Ytbkodnhnadkhdaa.PPd
