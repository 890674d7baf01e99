-- Made by a program of this session (tools/pr.sh) out of the translation; Lean checks it.
import Derived.Test.YtdjggipdjoopaaaProg
import Derived.Below
import Derived.Deep.Draws
import Derived.Deep.AppendLies
import Derived.Maps.AppendAt
import Derived.OwnWalk
import Derived.Laws.BytesArg
import Derived.Laws.MakeOwn
import Derived.Laws.OwnMore
import Derived.Deep.OwnRows
import Derived.Tactics
import Derived.Lib.ConvBytes
import Derived.Laws.Slices
import Derived.WalkKit
import Derived.KernelRfl
import Derived.RowKit3
import Derived.Deep.LoopGhost
import Derived.Deep.QuietTactic
import Derived.BigQuiet
import Derived.WideLaws
import Derived.Deep.DeepCutAuto
import Derived.Deep.CutBlock
import Derived.Deep.RegionHeld3
import Derived.Laws.Rows
import Derived.Lib.AppendStr
import Derived.ArgAppend
import Derived.Laws.IdiomCopy
import Derived.OrdersHeld
import Derived.Laws.BitsLemmas
import Derived.RowKit
import Derived.Test.YtdjggipdjoopaaaMarked
import Derived.Test.YtdjggipdjoopaaaBuilder
import Derived.Test.YtdjggipdjoopaaaWWords
import Derived.Test.YtdjggipdjoopaaaWLast
import Derived.Test.YtdjggipdjoopaaaWTab
import Derived.Test.YtdjggipdjoopaaaWFour
import Derived.Test.YtdjggipdjoopaaaWQPut
import Derived.Test.YtdjggipdjoopaaaWApart
import Derived.Test.YtdjggipdjoopaaaWArr
import Derived.Test.YtdjggipdjoopaaaWZeros
import Derived.Test.YtdjggipdjoopaaaWFoot
import Derived.Test.YtdjggipdjoopaaaWKept
import Derived.Test.YtdjggipdjoopaaaWShare
import Derived.Test.YtdjggipdjoopaaaWN
import Derived.Test.YtdjggipdjoopaaaWFootNe
import Derived.Test.YtdjggipdjoopaaaWAt
import Derived.Test.YtdjggipdjoopaaaWEqStruct
import Derived.Test.YtdjggipdjoopaaaWRepsOne
import Derived.Test.YtdjggipdjoopaaaWInv
import Derived.Test.YtdjggipdjoopaaaWInvWords
import Derived.Test.YtdjggipdjoopaaaWGuard
import Derived.Test.YtdjggipdjoopaaaWNEv
import Derived.Test.YtdjggipdjoopaaaWMore
namespace Go.Proofs.Ytdjggipdjoopaaa.PMw
open Go.RowKit Go.Proofs.YtdjggipdjoopaaaW.PrintWords Go.Proofs.YtdjggipdjoopaaaW.PrintLast Go.Proofs.YtdjggipdjoopaaaW.PrintMore
attribute [local go_sem] max2_int min2_int max_two min_two max_three min_three max_four min_four   -- for this text's walks alone
set_option linter.unusedVariables false
set_option linter.unusedSimpArgs false



def errW : Option Int → Value
  | none => .nilIface
  | some c => .iface 0 (.int .i64 c)
theorem errW_none : errW none = .nilIface := rfl
theorem errW_some (c : Int) : errW (some c) = .iface 0 (.int .i64 c) := rfl

theorem info5 : (Try.prog.info? 5).map (fun i => (i.zero, i.size, i.bytes)) = some (some (.int .u8 0), 1, 1) := by kernel_rfl
-- the values' own types

end Go.Proofs.Ytdjggipdjoopaaa.PMw
