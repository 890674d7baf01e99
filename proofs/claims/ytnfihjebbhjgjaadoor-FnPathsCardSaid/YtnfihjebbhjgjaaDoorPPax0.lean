-- Made by a program of this session (tools/pr.sh) out of the translation; Lean checks it.
import Derived.Test.YtnfihjebbhjgjaaDoorProg
import Derived.Below
import Derived.Deep.Draws
import Derived.Deep.AppendLies
import Derived.Maps.AppendAt
import Derived.OwnWalk
import Derived.Laws.BytesArg
import Derived.Laws.MakeOwn
import Derived.Laws.OwnMore
import Derived.Deep.OwnRows
import Derived.Tactics
import Derived.Lib.ConvBytes
import Derived.Laws.Slices
import Derived.WalkKit
import Derived.KernelRfl
import Derived.RowKit3
import Derived.Deep.LoopGhost
import Derived.Deep.QuietTactic
import Derived.BigQuiet
import Derived.WideLaws
import Derived.Deep.DeepCutAuto
import Derived.Deep.CutBlock
import Derived.Deep.RegionHeld3
import Derived.Laws.Rows
import Derived.Lib.AppendStr
import Derived.ArgAppend
import Derived.Laws.IdiomCopy
import Derived.OrdersHeld
import Derived.Laws.BitsLemmas
import Derived.RowKit
import Derived.Test.YtnfihjebbhjgjaaDoorConv
import Derived.Test.YtnfihjebbhjgjaaDoorTabM
import Derived.Test.YtnfihjebbhjgjaaDoorWWords
import Derived.Test.YtnfihjebbhjgjaaDoorWLast
import Derived.Test.YtnfihjebbhjgjaaDoorWTab
import Derived.Test.YtnfihjebbhjgjaaDoorWFour
import Derived.Test.YtnfihjebbhjgjaaDoorWQPut
import Derived.Test.YtnfihjebbhjgjaaDoorWApart
import Derived.Test.YtnfihjebbhjgjaaDoorWArr
import Derived.Test.YtnfihjebbhjgjaaDoorWZeros
import Derived.Test.YtnfihjebbhjgjaaDoorWFoot
import Derived.Test.YtnfihjebbhjgjaaDoorWKept
import Derived.Test.YtnfihjebbhjgjaaDoorWShare
import Derived.Test.YtnfihjebbhjgjaaDoorWN
import Derived.Test.YtnfihjebbhjgjaaDoorWFootNe
import Derived.Test.YtnfihjebbhjgjaaDoorWAt
import Derived.Test.YtnfihjebbhjgjaaDoorWEqStruct
import Derived.Test.YtnfihjebbhjgjaaDoorWRepsOne
import Derived.Test.YtnfihjebbhjgjaaDoorWInv
import Derived.Test.YtnfihjebbhjgjaaDoorWInvWords
import Derived.Test.YtnfihjebbhjgjaaDoorWGuard
import Derived.Test.YtnfihjebbhjgjaaDoorWNEv
import Derived.Test.YtnfihjebbhjgjaaDoorWMore
namespace Go.Proofs.YtnfihjebbhjgjaaDoor.PPa
open Go.RowKit Go.Proofs.YtnfihjebbhjgjaaDoorW.PrintWords Go.Proofs.YtnfihjebbhjgjaaDoorW.PrintLast Go.Proofs.YtnfihjebbhjgjaaDoorW.PrintMore
attribute [local go_sem] max2_int min2_int max_two min_two max_three min_three max_four min_four   -- for this text's walks alone
set_option linter.unusedVariables false
set_option linter.unusedSimpArgs false



def errW : Option Int → Value
  | none => .nilIface
  | some c => .iface 0 (.int .i64 c)
theorem errW_none : errW none = .nilIface := rfl
theorem errW_some (c : Int) : errW (some c) = .iface 0 (.int .i64 c) := rfl

theorem info5 : (Tryd.prog.info? 5).map (fun i => (i.zero, i.size, i.bytes)) = some (some (.int .u8 0), 1, 1) := by kernel_rfl
theorem info9 : (Tryd.prog.info? 9).map (fun i => (i.zero, i.size, i.bytes)) = some (some (.string ⟨#[]⟩), 1, 16) := by kernel_rfl
-- the values' own types

end Go.Proofs.YtnfihjebbhjgjaaDoor.PPa
