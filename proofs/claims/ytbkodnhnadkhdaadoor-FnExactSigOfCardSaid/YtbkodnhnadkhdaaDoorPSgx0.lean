import Derived.Test.YtbkodnhnadkhdaaDoorProg
import Derived.Below
import Derived.Deep.Draws
import Derived.Deep.AppendLies
import Derived.Maps.AppendAt
import Derived.OwnWalk
import Derived.Laws.BytesArg
import Derived.Laws.MakeOwn
import Derived.Laws.OwnMore
import Derived.Deep.OwnRows
import Derived.Tactics
import Derived.Lib.ConvBytes
import Derived.Laws.Slices
import Derived.WalkKit
import Derived.KernelRfl
import Derived.RowKit3
import Derived.Deep.LoopGhost
import Derived.Deep.QuietTactic
import Derived.BigQuiet
import Derived.WideLaws
import Derived.Deep.DeepCutAuto
import Derived.Deep.CutBlock
import Derived.Deep.RegionHeld3
import Derived.Laws.Rows
import Derived.Lib.AppendStr
import Derived.ArgAppend
import Derived.Laws.IdiomCopy
import Derived.OrdersHeld
import Derived.Laws.BitsLemmas
import Derived.RowKit
import Derived.Test.YtbkodnhnadkhdaaDoorConv
import Derived.Test.YtbkodnhnadkhdaaDoorTabS
import Derived.Test.YtbkodnhnadkhdaaDoorStrV
import Derived.Test.YtbkodnhnadkhdaaDoorWWords
import Derived.Test.YtbkodnhnadkhdaaDoorWLast
import Derived.Test.YtbkodnhnadkhdaaDoorWTab
import Derived.Test.YtbkodnhnadkhdaaDoorWFour
import Derived.Test.YtbkodnhnadkhdaaDoorWQPut
import Derived.Test.YtbkodnhnadkhdaaDoorWApart
import Derived.Test.YtbkodnhnadkhdaaDoorWArr
import Derived.Test.YtbkodnhnadkhdaaDoorWZeros
import Derived.Test.YtbkodnhnadkhdaaDoorWFoot
import Derived.Test.YtbkodnhnadkhdaaDoorWKept
import Derived.Test.YtbkodnhnadkhdaaDoorWShare
import Derived.Test.YtbkodnhnadkhdaaDoorWN
import Derived.Test.YtbkodnhnadkhdaaDoorWFootNe
import Derived.Test.YtbkodnhnadkhdaaDoorWAt
import Derived.Test.YtbkodnhnadkhdaaDoorWEqStruct
import Derived.Test.YtbkodnhnadkhdaaDoorWRepsOne
import Derived.Test.YtbkodnhnadkhdaaDoorWInv
import Derived.Test.YtbkodnhnadkhdaaDoorWInvWords
import Derived.Test.YtbkodnhnadkhdaaDoorWGuard
import Derived.Test.YtbkodnhnadkhdaaDoorWNEv
import Derived.Test.YtbkodnhnadkhdaaDoorWMore
section
-- Made by a program of this session (tools/pr.sh) out of the translation; Lean checks it.
namespace Go.Proofs.YtbkodnhnadkhdaaDoor.PSg
open Go.RowKit Go.Proofs.YtbkodnhnadkhdaaDoorW.PrintWords Go.Proofs.YtbkodnhnadkhdaaDoorW.PrintLast Go.Proofs.YtbkodnhnadkhdaaDoorW.PrintMore
attribute [local go_sem] max2_int min2_int max_two min_two max_three min_three max_four min_four   -- for this text's walks alone
set_option linter.unusedVariables false
set_option linter.unusedSimpArgs false



def errW : Option Int → Value
  | none => .nilIface
  | some c => .iface 0 (.int .i64 c)
theorem errW_none : errW none = .nilIface := rfl
theorem errW_some (c : Int) : errW (some c) = .iface 0 (.int .i64 c) := rfl

theorem info5 : (Tryd.prog.info? 5).map (fun i => (i.zero, i.size, i.bytes)) = some (some (.int .u8 0), 1, 1) := by kernel_rfl
theorem info9 : (Tryd.prog.info? 9).map (fun i => (i.zero, i.size, i.bytes)) = some (some (.string ⟨#[]⟩), 1, 16) := by kernel_rfl
theorem info22 : (Tryd.prog.info? 22).map (fun i => (i.zero, i.size, i.bytes)) = some (some (.int .u32 0), 1, 4) := by kernel_rfl
-- the values' own types

end Go.Proofs.YtbkodnhnadkhdaaDoor.PSg
end

section
-- Made by a program of this session (tools/pr.sh) out of the translation; Lean checks it.
namespace Go.Proofs.YtbkodnhnadkhdaaDoor.PSg
open Go.RowKit Go.Proofs.YtbkodnhnadkhdaaDoorW.PrintWords Go.Proofs.YtbkodnhnadkhdaaDoorW.PrintLast Go.Proofs.YtbkodnhnadkhdaaDoorW.PrintMore
attribute [local go_sem] max2_int min2_int max_two min_two max_three min_three max_four min_four   -- for this text's walks alone
set_option linter.unusedVariables false
set_option linter.unusedSimpArgs false

-- GIVEN by hand
/-! ### spec_ShortSum: function 21 -/
def spec_ShortSum.f (a0 : Int) (a1 : ByteArray) (a2 : Int) : Option ByteArray := if (0 ≤ a0 ∧ a0 < 4294967296) ∧ a1.size ≤ 1048576 then some (YtbkodnhnadkhdaaDoor.Str.shortOf a0 a1 a2) else none
theorem spec_ShortSum.calls (a0 : Int) (a1 : ByteArray) (a2 : Int) (r : ByteArray) (w : World) (h : spec_ShortSum.f a0 a1 a2 = some r) :
    Calls Tryd.prog 21 #[.int .u32 a0, .string a1, .int .i64 a2] w fun e w' => e = .returned (.string r) ∧ Below w.heap.size w w' := by
  unfold spec_ShortSum.f at h
  split at h
  · rename_i hs
    obtain rfl := Option.some.inj h
    exact YtbkodnhnadkhdaaDoor.Str.shortS a0 hs.1 a1 a2 w hs.2
  · cases h

end Go.Proofs.YtbkodnhnadkhdaaDoor.PSg
end

section
-- Made by a program of this session (tools/pr.sh) out of the translation; Lean checks it.
namespace Go.Proofs.YtbkodnhnadkhdaaDoor.PSg
open Go.RowKit Go.Proofs.YtbkodnhnadkhdaaDoorW.PrintWords Go.Proofs.YtbkodnhnadkhdaaDoorW.PrintLast Go.Proofs.YtbkodnhnadkhdaaDoorW.PrintMore
attribute [local go_sem] max2_int min2_int max_two min_two max_three min_three max_four min_four   -- for this text's walks alone
set_option linter.unusedVariables false
set_option linter.unusedSimpArgs false

/-! ### impl_within: function 55 -/
def impl_within.f (a0 : Int) (a1 : Int) (a2 : Int) : Option (Bool) := if a0 ≥ a1 then (some (decide (a0 ≤ a2))) else (some false)
set_option maxHeartbeats 8000000 in
set_option maxRecDepth 100000 in
theorem impl_within.calls (a0 : Int) (a1 : Int) (a2 : Int) (r : Bool) (w : World) (h : impl_within.f a0 a1 a2 = some r) :
    Calls Tryd.prog 55 #[.int .i64 a0, .int .i64 a1, .int .i64 a2] w fun e w' => e = .returned (.bool r) ∧ Drawn0 w w' := by
  have H : (if a0 ≥ a1 then (some (decide (a0 ≤ a2))) else (some false)) = some r := h
  clear h
  by_cases c4 : a0 ≥ a1
  · rw [if_pos c4] at H
    have c4b0 : decide (a1 ≤ a0) = true := decide_eq_true c4
    clear c4
    obtain rfl := Option.some.inj H
    go_enter Tryd.func55, Tryd.ntmps55
    go_wp2
    go_ret
    exact ⟨by first | rfl | (simp; done) | (simp [*]; done), by repeat (first | exact Drawn0.refl _ | apply Drawn0.step)⟩
  · rw [if_neg c4] at H
    have c4b0 : decide (a1 ≤ a0) = false := decide_eq_false c4
    clear c4
    obtain rfl := Option.some.inj H
    go_enter Tryd.func55, Tryd.ntmps55
    go_wp2
    go_ret
    exact ⟨by first | rfl | (simp; done) | (simp [*]; done), by repeat (first | exact Drawn0.refl _ | apply Drawn0.step)⟩

end Go.Proofs.YtbkodnhnadkhdaaDoor.PSg
end

section
-- Made by a program of this session (tools/pr.sh) out of the translation; Lean checks it.
namespace Go.Proofs.YtbkodnhnadkhdaaDoor.PSg
open Go.RowKit Go.Proofs.YtbkodnhnadkhdaaDoorW.PrintWords Go.Proofs.YtbkodnhnadkhdaaDoorW.PrintLast Go.Proofs.YtbkodnhnadkhdaaDoorW.PrintMore
attribute [local go_sem] max2_int min2_int max_two min_two max_three min_three max_four min_four   -- for this text's walks alone
set_option linter.unusedVariables false
set_option linter.unusedSimpArgs false

-- GIVEN by hand
/-! ### impl_strong: function 52 -/
def impl_strong.f (a0 : ByteArray) : Option ByteArray := if a0.size ≤ 1000000 then some (strOfNums (YtbkodnhnadkhdaaDoor.Str.md5 a0)) else none
theorem impl_strong.calls (a0 : ByteArray) (r : ByteArray) (w : World) (hT : Tab w) (h : impl_strong.f a0 = some r) :
    Calls Tryd.prog 52 #[.string a0] w fun e w' => e = .returned (.string r) ∧ Below w.heap.size w w' := by
  unfold impl_strong.f at h
  split at h
  · rename_i hs
    obtain rfl := Option.some.inj h
    exact YtbkodnhnadkhdaaDoor.Str.strongI a0 hs w hT
  · cases h

end Go.Proofs.YtbkodnhnadkhdaaDoor.PSg
end
