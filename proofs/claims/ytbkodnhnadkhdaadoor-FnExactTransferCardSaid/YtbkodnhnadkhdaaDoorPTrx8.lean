-- Made by a program of this session (tools/pr.sh) out of the translation; Lean checks it.
import Derived.Test.YtbkodnhnadkhdaaDoorPTrx0
namespace Go.Proofs.YtbkodnhnadkhdaaDoor.PTr
open Go.RowKit Go.Proofs.YtbkodnhnadkhdaaDoorW.PrintWords Go.Proofs.YtbkodnhnadkhdaaDoorW.PrintLast Go.Proofs.YtbkodnhnadkhdaaDoorW.PrintMore
attribute [local go_sem] max2_int min2_int max_two min_two max_three min_three max_four min_four   -- for this text's walks alone
set_option linter.unusedVariables false
set_option linter.unusedSimpArgs false

-- GIVEN by hand
/-! ### spec_ShortSum: function 21 -/
def spec_ShortSum.f (a0 : Int) (a1 : ByteArray) (a2 : Int) : Option ByteArray := if (0 ≤ a0 ∧ a0 < 4294967296) ∧ a1.size ≤ 1048576 then some (YtbkodnhnadkhdaaDoor.Str.shortOf a0 a1 a2) else none
theorem spec_ShortSum.calls (a0 : Int) (a1 : ByteArray) (a2 : Int) (r : ByteArray) (w : World) (h : spec_ShortSum.f a0 a1 a2 = some r) :
    Calls Tryd.prog 21 #[.int .u32 a0, .string a1, .int .i64 a2] w fun e w' => e = .returned (.string r) ∧ Below w.heap.size w w' := by
  unfold spec_ShortSum.f at h
  split at h
  · rename_i hs
    obtain rfl := Option.some.inj h
    exact YtbkodnhnadkhdaaDoor.Str.shortS a0 hs.1 a1 a2 w hs.2
  · cases h

end Go.Proofs.YtbkodnhnadkhdaaDoor.PTr
