-- Made by a program of this session (tools/pr.sh) out of the translation; Lean checks it.
import Derived.Test.YtbkodnhnadkhdaaDoorPFtx0
namespace Go.Proofs.YtbkodnhnadkhdaaDoor.PFt
open Go.RowKit Go.Proofs.YtbkodnhnadkhdaaDoorW.PrintWords Go.Proofs.YtbkodnhnadkhdaaDoorW.PrintLast Go.Proofs.YtbkodnhnadkhdaaDoorW.PrintMore
attribute [local go_sem] max2_int min2_int max_two min_two max_three min_three max_four min_four   -- for this text's walks alone
set_option linter.unusedVariables false
set_option linter.unusedSimpArgs false

-- GIVEN by hand
/-! ### impl_strong: function 52 -/
def impl_strong.f (a0 : ByteArray) : Option ByteArray := if a0.size ≤ 1000000 then some (strOfNums (YtbkodnhnadkhdaaDoor.Str.md5 a0)) else none
theorem impl_strong.calls (a0 : ByteArray) (r : ByteArray) (w : World) (hT : Tab w) (h : impl_strong.f a0 = some r) :
    Calls Tryd.prog 52 #[.string a0] w fun e w' => e = .returned (.string r) ∧ Below w.heap.size w w' := by
  unfold impl_strong.f at h
  split at h
  · rename_i hs
    obtain rfl := Option.some.inj h
    exact YtbkodnhnadkhdaaDoor.Str.strongI a0 hs w hT
  · cases h

end Go.Proofs.YtbkodnhnadkhdaaDoor.PFt
