/- The law on StrongOf returns true at every text: its walk. No condition. -/
import Derived.Test.YtbkodnhnadkhdaaDoorStrL
namespace Go.Proofs.YtbkodnhnadkhdaaDoor.WalkFnExactStrongOf
open Go Go.RowKit Go.Proofs.YtbkodnhnadkhdaaDoor.Str
set_option linter.unusedVariables false
theorem tab_of {W : World} (hL : laidMetH Tryd.prog Rows.fnExactStrongOfRow.laid W) : Tab W := Tab.of_laid hL
theorem walk {P : Prop} (W : World) (hL : laidMetH Tryd.prog Rows.fnExactStrongOfRow.laid W) (_ : P) (s : ByteArray) (_ : s.size ≤ 140737488351232) :
    Calls Tryd.prog 4 #[.string s] W fun e w' => e = .returned (.bool true) ∧ Below W.heap.size W w' := lawStrongOf s W (Tab.of_laid hL)
end Go.Proofs.YtbkodnhnadkhdaaDoor.WalkFnExactStrongOf
