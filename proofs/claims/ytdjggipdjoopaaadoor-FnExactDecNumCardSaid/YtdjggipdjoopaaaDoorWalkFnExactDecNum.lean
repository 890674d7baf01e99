import Derived.Test.YtdjggipdjoopaaaDoorPDnx2
import Derived.Test.YtdjggipdjoopaaaDoorPureFnExactDecNum
import Derived.Test.YtdjggipdjoopaaaDoorTabN
namespace Go.Proofs.YtdjggipdjoopaaaDoor.WalkFnExactDecNum
open Go Go.RowKit Go.Proofs.YtdjggipdjoopaaaDoor.PDn Go.Proofs.YtdjggipdjoopaaaDoorW.PrintWords Go.Proofs.YtdjggipdjoopaaaDoorW.PrintLast
theorem walk {P : Prop} (W : World) (hL : laidMetH Tryd.prog Rows.fnExactDecNumRow.laid W) (_ : P) (a0 : ByteArray) (w0 : a0.size ≤ 140737488351232) (a1 : Int) (w1 : (Lit.int .i64 a1).wf = true) :
    Calls Tryd.prog 5 #[.string a0, .int .i64 a1] W fun e w' => e = .returned (.bool true) ∧ Below W.heap.size W w' :=
  laws_FnExactDecNum.walk Pure.FnExactDecNum a0 a1 W (Tab.of_laid hL) w0 w1
end Go.Proofs.YtdjggipdjoopaaaDoor.WalkFnExactDecNum
