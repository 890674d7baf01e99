import Derived.Test.YtdjggipdjoopaaaDoorPDtx2
import Derived.Test.YtdjggipdjoopaaaDoorPureFnExactDecText
import Derived.Test.YtdjggipdjoopaaaDoorTabT
namespace Go.Proofs.YtdjggipdjoopaaaDoor.WalkFnExactDecText
open Go Go.RowKit Go.Proofs.YtdjggipdjoopaaaDoor.PDt Go.Proofs.YtdjggipdjoopaaaDoorW.PrintWords Go.Proofs.YtdjggipdjoopaaaDoorW.PrintLast
theorem walk {P : Prop} (W : World) (hL : laidMetH Tryd.prog Rows.fnExactDecTextRow.laid W) (_ : P) (a0 : Int) (w0 : (Lit.int .i64 a0).wf = true) :
    Calls Tryd.prog 4 #[.int .i64 a0] W fun e w' => e = .returned (.bool true) ∧ Below W.heap.size W w' :=
  laws_FnExactDecText.walk Pure.FnExactDecText a0 W (Tab.of_laid hL) w0
end Go.Proofs.YtdjggipdjoopaaaDoor.WalkFnExactDecText
