/- The program's PathOk and the reference's agree on every text. No condition. -/
import Derived.Test.YtnfihjebbhjgjaaDoorPPax3
import Derived.Test.YtnfihjebbhjgjaaDoorPaths
import Derived.Test.YtnfihjebbhjgjaaDoorTabM
namespace Go.Proofs.YtnfihjebbhjgjaaDoor.Pure
open Go Go.RowKit Go.Proofs.YtnfihjebbhjgjaaDoor.PPa Go.Proofs.YtnfihjebbhjgjaaDoorW.PrintWords Go.Proofs.YtnfihjebbhjgjaaDoorW.PrintMore Go.Proofs.YtnfihjebbhjgjaaDoor.Arith Go.Proofs.YtnfihjebbhjgjaaDoor.Lib Go.Proofs.YtnfihjebbhjgjaaDoor.Parts Go.Proofs.YtnfihjebbhjgjaaDoor.Paths
set_option linter.unusedSimpArgs false
set_option linter.unusedVariables false

theorem impl_path (s : ByteArray) : Ev (fun k => impl_PathOk.f k s) (pathOk s) := by
  unfold impl_PathOk.f
  refine Ev.bind (impl_names s) ?_
  rw [names_pos s]
  exact Ev.now _
theorem FnExactPathOk : laws_FnExactPathOk.Pure := by
  intro s _
  apply Ev.rounds
  unfold laws_FnExactPathOk.f
  by_cases h : (s.size : Int) > 1048576
  · simp only [if_pos h]; exact Ev.now _
  simp only [if_neg h]
  refine Ev.bind (spec_path s) (Ev.bind (impl_path s) ?_)
  simp only [bne_self_eq_false, Bool.false_eq_true, if_false]
  exact Ev.now _
theorem walkFnExactPathOk {P : Prop} (W : World) (_ : P) (hsh : W.ShapedOpen Tryd.prog) (a0 : ByteArray) (w0 : a0.size ≤ 140737488351232) :
    Calls Tryd.prog 4 #[.string a0] W fun e w' => e = .returned (.bool true) ∧ Below W.heap.size W w' :=
  laws_FnExactPathOk.walk FnExactPathOk a0 W (Tab.of_shaped hsh) w0

end Go.Proofs.YtnfihjebbhjgjaaDoor.Pure
