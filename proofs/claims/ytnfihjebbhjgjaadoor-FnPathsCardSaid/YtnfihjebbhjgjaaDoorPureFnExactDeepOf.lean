/- The program's DeepOf and the reference's agree on every text. No condition. -/
import Derived.Test.YtnfihjebbhjgjaaDoorPPax1
import Derived.Test.YtnfihjebbhjgjaaDoorPPax3
import Derived.Test.YtnfihjebbhjgjaaDoorPaths
import Derived.Test.YtnfihjebbhjgjaaDoorTabM
namespace Go.Proofs.YtnfihjebbhjgjaaDoor.Pure
open Go Go.RowKit Go.Proofs.YtnfihjebbhjgjaaDoor.PPa Go.Proofs.YtnfihjebbhjgjaaDoorW.PrintWords Go.Proofs.YtnfihjebbhjgjaaDoorW.PrintMore Go.Proofs.YtnfihjebbhjgjaaDoor.Arith Go.Proofs.YtnfihjebbhjgjaaDoor.Lib Go.Proofs.YtnfihjebbhjgjaaDoor.Parts Go.Proofs.YtnfihjebbhjgjaaDoor.Paths
set_option linter.unusedSimpArgs false
set_option linter.unusedVariables false

theorem spec_deep (s : ByteArray) : Ev (fun k => spec_DeepOf.f k s) ((names s).length : Int) := by
  unfold spec_DeepOf.f
  exact Ev.bind (spec_names s) (Ev.now _)
theorem impl_deep (s : ByteArray) : Ev (fun k => impl_DeepOf.f k s) ((names s).length : Int) := by
  unfold impl_DeepOf.f
  exact Ev.bind (impl_names s) (Ev.now _)
theorem FnExactDeepOf : laws_FnExactDeepOf.Pure := by
  intro s _
  apply Ev.rounds
  unfold laws_FnExactDeepOf.f
  by_cases h : (s.size : Int) > 1048576
  · simp only [if_pos h]; exact Ev.now _
  simp only [if_neg h]
  refine Ev.bind (spec_deep s) (Ev.bind (impl_deep s) ?_)
  simp only [if_true]
  exact Ev.now _
theorem walkFnExactDeepOf {P : Prop} (W : World) (_ : P) (hsh : W.ShapedOpen Tryd.prog) (a0 : ByteArray) (w0 : a0.size ≤ 140737488351232) :
    Calls Tryd.prog 5 #[.string a0] W fun e w' => e = .returned (.bool true) ∧ Below W.heap.size W w' :=
  laws_FnExactDeepOf.walk FnExactDeepOf a0 W (Tab.of_shaped hsh) w0

end Go.Proofs.YtnfihjebbhjgjaaDoor.Pure
