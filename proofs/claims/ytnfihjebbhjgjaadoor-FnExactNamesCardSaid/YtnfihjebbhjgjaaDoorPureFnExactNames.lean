/- The program's Names and the reference's agree on every text, and the answer is the caller's own. No condition. -/
import Derived.Test.YtnfihjebbhjgjaaDoorPPax20
import Derived.Test.YtnfihjebbhjgjaaDoorPaths
import Derived.Test.YtnfihjebbhjgjaaDoorTabM
import Derived.Test.YtnfihjebbhjgjaaDoorMarkStr
namespace Go.Proofs.YtnfihjebbhjgjaaDoor.Pure
open Go Go.RowKit Go.Proofs.YtnfihjebbhjgjaaDoor.PPa Go.Proofs.YtnfihjebbhjgjaaDoorW.PrintWords Go.Proofs.YtnfihjebbhjgjaaDoorW.PrintMore Go.Proofs.YtnfihjebbhjgjaaDoor.Arith Go.Proofs.YtnfihjebbhjgjaaDoor.Lib Go.Proofs.YtnfihjebbhjgjaaDoor.Parts Go.Proofs.YtnfihjebbhjgjaaDoor.Paths
set_option linter.unusedSimpArgs false
set_option linter.unusedVariables false

theorem FnExactNames : laws_FnExactNames.Pure := by
  intro s _
  apply Ev.rounds
  unfold laws_FnExactNames.f
  by_cases h : (s.size : Int) > 1048576
  · simp only [if_pos h]; exact Ev.now _
  simp only [if_neg h]
  have hl := names_length s
  refine Ev.bind (spec_names s) (Ev.bind (impl_names s) (Ev.bind (MarkStr.eq_ev _ (by omega)) ?_))
  simp only [if_true]
  refine Ev.bind (MarkStr.mark_ev _ (by omega)) (Ev.bind (MarkStr.held_ev _ (by omega)) ?_)
  simp only [if_neg (show ¬ (((names s).length + 1 : Nat) : Int) < 0 by omega), if_true]
  refine Ev.bind (impl_names s) (Ev.bind (MarkStr.eq_ev _ (by omega)) ?_)
  simp only [if_true]
  refine Ev.bind (MarkStr.held_ev _ (by omega)) ?_
  simp only [if_neg (show ¬ (((names s).length + 1 : Nat) : Int) < 0 by omega), if_true]
  exact Ev.now _
theorem walkFnExactNames {P : Prop} (W : World) (_ : P) (hsh : W.ShapedOpen Tryd.prog) (a0 : ByteArray) (w0 : a0.size ≤ 140737488351232) :
    Calls Tryd.prog 9 #[.string a0] W fun e w' => e = .returned (.bool true) ∧ Below W.heap.size W w' :=
  laws_FnExactNames.walk FnExactNames a0 W (Tab.of_shaped hsh) w0

end Go.Proofs.YtnfihjebbhjgjaaDoor.Pure
