/- The program's WeakOf and the reference's give the same word, for every text. No condition. -/
import Derived.Test.YtadcjkendddgdaaPAllx2
import Derived.Test.YtadcjkendddgdaaPAllx3
import Derived.Test.YtadcjkendddgdaaWeak
namespace Go.Proofs.Ytadcjkendddgdaa.Pure
open Go Go.RowKit Go.Proofs.Ytadcjkendddgdaa.PAll Go.Proofs.YtadcjkendddgdaaW.PrintWords Go.Proofs.Ytadcjkendddgdaa.Arith Go.Proofs.Ytadcjkendddgdaa.Lib Go.Proofs.Ytadcjkendddgdaa.Sums
set_option linter.unusedSimpArgs false
set_option linter.unusedVariables false

theorem FnExactWeakOf : laws_FnExactWeakOf.Pure := by
  intro s _
  apply Ev.rounds
  unfold laws_FnExactWeakOf.f
  by_cases h : (s.size : Int) > 1048576
  · simp only [if_pos h]; exact Ev.now _
  simp only [if_neg h]
  unfold spec_WeakOf.f impl_WeakOf.f
  by_cases h2 : (s.size : Int) > 20000
  · simp only [if_pos h2]; exact Ev.now _
  · simp only [if_neg h2]
    refine Ev.bind (Weak.spec_ev s (by omega)) ?_
    refine Ev.bind (Ev.bind (Weak.impl_ev s (by omega)) (Ev.now _)) ?_
    simp only [if_pos]
    exact Ev.now _

end Go.Proofs.Ytadcjkendddgdaa.Pure
