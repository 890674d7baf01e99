/- The program's OnlyLiterals and the reference's give the same tokens for every text, and the answer is the caller's own. No condition. -/
import Derived.Test.YtbkodnhnadkhdaaPAllx11
import Derived.Test.YtbkodnhnadkhdaaBlocks
import Derived.Test.YtbkodnhnadkhdaaMarkTok
namespace Go.Proofs.Ytbkodnhnadkhdaa.Pure
open Go Go.RowKit Go.Proofs.Ytbkodnhnadkhdaa.PAll Go.Proofs.YtbkodnhnadkhdaaW.PrintWords Go.Proofs.YtbkodnhnadkhdaaW.PrintMore Go.Proofs.Ytbkodnhnadkhdaa.Arith Go.Proofs.Ytbkodnhnadkhdaa.Lib
set_option linter.unusedSimpArgs false
set_option linter.unusedVariables false

theorem FnExactOnlyLiterals : laws_FnExactOnlyLiterals.Pure := by
  intro s _
  apply Ev.rounds
  unfold laws_FnExactOnlyLiterals.f
  by_cases h : (s.size : Int) > 1048576
  · simp only [if_pos h]; exact Ev.now _
  simp only [if_neg h]
  have hl := Blocks.only_length s
  refine Ev.bind (Blocks.only_spec s) (Ev.bind (Blocks.only_impl s) (Ev.bind (MarkTok.eq_evT _ (by omega)) ?_))
  simp only [if_true]
  refine Ev.bind (MarkTok.mark_evT _ (by omega)) (Ev.bind (MarkTok.held_evT _ (by omega)) ?_)
  simp only [if_neg (show ¬ ((4 * (Blocks.only s).length + 1 : Nat) : Int) < 0 by omega), if_true]
  refine Ev.bind (Blocks.only_impl s) (Ev.bind (MarkTok.eq_evT _ (by omega)) ?_)
  simp only [if_true]
  refine Ev.bind (MarkTok.held_evT _ (by omega)) ?_
  simp only [if_neg (show ¬ ((4 * (Blocks.only s).length + 1 : Nat) : Int) < 0 by omega), if_true]
  exact Ev.now _

end Go.Proofs.Ytbkodnhnadkhdaa.Pure
