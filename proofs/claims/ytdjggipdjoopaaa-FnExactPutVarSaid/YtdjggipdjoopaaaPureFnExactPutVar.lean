/- The program's PutVar and the reference's give the same bytes for every number, and the answer is the caller's own. No condition. -/
import Derived.Test.YtdjggipdjoopaaaPMwx2
import Derived.Test.YtdjggipdjoopaaaPMwx4
import Derived.Test.YtdjggipdjoopaaaMarkW
import Derived.Test.YtdjggipdjoopaaaVarTextW
namespace Go.Proofs.Ytdjggipdjoopaaa.Pure
open Go Go.RowKit Go.Proofs.Ytdjggipdjoopaaa.PMw Go.Proofs.YtdjggipdjoopaaaW.PrintWords Go.Proofs.YtdjggipdjoopaaaW.PrintMore Go.Proofs.Ytdjggipdjoopaaa.Arith Go.Proofs.Ytdjggipdjoopaaa.Lib Go.Proofs.Ytdjggipdjoopaaa.Var Go.Proofs.Ytdjggipdjoopaaa.VarText
set_option linter.unusedSimpArgs false
set_option linter.unusedVariables false

def num (a : Int) : List Int := if a < 0 then [] else pv 8 a
theorem num_length (a : Int) : (num a).length ≤ 9 := by
  unfold num
  split
  · simp
  · exact pv_length 8 a
theorem num_impl (a : Int) (h1 : a < 9223372036854775808) : impl_PutVar.f a = some (num a) := by
  unfold impl_PutVar.f num
  by_cases h : a < 0
  · rw [if_pos h, if_pos h]
  · have hl := pv_length 8 a
    rw [if_neg h, if_neg h, text a (by omega) h1, Option.bind_some, conv_of (pv8_bytes a (by omega) h1) (by omega), Option.bind_some]
theorem num_spec (a : Int) (h1 : a < 9223372036854775808) : Ev (fun k => spec_PutVar.f k a) (num a) := by
  unfold num
  by_cases h : a < 0
  · rw [if_pos h]; exact put_neg a h
  · rw [if_neg h]; exact put_ev a (by omega) h1
theorem FnExactPutVar : laws_FnExactPutVar.Pure := by
  intro a ha
  have hr : a < 9223372036854775808 := by
    simp [Lit.wf, IntKind.min, IntKind.max, IntKind.signed, IntKind.bits] at ha; omega
  apply Ev.rounds
  unfold laws_FnExactPutVar.f
  simp only [num_impl a hr, Option.bind_some]
  have hl := num_length a
  refine Ev.bind (num_spec a hr) ?_
  refine Ev.bind (Mark.eq_evByteS _ (by omega)) ?_
  simp only [if_true]
  refine Ev.bind (Mark.mark_evByteS _ (by omega)) (Ev.bind (Mark.held_evByteS _ (by omega)) ?_)
  simp only [if_neg (show ¬ (((num a).length + 1 : Nat) : Int) < 0 by omega), if_true]
  refine Ev.bind (Mark.eq_evByteS _ (by omega)) ?_
  simp only [if_true]
  refine Ev.bind (Mark.held_evByteS _ (by omega)) ?_
  simp only [if_neg (show ¬ (((num a).length + 1 : Nat) : Int) < 0 by omega), if_true]
  exact Ev.now _

end Go.Proofs.Ytdjggipdjoopaaa.Pure
