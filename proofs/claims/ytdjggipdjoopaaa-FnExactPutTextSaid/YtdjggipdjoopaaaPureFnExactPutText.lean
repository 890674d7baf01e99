/- The program's PutText and the reference's give the same bytes for every text, and the answer is the caller's own. No condition. -/
import Derived.Test.YtdjggipdjoopaaaPMwx4
import Derived.Test.YtdjggipdjoopaaaPMwx5
import Derived.Test.YtdjggipdjoopaaaMarkW
import Derived.Test.YtdjggipdjoopaaaVarTextW
namespace Go.Proofs.Ytdjggipdjoopaaa.Pure
open Go Go.RowKit Go.Proofs.Ytdjggipdjoopaaa.PMw Go.Proofs.YtdjggipdjoopaaaW.PrintWords Go.Proofs.YtdjggipdjoopaaaW.PrintMore Go.Proofs.Ytdjggipdjoopaaa.Arith Go.Proofs.Ytdjggipdjoopaaa.Lib Go.Proofs.Ytdjggipdjoopaaa.Var Go.Proofs.Ytdjggipdjoopaaa.VarText
set_option linter.unusedSimpArgs false
set_option linter.unusedVariables false

def txt (s : ByteArray) : List Int := if (s.size : Int) > 20000 then [] else pv 8 s.size ++ bytesOf s
theorem txt_length (s : ByteArray) : (txt s).length ≤ 20009 := by
  unfold txt
  split
  · simp
  · have := pv_length 8 s.size
    rw [List.length_append, bytesOf_length]; omega
theorem txt_impl (s : ByteArray) : impl_PutText.f s = some (txt s) := by
  unfold impl_PutText.f txt
  by_cases h : (s.size : Int) > 20000
  · rw [if_pos h, if_pos h]
  · have hl := pv_length 8 s.size
    have hb := pv8_bytes s.size (by omega) (by omega)
    have e : strOfNums (pv 8 s.size) ++ s = strOfNums (pv 8 s.size ++ bytesOf s) := by rw [strOfNums_append, strOfNums_bytesOf]
    rw [if_neg h, if_neg h, impl_putText.f, text s.size (by omega) (by omega), Option.bind_some, if_pos (by rw [strOfNums_size]; omega), Option.bind_some, e, conv_of (bytes_app hb (bytesOf_bytes s)) (by rw [List.length_append, bytesOf_length]; omega), Option.bind_some]
theorem txt_spec (s : ByteArray) : Ev (fun k => spec_PutText.f k s) (txt s) := by
  unfold spec_PutText.f txt
  by_cases h : (s.size : Int) > 20000
  · simp only [if_pos h]; exact Ev.now _
  · simp only [if_neg h]
    have hl := pv_length 8 s.size
    refine Ev.bind (put_ev s.size (by omega) (by omega)) ?_
    rw [show conv.f s = some (bytesOf s) from by unfold conv.f; rw [if_pos (by omega)]]
    simp only [Option.bind_some]
    rw [if_pos (by rw [bytesOf_length]; omega)]
    exact Ev.now _
theorem FnExactPutText : laws_FnExactPutText.Pure := by
  intro s _
  apply Ev.rounds
  unfold laws_FnExactPutText.f
  by_cases h : (s.size : Int) > 1048576
  · simp only [if_pos h]; exact Ev.now _
  simp only [if_neg h, txt_impl s, Option.bind_some]
  have hl := txt_length s
  refine Ev.bind (txt_spec s) ?_
  refine Ev.bind (Mark.eq_evByteS _ (by omega)) ?_
  simp only [if_true]
  refine Ev.bind (Mark.mark_evByteS _ (by omega)) (Ev.bind (Mark.held_evByteS _ (by omega)) ?_)
  simp only [if_neg (show ¬ (((txt s).length + 1 : Nat) : Int) < 0 by omega), if_true]
  refine Ev.bind (Mark.eq_evByteS _ (by omega)) ?_
  simp only [if_true]
  refine Ev.bind (Mark.held_evByteS _ (by omega)) ?_
  simp only [if_neg (show ¬ (((txt s).length + 1 : Nat) : Int) < 0 by omega), if_true]
  exact Ev.now _

end Go.Proofs.Ytdjggipdjoopaaa.Pure
