/- The program's PadStrong and the reference's give the same bytes for every text, and the answer is the caller's own. No condition. -/
import Derived.Test.YtbkodnhnadkhdaaPPdx1
import Derived.Test.YtbkodnhnadkhdaaPPdx2
import Derived.Test.YtbkodnhnadkhdaaPPdx4
import Derived.Test.YtbkodnhnadkhdaaMarkPd
import Derived.Test.YtbkodnhnadkhdaaPad
namespace Go.Proofs.Ytbkodnhnadkhdaa.Pure
open Go Go.RowKit Go.Proofs.Ytbkodnhnadkhdaa.PPd Go.Proofs.YtbkodnhnadkhdaaW.PrintWords Go.Proofs.YtbkodnhnadkhdaaW.PrintMore Go.Proofs.Ytbkodnhnadkhdaa.Arith Go.Proofs.Ytbkodnhnadkhdaa.Lib Go.Proofs.Ytbkodnhnadkhdaa.Pad
set_option linter.unusedSimpArgs false
set_option linter.unusedVariables false

def val (s : ByteArray) : List Int := if (s.size : Int) > 20000 then [] else pad s
theorem val_length (s : ByteArray) : (val s).length ≤ 20100 := by
  unfold val
  split
  · simp
  · have := zs_lt s.size
    rw [pad_length]; omega
theorem val_spec (s : ByteArray) : Ev (fun k => spec_PadStrong.f k s) (val s) := by
  unfold val
  by_cases h : (s.size : Int) > 20000
  · unfold spec_PadStrong.f
    simp only [if_pos h]; exact Ev.now _
  · rw [if_neg h]
    exact spec_ev s (by omega)
theorem val_impl (s : ByteArray) : Ev (fun k => impl_PadStrong.f k s) (val s) := by
  unfold val impl_PadStrong.f
  by_cases h : (s.size : Int) > 20000
  · simp only [if_pos h]; exact Ev.now _
  · simp only [if_neg h]
    have := zs_lt s.size
    refine Ev.bind (impl_ev s (by omega)) ?_
    have hc : conv.f (strOfNums (pad s)) = some (pad s) := by
      unfold conv.f
      rw [if_pos (by rw [strOfNums_size, pad_length]; omega), bytesOf_strOfNums (pad_bytes s)]
    simp only [hc, Option.bind_some]
    exact Ev.now _
theorem FnExactPadStrong : laws_FnExactPadStrong.Pure := by
  intro s _
  apply Ev.rounds
  unfold laws_FnExactPadStrong.f
  by_cases h : (s.size : Int) > 1048576
  · simp only [if_pos h]; exact Ev.now _
  simp only [if_neg h]
  have hl := val_length s
  refine Ev.bind (val_spec s) (Ev.bind (val_impl s) (Ev.bind (Mark.eq_evByteS _ (by omega)) ?_))
  simp only [if_true]
  refine Ev.bind (Mark.mark_evByteS _ (by omega)) (Ev.bind (Mark.held_evByteS _ (by omega)) ?_)
  simp only [if_neg (show ¬ (((val s).length + 1 : Nat) : Int) < 0 by omega), if_true]
  refine Ev.bind (val_impl s) (Ev.bind (Mark.eq_evByteS _ (by omega)) ?_)
  simp only [if_true]
  refine Ev.bind (Mark.held_evByteS _ (by omega)) ?_
  simp only [if_neg (show ¬ (((val s).length + 1 : Nat) : Int) < 0 by omega), if_true]
  exact Ev.now _

end Go.Proofs.Ytbkodnhnadkhdaa.Pure
