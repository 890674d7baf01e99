/- The program's PutWord and the reference's give the same four bytes for every word, and the answer is the caller's own. No condition. -/
import Derived.Test.YtadcjkendddgdaaPMwx1
import Derived.Test.YtadcjkendddgdaaPMwx2
import Derived.Test.YtadcjkendddgdaaMarkW
namespace Go.Proofs.Ytadcjkendddgdaa.Pure
open Go Go.RowKit Go.Proofs.Ytadcjkendddgdaa.PMw Go.Proofs.YtadcjkendddgdaaW.PrintWords Go.Proofs.YtadcjkendddgdaaW.PrintMore Go.Proofs.Ytadcjkendddgdaa.Arith Go.Proofs.Ytadcjkendddgdaa.Lib
set_option linter.unusedSimpArgs false
set_option linter.unusedVariables false

def word (a : Int) : List Int := [a % 256, a / 256 % 256, a / 65536 % 256, a / 16777216 % 256]
theorem word_spec (a : Int) (h0 : 0 ≤ a) (h1 : a < 4294967296) : spec_PutWord.f a = some (word a) := by
  unfold spec_PutWord.f word
  rw [w64 (x := a) (by omega) (by omega)]
  rw [Int.tdiv_eq_ediv_of_nonneg h0, Int.tdiv_eq_ediv_of_nonneg h0, Int.tdiv_eq_ediv_of_nonneg h0]
  rw [w64 (x := a / 256) (by omega) (by omega), w64 (x := a / 65536) (by omega) (by omega), w64 (x := a / 16777216) (by omega) (by omega)]
  rw [Int.tmod_eq_emod_of_nonneg h0, Int.tmod_eq_emod_of_nonneg (by omega), Int.tmod_eq_emod_of_nonneg (by omega)]
  simp only [Int.emod_emod_of_dvd _ (Int.dvd_refl 256)]
theorem word_impl (a : Int) (h0 : 0 ≤ a) (h1 : a < 4294967296) : impl_PutWord.f a = some (word a) := by
  unfold impl_PutWord.f impl_wordText.f
  have hb : Bytes (word a) := by
    intro x hx
    unfold word at hx
    simp only [List.mem_cons, List.not_mem_nil, or_false] at hx
    rcases hx with rfl | rfl | rfl | rfl <;> omega
  rw [Option.bind_some, show ([a % 256, (a / 256) % 256, (a / 65536) % 256, (a / 16777216) % 256] : List Int) = word a from rfl]
  unfold conv.f
  rw [if_pos (by rw [strOfNums_size]; simp [word]), Option.bind_some, bytesOf_strOfNums hb]
theorem FnExactPutWord : laws_FnExactPutWord.Pure := by
  intro a ha
  have hr : 0 ≤ a ∧ a < 4294967296 := by
    simp [Lit.wf, IntKind.min, IntKind.max, IntKind.signed, IntKind.bits] at ha; omega
  apply Ev.rounds
  unfold laws_FnExactPutWord.f
  simp only [word_spec a hr.1 hr.2, word_impl a hr.1 hr.2, Option.bind_some]
  have hl : (word a).length = 4 := rfl
  refine Ev.bind (Mark.eq_evByteS _ (by omega)) ?_
  simp only [if_true]
  refine Ev.bind (Mark.mark_evByteS _ (by omega)) (Ev.bind (Mark.held_evByteS _ (by omega)) ?_)
  simp only [if_neg (show ¬ (((word a).length + 1 : Nat) : Int) < 0 by omega), if_true]
  refine Ev.bind (Mark.eq_evByteS _ (by omega)) ?_
  simp only [if_true]
  refine Ev.bind (Mark.held_evByteS _ (by omega)) ?_
  simp only [if_neg (show ¬ (((word a).length + 1 : Nat) : Int) < 0 by omega), if_true]
  exact Ev.now _

end Go.Proofs.Ytadcjkendddgdaa.Pure
