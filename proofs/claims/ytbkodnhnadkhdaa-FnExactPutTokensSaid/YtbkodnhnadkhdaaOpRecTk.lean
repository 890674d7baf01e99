/- How a slice of the laws' own tokens, handed in, reads. No condition. -/
import Derived.Test.YtbkodnhnadkhdaaPTkx0
import Derived.Test.YtbkodnhnadkhdaaOpTok
namespace Go.Proofs.Ytbkodnhnadkhdaa.Opens
open Go Go.RowKit Go.Proofs.Ytbkodnhnadkhdaa.PTk Go.Proofs.YtbkodnhnadkhdaaW.PrintWords
set_option linter.unusedSimpArgs false
set_option linter.unusedVariables false
def okT (x : S71) : Prop := okTok (x.f0, x.f1, x.f2, x.f3)
theorem op_tokT {H : Type} {enc : TypeId × Value → H} : Op enc Try.prog 71 k71 okT := by
  intro w spare held fuel cs x h
  obtain ⟨⟨a, s, b, c⟩, hk, ho⟩ := op_tok w spare held fuel cs x h
  exact ⟨⟨a, s, b, c⟩, hk, ho⟩
theorem op_toks {H : Type} {enc : TypeId × Value → H} : Op enc Try.prog 36 (Kd.slice 71 k71) (fun xs => xs.length ≤ maxLen ∧ ∀ x ∈ xs, okT x) :=
  op_slice z71 Try.underlying36 (by kernel_rfl) op_tokT
end Go.Proofs.Ytbkodnhnadkhdaa.Opens
