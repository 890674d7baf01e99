/- The four bytes of a word, in the program and in the reference. Condition: a word. -/
import Derived.Test.YtdjggipdjoopaaaDoorPFnx3
import Derived.Test.YtdjggipdjoopaaaDoorLib
namespace Go.Proofs.YtdjggipdjoopaaaDoor.Word
open Go Go.RowKit Go.Proofs.YtdjggipdjoopaaaDoor.PFn Go.Proofs.YtdjggipdjoopaaaDoorW.PrintWords Go.Proofs.YtdjggipdjoopaaaDoorW.PrintMore Go.Proofs.YtdjggipdjoopaaaDoor.Arith Go.Proofs.YtdjggipdjoopaaaDoor.Lib
set_option linter.unusedSimpArgs false
set_option linter.unusedVariables false

def word (a : Int) : List Int := [a % 256, a / 256 % 256, a / 65536 % 256, a / 16777216 % 256]
theorem word_length (a : Int) : (word a).length = 4 := rfl
theorem word_bytes (a : Int) : Bytes (word a) := by
  intro x hx
  unfold word at hx
  simp only [List.mem_cons, List.not_mem_nil, or_false] at hx
  rcases hx with rfl | rfl | rfl | rfl <;> omega
theorem word_text (a : Int) : impl_wordText.f a = some (strOfNums (word a)) := rfl

end Go.Proofs.YtdjggipdjoopaaaDoor.Word
