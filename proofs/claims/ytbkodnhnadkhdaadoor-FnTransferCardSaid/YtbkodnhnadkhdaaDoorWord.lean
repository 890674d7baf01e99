/- The four bytes of a word, in the program and in the reference. Condition: a word. -/
import Derived.Test.YtbkodnhnadkhdaaDoorPM5x
import Derived.Test.YtbkodnhnadkhdaaDoorLib
namespace Go.Proofs.YtbkodnhnadkhdaaDoor.Word
open Go Go.RowKit Go.Proofs.YtbkodnhnadkhdaaDoor.PM5 Go.Proofs.YtbkodnhnadkhdaaDoorW.PrintWords Go.Proofs.YtbkodnhnadkhdaaDoorW.PrintMore Go.Proofs.YtbkodnhnadkhdaaDoor.Arith Go.Proofs.YtbkodnhnadkhdaaDoor.Lib
set_option linter.unusedSimpArgs false
set_option linter.unusedVariables false

def word (a : Int) : List Int := [a % 256, a / 256 % 256, a / 65536 % 256, a / 16777216 % 256]
theorem word_length (a : Int) : (word a).length = 4 := rfl
theorem word_bytes (a : Int) : Bytes (word a) := by
  intro x hx
  unfold word at hx
  simp only [List.mem_cons, List.not_mem_nil, or_false] at hx
  rcases hx with rfl | rfl | rfl | rfl <;> omega
theorem word_spec (a : Int) (h0 : 0 ≤ a) (h1 : a < 4294967296) : spec_PutWord.f a = some (word a) := by
  unfold spec_PutWord.f word
  rw [w64 (x := a) (by omega) (by omega)]
  rw [Int.tdiv_eq_ediv_of_nonneg h0, Int.tdiv_eq_ediv_of_nonneg h0, Int.tdiv_eq_ediv_of_nonneg h0]
  rw [w64 (x := a / 256) (by omega) (by omega), w64 (x := a / 65536) (by omega) (by omega), w64 (x := a / 16777216) (by omega) (by omega)]
  rw [Int.tmod_eq_emod_of_nonneg h0, Int.tmod_eq_emod_of_nonneg (by omega), Int.tmod_eq_emod_of_nonneg (by omega)]
  simp only [Int.emod_emod_of_dvd _ (Int.dvd_refl 256)]
theorem word_text (a : Int) : impl_wordText.f a = some (strOfNums (word a)) := rfl

end Go.Proofs.YtbkodnhnadkhdaaDoor.Word
