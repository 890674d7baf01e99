/- ShortSum: the program's and the reference's are the same bytes. Condition: a seed is a word; at most 2^20 bytes. -/
import Derived.Test.YtbkodnhnadkhdaaDoorPTrx2
import Derived.Test.YtbkodnhnadkhdaaDoorPTrx3
import Derived.Test.YtbkodnhnadkhdaaDoorPTrx8
import Derived.Test.YtbkodnhnadkhdaaDoorStrV
namespace Go.Proofs.YtbkodnhnadkhdaaDoor.ShortP
open Go Go.RowKit Go.Proofs.YtbkodnhnadkhdaaDoor.PTr Go.Proofs.YtbkodnhnadkhdaaDoorW.PrintWords Go.Proofs.YtbkodnhnadkhdaaDoorW.PrintMore Go.Proofs.YtbkodnhnadkhdaaDoor.Arith Go.Proofs.YtbkodnhnadkhdaaDoor.Lib
set_option linter.unusedVariables false
set_option linter.unusedSimpArgs false
theorem word_text (a : Int) : impl_wordText.f a = some (strOfNums (Word.word a)) := rfl
theorem strong_some (s : ByteArray) (h : s.size ≤ 1000000) : impl_strong.f s = some (strOfNums (Str.md5 s)) := by unfold impl_strong.f; rw [if_pos h]
theorem short_eq (a : Int) (s : ByteArray) (n : Int) (h1 : 1 ≤ n) (h2 : n ≤ 16) (hs : s.size ≤ 999000) : impl_short.f a s n = some (strOfNums ((Str.md5 (Str.seeded a s)).take n.toNat)) := by
  unfold impl_short.f
  have hw : (strOfNums (Word.word a)).size = 4 := by rw [strOfNums_size]; rfl
  have hz := Str.seeded_size a s
  unfold Str.seeded at hz ⊢
  rw [word_text, Option.bind_some, if_pos (by omega), strong_some _ (by omega), Option.bind_some, if_pos (by omega), if_pos (by rw [strOfNums_size, Str.md5_length]; omega), extract_strOfNums, List.drop_zero]
theorem u32 {a : Int} (ha : (Lit.int .u32 a).wf = true) : 0 ≤ a ∧ a < 4294967296 := by
  simp [Lit.wf, IntKind.min, IntKind.max, IntKind.signed, IntKind.bits] at ha; omega
theorem short_spec (a : Int) (s : ByteArray) (n : Int) (ha : 0 ≤ a ∧ a < 4294967296) (hs : s.size ≤ 1048576) : spec_ShortSum.f a s n = some (Str.shortOf a s n) := by
  unfold spec_ShortSum.f
  rw [if_pos ⟨ha, hs⟩]
end Go.Proofs.YtbkodnhnadkhdaaDoor.ShortP
