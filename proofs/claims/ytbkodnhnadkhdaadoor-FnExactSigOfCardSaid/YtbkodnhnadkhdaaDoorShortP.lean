/- ShortSum: the program's and the reference's are the same bytes. Condition: a seed is a word; at most 2^20 bytes. -/
import Derived.Test.YtbkodnhnadkhdaaDoorPSgx0
import Derived.Test.YtbkodnhnadkhdaaDoorPSgx4
import Derived.Test.YtbkodnhnadkhdaaDoorStrV
namespace Go.Proofs.YtbkodnhnadkhdaaDoor.ShortP
open Go Go.RowKit Go.Proofs.YtbkodnhnadkhdaaDoor.PSg Go.Proofs.YtbkodnhnadkhdaaDoorW.PrintWords Go.Proofs.YtbkodnhnadkhdaaDoorW.PrintMore Go.Proofs.YtbkodnhnadkhdaaDoor.Arith Go.Proofs.YtbkodnhnadkhdaaDoor.Lib
set_option linter.unusedVariables false
set_option linter.unusedSimpArgs false
theorem word_text (a : Int) : impl_wordText.f a = some (strOfNums (Word.word a)) := rfl
theorem strong_some (s : ByteArray) (h : s.size ≤ 1000000) : impl_strong.f s = some (strOfNums (Str.md5 s)) := by unfold impl_strong.f; rw [if_pos h]
theorem short_eq (a : Int) (s : ByteArray) (n : Int) (h1 : 1 ≤ n) (h2 : n ≤ 16) (hs : s.size ≤ 999000) : impl_short.f a s n = some (strOfNums ((Str.md5 (Str.seeded a s)).take n.toNat)) := by
  unfold impl_short.f
  have hw : (strOfNums (Word.word a)).size = 4 := by rw [strOfNums_size]; rfl
  have hz := Str.seeded_size a s
  unfold Str.seeded at hz ⊢
  rw [word_text, Option.bind_some, if_pos (by omega), strong_some _ (by omega), Option.bind_some, if_pos (by omega), if_pos (by rw [strOfNums_size, Str.md5_length]; omega), extract_strOfNums, List.drop_zero]
theorem short_impl (a : Int) (s : ByteArray) (n : Int) : impl_ShortSum.f a s n = some (Str.shortOf a s n) := by
  unfold impl_ShortSum.f Str.shortOf Str.fits16 impl_within.f
  by_cases h1 : 1 ≤ n
  · by_cases h2 : n ≤ 16
    · by_cases h3 : (s.size : Int) > 19996
      · simp [h1, h2, h3]
        omega
      · rw [if_pos h1, Option.bind_some, if_pos (by simpa using h2), if_neg h3, short_eq a s n h1 h2 (by omega), Option.bind_some, if_pos (by simp; omega)]
    · simp [h1, h2]
  · simp [h1]
theorem u32 {a : Int} (ha : (Lit.int .u32 a).wf = true) : 0 ≤ a ∧ a < 4294967296 := by
  simp [Lit.wf, IntKind.min, IntKind.max, IntKind.signed, IntKind.bits] at ha; omega
theorem short_spec (a : Int) (s : ByteArray) (n : Int) (ha : 0 ≤ a ∧ a < 4294967296) (hs : s.size ≤ 1048576) : spec_ShortSum.f a s n = some (Str.shortOf a s n) := by
  unfold spec_ShortSum.f
  rw [if_pos ⟨ha, hs⟩]
theorem FnExactShortSum : laws_FnExactShortSum.Pure := by
  intro a s n ha hs hn
  unfold laws_FnExactShortSum.f
  by_cases h : (s.size : Int) > 1048576
  · rw [if_pos h]
  · rw [if_neg h, short_spec a s n (u32 ha) (by omega), Option.bind_some, short_impl, Option.bind_some, if_pos rfl]
theorem walk {P : Prop} (W : World) (hL : laidMetH Tryd.prog Rows.fnExactShortSumRow.laid W) (_ : P) (a0 : Int) (w0 : (Lit.int .u32 a0).wf = true) (a1 : ByteArray) (w1 : a1.size ≤ 140737488351232) (a2 : Int) (w2 : (Lit.int .i64 a2).wf = true) :
    Calls Tryd.prog 6 #[.int .u32 a0, .string a1, .int .i64 a2] W fun e W' => e = .returned (.bool true) ∧ Below W.heap.size W W' :=
  laws_FnExactShortSum.calls a0 a1 a2 true W (Tab.of_laid hL) (FnExactShortSum a0 a1 a2 w0 w1 w2)
end Go.Proofs.YtbkodnhnadkhdaaDoor.ShortP
