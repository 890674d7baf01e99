/- The strong sum over plain bytes: sixteen bytes out of the padded blocks. No condition. -/
import Derived.Test.YtbkodnhnadkhdaaDoorMixL
import Derived.Test.YtbkodnhnadkhdaaDoorPad
namespace Go.Proofs.YtbkodnhnadkhdaaDoor.Str
open Go Go.RowKit Go.Proofs.YtbkodnhnadkhdaaDoor.PM5 Go.Proofs.YtbkodnhnadkhdaaDoorW.PrintWords Go.Proofs.YtbkodnhnadkhdaaDoorW.PrintLast Go.Proofs.YtbkodnhnadkhdaaDoorW.PrintMore Go.Proofs.YtbkodnhnadkhdaaDoor.Arith Go.Proofs.YtbkodnhnadkhdaaDoor.Lib Go.Proofs.YtbkodnhnadkhdaaDoor.Word Go.Proofs.YtbkodnhnadkhdaaDoor.Pad Go.Proofs.YtbkodnhnadkhdaaDoor.Mix
set_option linter.unusedVariables false
set_option linter.unusedSimpArgs false
def iv : S4 := (1732584193, 4023233417, 2562383102, 271733878)
def fold (p : ByteArray) : Nat → S4
  | 0 => iv
  | n + 1 => mixOut (p.extract (64 * n) (64 * n + 64)) (fold p n)
def padS (s : ByteArray) : ByteArray := strOfNums (pad s)
def blocks (s : ByteArray) : Nat := (pad s).length / 64
def md5S (s : ByteArray) : S4 := fold (padS s) (blocks s)
def word16 (x : S4) : List Int := word x.1 ++ word x.2.1 ++ word x.2.2.1 ++ word x.2.2.2
def md5 (s : ByteArray) : List Int := word16 (md5S s)
theorem word16_length (x : S4) : (word16 x).length = 16 := rfl
theorem md5_length (s : ByteArray) : (md5 s).length = 16 := rfl
theorem word16_bytes (x : S4) : Bytes (word16 x) := bytes_app (bytes_app (bytes_app (word_bytes _) (word_bytes _)) (word_bytes _)) (word_bytes _)
theorem md5_bytes (s : ByteArray) : Bytes (md5 s) := word16_bytes _
theorem padS_size (s : ByteArray) : (padS s).size = 64 * blocks s := by
  unfold padS blocks
  have := pad_mod s
  rw [strOfNums_size]; omega
theorem blocks_pos (s : ByteArray) : 0 < blocks s := by
  have h := pad_length s
  have := pad_mod s
  unfold blocks; omega
theorem blocks_small (s : ByteArray) (h : s.size ≤ 1000000) : blocks s ≤ 20000 := by
  have h1 := pad_length s
  have := zs_lt s.size
  unfold blocks; omega
theorem text16 (x : S4) : strOfNums (word x.1) ++ strOfNums (word x.2.1) ++ strOfNums (word x.2.2.1) ++ strOfNums (word x.2.2.2) = strOfNums (word16 x) := by
  unfold word16
  rw [strOfNums_append, strOfNums_append, strOfNums_append]
def ok4 (x : S4) : Prop := (0 ≤ x.1 ∧ x.1 < 4294967296) ∧ (0 ≤ x.2.1 ∧ x.2.1 < 4294967296) ∧ (0 ≤ x.2.2.1 ∧ x.2.2.1 < 4294967296) ∧ (0 ≤ x.2.2.2 ∧ x.2.2.2 < 4294967296)
theorem mixOut_ok (b : ByteArray) (x : S4) : ok4 (mixOut b x) := by unfold ok4 mixOut; simp only; omega
theorem fold_ok (p : ByteArray) (n : Nat) : ok4 (fold p n) := by
  cases n with
  | zero => unfold ok4 fold iv; simp
  | succ n => exact mixOut_ok _ _
theorem ext_ext (p : ByteArray) (n m : Nat) (hp : p.size = 64 * m) (h : n < m) : (p.extract (64 * n) p.size).extract 0 64 = p.extract (64 * n) (64 * n + 64) := by
  apply bytesOf_inj
  rw [extract_bytesOf, extract_bytesOf, extract_bytesOf, List.drop_zero, List.take_of_length_le (l := bytesOf p) (by rw [bytesOf_length]; exact Nat.le_refl _), List.drop_take]
  congr 1; omega
theorem ext_tail (p : ByteArray) (n m : Nat) (hp : p.size = 64 * m) (h : n < m) : (p.extract (64 * n) p.size).extract 64 (p.extract (64 * n) p.size).size = p.extract (64 * (n + 1)) p.size := by
  apply bytesOf_inj
  rw [extract_bytesOf, extract_bytesOf, extract_bytesOf, ByteArray.size_extract, List.take_of_length_le (l := bytesOf p) (by rw [bytesOf_length]; exact Nat.le_refl _), List.take_of_length_le (by rw [List.length_drop, bytesOf_length]; omega), List.drop_drop]
  congr 1
theorem fold_at (p : ByteArray) (n m : Nat) (hp : p.size = 64 * m) (h : n < m) : (p.extract (64 * n) (64 * n + 64)).size = 64 := by rw [ByteArray.size_extract]; omega
end Go.Proofs.YtbkodnhnadkhdaaDoor.Str
