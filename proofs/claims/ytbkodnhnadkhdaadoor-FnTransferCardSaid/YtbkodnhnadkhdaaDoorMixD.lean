import Derived.Test.YtbkodnhnadkhdaaDoorPM5x
import Derived.Test.YtbkodnhnadkhdaaDoorTabS
import Derived.Test.YtbkodnhnadkhdaaDoorArith
import Derived.BigQuiet
import Derived.LoopTactic
namespace Go.Proofs.YtbkodnhnadkhdaaDoor.Mix
open Go Go.RowKit Go.Proofs.YtbkodnhnadkhdaaDoor.PM5 Go.Proofs.YtbkodnhnadkhdaaDoorW.PrintWords Go.Proofs.YtbkodnhnadkhdaaDoorW.PrintLast Go.Proofs.YtbkodnhnadkhdaaDoorW.PrintMore
set_option linter.unusedVariables false
abbrev nt (x : Int) : Int := bits BinOp.xor IntKind.u32 IntKind.u32.max x
def fOf (i : Nat) (b c d : Int) : Int :=
  if i / 16 = 0 then bits .or .u32 (bits .and .u32 b c) (bits .and .u32 (nt b) d)
  else if i / 16 = 1 then bits .or .u32 (bits .and .u32 d b) (bits .and .u32 (nt d) c)
  else if i / 16 = 2 then bits .xor .u32 (bits .xor .u32 b c) d
  else bits .xor .u32 c (bits .or .u32 b (nt d))
def gOf (i : Nat) : Nat := if i / 16 = 0 then i else if i / 16 = 1 then (5 * i + 1) % 16 else if i / 16 = 2 then (3 * i + 5) % 16 else 7 * i % 16
theorem gOf_lt (i : Nat) (h : i < 64) : gOf i < 16 := by unfold gOf; split <;> (try split) <;> (try split) <;> omega
def wd (blk : ByteArray) (g : Nat) : Int := (impl_readWord.f (blk.extract (4 * g) blk.size)).getD 0
theorem wd_eq (blk : ByteArray) (g : Nat) (hb : blk.size = 64) (hg : g < 16) : impl_readWord.f (blk.extract (4 * g) blk.size) = some (wd blk g) := by
  have hs : (blk.extract (4 * g) blk.size).size = 64 - 4 * g := by rw [ByteArray.size_extract]; omega
  unfold wd
  have : ∃ r, impl_readWord.f (blk.extract (4 * g) blk.size) = some r := by
    unfold impl_readWord.f
    rw [if_pos (by omega), if_pos (by omega), if_pos (by omega), if_pos (by omega)]
    exact ⟨_, rfl⟩
  obtain ⟨r, hr⟩ := this
  rw [hr]; rfl
def rot (x s : Int) : Int := (bits_RotateLeft32.f x s).getD 0
theorem rot_eq (x s : Int) : bits_RotateLeft32.f x s = some (rot x s) := by
  have : ∃ r, bits_RotateLeft32.f x s = some r := by
    unfold bits_RotateLeft32.f
    rw [Arith.and_mask .u64 5 (by decide) (IntKind.u64.wrap s) |> (fun h => (show Go.bits .and .u64 (IntKind.u64.wrap s) 31 = IntKind.u64.wrap s % 2 ^ 5 from h))]
    rw [if_pos (by omega), if_pos (by rw [IntKind.wrap_u64]; omega)]
    exact ⟨_, rfl⟩
  obtain ⟨r, hr⟩ := this
  unfold rot
  rw [hr]; rfl
theorem tdiv16 (n : Nat) : Int.tdiv (n : Int) 16 = ((n / 16 : Nat) : Int) := rfl
abbrev S4 := Int × Int × Int × Int
/-- One round of the strong sum, and n rounds. -/
def rnd (blk : ByteArray) (i : Nat) (s : S4) : S4 := (s.2.2.2, (s.2.1 + rot ((s.1 + fOf i s.2.1 s.2.2.1 s.2.2.2 + sinesL.getD i 0 + wd blk (gOf i)) % 4294967296) ((turnsR.getD (i / 16) []).getD (i % 4) 0)) % 4294967296, s.2.1, s.2.2.1)
def st (blk : ByteArray) (s0 : S4) : Nat → S4
  | 0 => s0
  | n + 1 => rnd blk n (st blk s0 n)
def mixOut (blk : ByteArray) (s0 : S4) : S4 := ((s0.1 + (st blk s0 64).1) % 4294967296, (s0.2.1 + (st blk s0 64).2.1) % 4294967296, (s0.2.2.1 + (st blk s0 64).2.2.1) % 4294967296, (s0.2.2.2 + (st blk s0 64).2.2.2) % 4294967296)
end Go.Proofs.YtbkodnhnadkhdaaDoor.Mix
