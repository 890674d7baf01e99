/- What the reference's tables, words and turns come to: the same numbers as the program's. No condition but the index's bounds. -/
import Derived.Test.YtbkodnhnadkhdaaDoorMixD
import Derived.Test.YtbkodnhnadkhdaaDoorLib
import Derived.Test.YtbkodnhnadkhdaaDoorConv
namespace Go.Proofs.YtbkodnhnadkhdaaDoor.Mix
open Go Go.RowKit Go.Proofs.YtbkodnhnadkhdaaDoor.PM5 Go.Proofs.YtbkodnhnadkhdaaDoorW.PrintWords Go.Proofs.YtbkodnhnadkhdaaDoorW.PrintLast Go.Proofs.YtbkodnhnadkhdaaDoorW.PrintMore Go.Proofs.YtbkodnhnadkhdaaDoor.Arith Go.Proofs.YtbkodnhnadkhdaaDoor.Lib
set_option linter.unusedVariables false
set_option linter.unusedSimpArgs false
theorem l04K_eq (n : Nat) (h : n < 64) : spec_l04K.f n = some (sinesL.getD n 0) := by
  unfold spec_l04K.f
  rw [Option.bind_some, if_pos (by omega), if_pos (by simp only [List.length_cons, List.length_nil]; omega)]
  unfold rd
  rw [Int.toNat_natCast]
  rfl
theorem turns_flat : ∀ (i j : Fin 4), ([7, 12, 17, 22, 5, 9, 14, 20, 4, 11, 16, 23, 6, 10, 15, 21] : List Int).getD (4 * i.val + j.val) 0 = (turnsR.getD i.val []).getD j.val 0 := by decide
theorem turns_range : ∀ (i j : Fin 4), 0 ≤ (turnsR.getD i.val []).getD j.val 0 ∧ (turnsR.getD i.val []).getD j.val 0 < 32 := by decide
def turnOf (n : Nat) : Int := (turnsR.getD (n / 16) []).getD (n % 4) 0
theorem turn_range (n : Nat) (h : n < 64) : 0 ≤ turnOf n ∧ turnOf n < 32 := turns_range ⟨n / 16, by omega⟩ ⟨n % 4, by omega⟩
theorem l04S_eq (n : Nat) (h : n < 64) : spec_l04S.f n = some (turnOf n) := by
  unfold spec_l04S.f
  rw [Option.bind_some]
  have e : wrap64 (wrap64 (4 * wrap64 (Int.tdiv (n : Int) 16)) + Int.tmod (n : Int) 4) = ((4 * (n / 16) + n % 4 : Nat) : Int) := by
    rw [tdiv16, show Int.tmod (n : Int) 4 = ((n % 4 : Nat) : Int) from rfl, w64 (x := ((n / 16 : Nat) : Int)) (by omega) (by omega), w64 (x := 4 * ((n / 16 : Nat) : Int)) (by omega) (by omega), w64 (by omega) (by omega)]
    omega
  rw [e, if_pos (by omega), if_pos (by simp only [List.length_cons, List.length_nil]; omega)]
  unfold rd
  rw [Int.toNat_natCast]
  exact congrArg some (turns_flat ⟨n / 16, by omega⟩ ⟨n % 4, by omega⟩)
theorem bt_ext (s : ByteArray) (a b i : Nat) (h : i < b - a) (hb : b ≤ s.size) : bt (s.extract a b) i = bt s ((a + i : Nat) : Int) := by
  rw [← rd_bytesOf, ← rd_bytesOf, extract_bytesOf, rd_lt _ _ (by simp [bytesOf_length]; omega), rd_lt _ _ (by rw [bytesOf_length]; omega)]
  simp
theorem getWord_eq (blk : ByteArray) (g : Nat) (hb : blk.size = 64) (hg : g < 16) : spec_GetWord.f (bytesOf (blk.extract (4 * g) (4 * g + 4))) = some (wd blk g, true) := by
  have hl : ((bytesOf (blk.extract (4 * g) (4 * g + 4))).length : Int) = 4 := by rw [bytesOf_length, ByteArray.size_extract]; omega
  have hs : (blk.extract (4 * g) blk.size).size = 64 - 4 * g := by rw [ByteArray.size_extract]; omega
  have e := wd_eq blk g hb hg
  unfold impl_readWord.f at e
  rw [if_pos (by omega), if_pos (by omega), if_pos (by omega), if_pos (by omega)] at e
  have e' := Option.some.inj e
  rw [← e']
  unfold spec_GetWord.f
  rw [if_pos hl, if_pos (by omega), if_pos (by omega), if_pos (by omega), if_pos (by omega)]
  have r0 : rd (bytesOf (blk.extract (4 * g) (4 * g + 4))) 0 = bt blk ((4 * g + 0 : Nat) : Int) := by rw [rd_bytesOf]; exact bt_ext _ _ _ 0 (by omega) (by omega)
  have r1 : rd (bytesOf (blk.extract (4 * g) (4 * g + 4))) 1 = bt blk ((4 * g + 1 : Nat) : Int) := by rw [rd_bytesOf]; exact bt_ext _ _ _ 1 (by omega) (by omega)
  have r2 : rd (bytesOf (blk.extract (4 * g) (4 * g + 4))) 2 = bt blk ((4 * g + 2 : Nat) : Int) := by rw [rd_bytesOf]; exact bt_ext _ _ _ 2 (by omega) (by omega)
  have r3 : rd (bytesOf (blk.extract (4 * g) (4 * g + 4))) 3 = bt blk ((4 * g + 3 : Nat) : Int) := by rw [rd_bytesOf]; exact bt_ext _ _ _ 3 (by omega) (by omega)
  have q0 : bt (blk.extract (4 * g) blk.size) 0 = bt blk ((4 * g + 0 : Nat) : Int) := bt_ext _ _ _ 0 (by omega) (by omega)
  have q1 : bt (blk.extract (4 * g) blk.size) 1 = bt blk ((4 * g + 1 : Nat) : Int) := bt_ext _ _ _ 1 (by omega) (by omega)
  have q2 : bt (blk.extract (4 * g) blk.size) 2 = bt blk ((4 * g + 2 : Nat) : Int) := bt_ext _ _ _ 2 (by omega) (by omega)
  have q3 : bt (blk.extract (4 * g) blk.size) 3 = bt blk ((4 * g + 3 : Nat) : Int) := bt_ext _ _ _ 3 (by omega) (by omega)
  rw [r0, r1, r2, r3, q0, q1, q2, q3]
  have h0 := bt_range blk ((4 * g + 0 : Nat) : Int)
  have h1 := bt_range blk ((4 * g + 1 : Nat) : Int)
  have h2 := bt_range blk ((4 * g + 2 : Nat) : Int)
  have h3 := bt_range blk ((4 * g + 3 : Nat) : Int)
  generalize bt blk ((4 * g + 0 : Nat) : Int) = a at *
  generalize bt blk ((4 * g + 1 : Nat) : Int) = b at *
  generalize bt blk ((4 * g + 2 : Nat) : Int) = c at *
  generalize bt blk ((4 * g + 3 : Nat) : Int) = d at *
  clear e e' r0 r1 r2 r3 q0 q1 q2 q3
  rw [Int.emod_eq_of_lt (a := a) (by omega) (by omega), Int.emod_eq_of_lt (a := b) (by omega) (by omega), Int.emod_eq_of_lt (a := c) (by omega) (by omega), Int.emod_eq_of_lt (a := d) (by omega) (by omega)]
  rw [Int.emod_eq_of_lt (a := b * 256) (by omega) (by omega), Int.emod_eq_of_lt (a := c * 65536) (by omega) (by omega), Int.emod_eq_of_lt (a := d * 16777216) (by omega) (by omega)]
  rw [or_comm .u32 a, or_join32 8 (b * 256) a (by omega) (by omega) (by omega) (by omega) (by omega) (by omega)]
  rw [or_comm .u32 _ (c * 65536), or_join32 16 (c * 65536) _ (by omega) (by omega) (by omega) (by omega) (by omega) (by omega)]
  rw [or_comm .u32 _ (d * 16777216), or_join32 24 (d * 16777216) _ (by omega) (by omega) (by omega) (by omega) (by omega) (by omega)]
  rw [w64 (x := a) (by omega) (by omega), w64 (x := b) (by omega) (by omega), w64 (x := c) (by omega) (by omega), w64 (x := d) (by omega) (by omega)]
  rw [w64 (x := 256 * b) (by omega) (by omega), w64 (x := 65536 * c) (by omega) (by omega), w64 (x := 16777216 * d) (by omega) (by omega)]
  rw [w64 (x := a + 256 * b) (by omega) (by omega), w64 (x := a + 256 * b + 65536 * c) (by omega) (by omega), w64 (x := a + 256 * b + 65536 * c + 16777216 * d) (by omega) (by omega)]
  rw [show d * 16777216 + (c * 65536 + (b * 256 + a)) = (a + 256 * b + 65536 * c + 16777216 * d) % 4294967296 from by omega]
theorem rot_is (x s : Int) (h0 : 0 ≤ s) (h1 : s < 32) : rot x s = bits .or .u32 (shl .u32 x s) (shr .u32 x (32 - s)) := by
  have h := rot_eq x s
  unfold bits_RotateLeft32.f at h
  have hw : IntKind.u64.wrap s = s := by rw [IntKind.wrap_u64]; omega
  have hm : Go.bits .and .u64 s 31 = s := by
    have := Arith.and_mask .u64 5 (by decide) s
    rw [show ((2 : Int) ^ 5 - 1) = 31 from rfl] at this
    rw [this]; omega
  rw [hw, hm, show IntKind.u64.wrap (32 - s) = 32 - s from by rw [IntKind.wrap_u64]; omega, if_pos (by omega), if_pos (by omega)] at h
  exact (Option.some.inj h).symm
theorem rot_pow (x s : Int) (h0 : 0 ≤ s) (h1 : s < 32) : bits .or .u32 (x * 2 ^ s.toNat % 4294967296) (x / 2 ^ (32 - s).toNat) = rot x s := by
  rw [rot_is x s h0 h1]
  unfold shl shr
  rw [IntKind.wrap_u32, show IntKind.u32.bits = 32 from rfl, Nat.min_eq_left (by omega), Nat.min_eq_left (by omega)]
end Go.Proofs.YtbkodnhnadkhdaaDoor.Mix
