/- Plain arithmetic for all texts of this seat: wrap-around, remainders, bits. No condition; nothing of the program is named. -/
import Derived.Laws.BitsLemmas
import Derived.RowKit
namespace Go.Proofs.YtbkodnhnadkhdaaDoor.Arith
open Go Go.RowKit

theorem w64 {x : Int} (h0 : -9223372036854775808 ≤ x) (h1 : x < 9223372036854775808) : wrap64 x = x := by
  unfold wrap64; omega
theorem w64_range (x : Int) : -9223372036854775808 ≤ wrap64 x ∧ wrap64 x < 9223372036854775808 := by
  unfold wrap64; omega
theorem w64_emod (x : Int) {m : Int} (hm : m ∣ 18446744073709551616) : wrap64 x % m = x % m := by
  unfold wrap64
  obtain ⟨c, hc⟩ := hm
  have h := Int.emod_add_mul_ediv (x + 9223372036854775808) 18446744073709551616
  have : (x + 9223372036854775808) % 18446744073709551616 - 9223372036854775808 = x + m * (c * (-((x + 9223372036854775808) / 18446744073709551616))) := by
    rw [← Int.mul_assoc, ← hc, Int.mul_neg]; omega
  rw [this, Int.add_mul_emod_self_left]

theorem wrap_small (k : IntKind) (n : Int) (h0 : 0 ≤ n) (h1 : n < 2 ^ (k.bits - 1)) : k.wrap n = n := by
  have h2 : n < 2 ^ k.bits := Int.lt_of_lt_of_le h1 (by cases k <;> decide)
  unfold IntKind.wrap
  simp only [Int.emod_eq_of_lt h0 h2]
  rw [if_neg]
  simp
  intro _
  exact h1

theorem and_mask (k : IntKind) (i : Nat) (hi : i < k.bits) (x : Int) : bits .and k x (2 ^ i - 1) = x % 2 ^ i := by
  have hlt : (2 : Nat) ^ i < 2 ^ k.bits := Nat.pow_lt_pow_right (by decide) hi
  have hpos : 0 < (2 : Nat) ^ i := Nat.two_pow_pos i
  have e1 : (BitVec.ofInt k.bits ((2 : Int) ^ i - 1)).toNat = 2 ^ i - 1 := by
    have hc : ((2 : Int) ^ i - 1) = ((2 ^ i - 1 : Nat) : Int) := by
      rw [Int.natCast_sub hpos]; simp
    rw [hc, BitVec.ofInt_natCast, BitVec.toNat_ofNat, Nat.mod_eq_of_lt (by omega)]
  have e2 : ((BitVec.ofInt k.bits x).toNat : Int) % 2 ^ i = x % 2 ^ i := by
    rw [BitVec.toNat_ofInt, Int.toNat_of_nonneg (Int.emod_nonneg _ (by have : (0 : Int) < ((2 : Nat) ^ k.bits : Nat) := by exact_mod_cast Nat.two_pow_pos _
                                                                       omega))]
    have hd : ((2 : Int) ^ i) ∣ (((2 : Nat) ^ k.bits : Nat) : Int) := by
      have : ((2 : Nat) ^ i) ∣ 2 ^ k.bits := Nat.pow_dvd_pow 2 (Nat.le_of_lt hi)
      have := Int.natCast_dvd_natCast.2 this
      simpa using this
    exact Int.emod_emod_of_dvd x hd
  simp only [bits, BitVec.toNat_and, e1, Nat.and_two_pow_sub_one_eq_mod]
  have hb : (((BitVec.ofInt k.bits x).toNat % 2 ^ i : Nat) : Int) < 2 ^ (k.bits - 1) := by
    have h1 : (BitVec.ofInt k.bits x).toNat % 2 ^ i < 2 ^ i := Nat.mod_lt _ hpos
    have h2 : (2 : Nat) ^ i ≤ 2 ^ (k.bits - 1) := Nat.pow_le_pow_right (by decide) (by omega)
    exact_mod_cast Nat.lt_of_lt_of_le h1 h2
  rw [wrap_small k _ (by omega) hb]
  rw [← e2]; simp

theorem and65535 (x : Int) : bits .and .i64 x 65535 = x % 65536 := and_mask .i64 16 (by decide) x
theorem and65535u (x : Int) : bits .and .u32 x 65535 = x % 65536 := and_mask .u32 16 (by decide) x
theorem and255 (x : Int) : bits .and .i64 x 255 = x % 256 := and_mask .i64 8 (by decide) x

theorem wrap_u32 (n : Int) (h₀ : 0 ≤ n) (h₁ : n < 2 ^ 32) : IntKind.u32.wrap n = n := by rw [IntKind.wrap_u32]; omega
theorem or_join32 (i : Nat) (x y : Int) (hx₀ : 0 ≤ x) (hx : x % 2 ^ i = 0) (hx₁ : x < 2 ^ 32) (hy₀ : 0 ≤ y) (hy : y < 2 ^ i) (hy₁ : y < 2 ^ 32) : bits .or .u32 x y = x + y :=
  bits_join .u32 32 (by decide) wrap_u32 i x y hx₀ hx hx₁ hy₀ hy hy₁
theorem or_comm (k : IntKind) (x y : Int) : bits .or k x y = bits .or k y x := by
  simp only [bits, BitVec.or_comm]

theorem tmod_pos (x m : Int) (hm : 0 < m) : Int.tmod (Int.tmod x m + m) m = x % m := by
  have h1 := Int.tmod_lt_of_pos x hm
  have h2 : -m < Int.tmod x m := by
    have := Int.lt_tmod_of_pos x hm; omega
  have h3 : Int.tmod x m % m = x % m := by
    rcases Int.le_total 0 x with h | h
    · rw [Int.tmod_eq_emod_of_nonneg h, Int.emod_emod_of_dvd _ (Int.dvd_refl m)]
    · rw [Int.tmod_eq_emod]
      split
      · rw [Int.natCast_zero, Int.sub_zero, Int.emod_emod_of_dvd _ (Int.dvd_refl m)]
      · rw [Int.sub_emod]; simp [Int.natAbs_of_nonneg (Int.le_of_lt hm)]
  rw [Int.tmod_eq_emod_of_nonneg (by omega), Int.add_emod_right, h3]

/-- What weak(a, b) and l03Pair(a, b) both are. -/
def pair (a b : Int) : Int := b % 65536 * 65536 + a % 65536
theorem pair_spec (a b : Int) : (wrap64 ((wrap64 ((Int.tmod (wrap64 ((Int.tmod b 65536) + 65536)) 65536) * 65536)) + (Int.tmod (wrap64 ((Int.tmod a 65536) + 65536)) 65536))) % 4294967296 = pair a b := by
  have ha := Int.tmod_lt_of_pos a (b := 65536) (by decide)
  have ha' := Int.lt_tmod_of_pos a (b := 65536) (by decide)
  have hb := Int.tmod_lt_of_pos b (b := 65536) (by decide)
  have hb' := Int.lt_tmod_of_pos b (b := 65536) (by decide)
  rw [w64 (x := Int.tmod b 65536 + 65536) (by omega) (by omega), w64 (x := Int.tmod a 65536 + 65536) (by omega) (by omega), tmod_pos _ _ (by decide), tmod_pos _ _ (by decide)]
  rw [w64 (x := b % 65536 * 65536) (by omega) (by omega), w64 (by omega) (by omega)]
  unfold pair; omega
theorem pair_impl (a b : Int) : bits .or .u32 ((((bits .and .i64 b 65535) % 4294967296) * 65536) % 4294967296) ((bits .and .i64 a 65535) % 4294967296) = pair a b := by
  rw [and65535, and65535, or_join32 16]
  · unfold pair; omega
  all_goals omega
theorem pair_range (a b : Int) : 0 ≤ pair a b ∧ pair a b < 4294967296 := by unfold pair; omega
theorem pair_congr {a b c d : Int} (h : a % 65536 = c % 65536) (h' : b % 65536 = d % 65536) : pair a b = pair c d := by unfold pair; rw [h, h']
theorem pair_mod (a b : Int) : pair a b % 65536 = a % 65536 := by unfold pair; omega
theorem pair_div (a b : Int) : pair a b / 65536 = b % 65536 := by unfold pair; omega
theorem w64_16 (x : Int) : wrap64 x % 65536 = x % 65536 := w64_emod x (by decide)

end Go.Proofs.YtbkodnhnadkhdaaDoor.Arith
