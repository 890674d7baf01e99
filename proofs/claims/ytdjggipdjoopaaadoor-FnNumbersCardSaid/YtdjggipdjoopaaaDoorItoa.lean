/- A numeral read back by the library's Atoi. Plain law: no program, no world. No condition. -/
import Derived.Lib.ItoaNum
import Derived.Lib.ItoaLen
import Derived.Lib.AtoiAllCases
import Derived.Test.YtdjggipdjoopaaaDoorLib
namespace Go.Proofs.YtdjggipdjoopaaaDoor.Itoa
open Go Go.RowKit
set_option linter.unusedVariables false
def itoaB (n : Int) : ByteArray := ⟨(Lib.itoa n).toArray⟩
theorem digit_toNat (d : Nat) (h : d < 10) : (UInt8.ofNat (48 + d)).toNat = 48 + d := by
  rw [UInt8.toNat_ofNat']; omega

theorem parse_dec (u : Nat) : u < 18446744073709551616 → ∀ l, Lib.parseUint10 0 (Lib.decDigits u ++ l) = Lib.parseUint10 u l := by
  induction u using Nat.strongRecOn with
  | _ u ih =>
    intro hu l
    by_cases h : u < 10
    · rw [Lib.decDigits, dif_pos h]
      simp only [List.singleton_append, Lib.parseUint10, digit_toNat u h]
      rw [if_pos (by omega), if_neg (by omega), if_neg (by omega)]
      congr 1
      omega
    · rw [Lib.decDigits, dif_neg h, List.append_assoc, ih (u / 10) (by omega) (by omega)]
      have hd := Nat.mod_lt u (show 0 < 10 by decide)
      simp only [List.singleton_append, Lib.parseUint10, digit_toNat (u % 10) hd]
      rw [if_pos (by omega), if_neg (by omega), if_neg (by omega)]
      congr 1
      omega

theorem dec_ne (u : Nat) : Lib.decDigits u ≠ [] := by
  intro h
  have := Lib.decDigits_length u
  have := Lib.nDigits_pos u
  rw [h] at *
  simp at *
  omega

theorem dec_at (u t : Nat) (h : t < (Lib.decDigits u).length) : ((Lib.decDigits u)[t]).toNat = 48 + u / 10 ^ (Lib.nDigits u - 1 - t) % 10 := by
  have e := Lib.decDigits_eq u
  have : (Lib.decDigits u)[t] = Lib.dg u (Lib.nDigits u - 1 - t) := by
    have h2 : (Lib.decDigits u)[t]? = some (Lib.decDigits u)[t] := List.getElem?_eq_getElem h
    have h3 : (Lib.decDigits u)[t]? = some (Lib.dg u (Lib.nDigits u - 1 - t)) := by
      rw [Lib.decDigits_length] at h
      rw [e, List.getElem?_map, List.getElem?_range h]
      rfl
    rw [h2] at h3
    exact Option.some.inj h3
  rw [this]
  exact digit_toNat _ (Nat.mod_lt _ (by decide))

theorem mag_dec (u : Nat) (hu : u < 18446744073709551616) : Lib.parseMag (Lib.decDigits u) = .ok u := by
  unfold Lib.parseMag
  rw [if_neg (dec_ne u)]
  have := parse_dec u hu []
  rw [List.append_nil] at this
  exact this

theorem atoi_itoa (n : Int) (h0 : -9223372036854775808 ≤ n) (h1 : n ≤ 9223372036854775807) : Lib.atoiAll (Lib.itoa n) = .ok n := by
  unfold Lib.itoa
  by_cases h : n < 0
  · rw [if_pos h, Lib.atoiAll_minus, mag_dec _ (by omega)]
    unfold Lib.signed
    simp only
    rw [if_neg (by omega)]
    congr 1
    omega
  · rw [if_neg h]
    have hm := mag_dec n.toNat (by omega)
    cases hd : Lib.decDigits n.toNat with
    | nil => exact absurd hd (dec_ne _)
    | cons c r =>
      have hc : c.toNat = 48 + n.toNat / 10 ^ (Lib.nDigits n.toNat - 1 - 0) % 10 := by
        have := dec_at n.toNat 0 (by rw [hd]; simp)
        simpa [hd] using this
      have hlt := Nat.mod_lt (n.toNat / 10 ^ (Lib.nDigits n.toNat - 1 - 0)) (show 0 < 10 by decide)
      rw [Lib.atoiAll_plain c r (by omega) (by omega), ← hd, hm]
      unfold Lib.signless
      simp only
      rw [if_neg (by omega)]
      congr 1
      omega


end Go.Proofs.YtdjggipdjoopaaaDoor.Itoa
