/- A numeral read back: by the library's Atoi, and by spec.DecNum's loop. Plain law: no program, no world. No condition. -/
import Derived.Test.YtdjggipdjoopaaaDoorPDnx2
import Derived.Lib.AtoiAllCases
import Derived.Test.YtdjggipdjoopaaaDoorDec
import Derived.Test.YtdjggipdjoopaaaDoorLib
namespace Go.Proofs.YtdjggipdjoopaaaDoor.PDn
open Go Go.RowKit Go.Proofs.YtdjggipdjoopaaaDoor.Arith Go.Proofs.YtdjggipdjoopaaaDoorW.PrintWords Go.Proofs.YtdjggipdjoopaaaDoorW.PrintLast
set_option linter.unusedVariables false

theorem bt_get (s : ByteArray) (i : Nat) (h : i < s.data.toList.length) : bt s (i : Int) = ((s.data.toList[i]).toNat : Int) := by
  have h2 : i < s.size := by simpa using h
  unfold bt
  rw [Int.toNat_natCast, dif_pos h2]
  simp [ByteArray.getElem_eq_getElem_data]

theorem digit_toNat (d : Nat) (h : d < 10) : (UInt8.ofNat (48 + d)).toNat = 48 + d := by
  rw [UInt8.toNat_ofNat']; omega

theorem parse_dec (u : Nat) : u < 18446744073709551616 → ∀ l, Lib.parseUint10 0 (Lib.decDigits u ++ l) = Lib.parseUint10 u l := by
  induction u using Nat.strongRecOn with
  | _ u ih =>
    intro hu l
    by_cases h : u < 10
    · rw [Lib.decDigits, dif_pos h]
      simp only [List.singleton_append, Lib.parseUint10, digit_toNat u h]
      rw [if_pos (by omega), if_neg (by omega), if_neg (by omega)]
      congr 1
      omega
    · rw [Lib.decDigits, dif_neg h, List.append_assoc, ih (u / 10) (by omega) (by omega)]
      have hd := Nat.mod_lt u (show 0 < 10 by decide)
      simp only [List.singleton_append, Lib.parseUint10, digit_toNat (u % 10) hd]
      rw [if_pos (by omega), if_neg (by omega), if_neg (by omega)]
      congr 1
      omega

theorem dec_ne (u : Nat) : Lib.decDigits u ≠ [] := by
  intro h
  have := Lib.decDigits_length u
  have := Lib.nDigits_pos u
  rw [h] at *
  simp at *
  omega

theorem dec_at (u t : Nat) (h : t < (Lib.decDigits u).length) : ((Lib.decDigits u)[t]).toNat = 48 + u / 10 ^ (Lib.nDigits u - 1 - t) % 10 := by
  have e := Lib.decDigits_eq u
  have : (Lib.decDigits u)[t] = Lib.dg u (Lib.nDigits u - 1 - t) := by
    have h2 : (Lib.decDigits u)[t]? = some (Lib.decDigits u)[t] := List.getElem?_eq_getElem h
    have h3 : (Lib.decDigits u)[t]? = some (Lib.dg u (Lib.nDigits u - 1 - t)) := by
      rw [Lib.decDigits_length] at h
      rw [e, List.getElem?_map, List.getElem?_range h]
      rfl
    rw [h2] at h3
    exact Option.some.inj h3
  rw [this]
  exact digit_toNat _ (Nat.mod_lt _ (by decide))

theorem mag_dec (u : Nat) (hu : u < 18446744073709551616) : Lib.parseMag (Lib.decDigits u) = .ok u := by
  unfold Lib.parseMag
  rw [if_neg (dec_ne u)]
  have := parse_dec u hu []
  rw [List.append_nil] at this
  exact this

theorem atoi_itoa (n : Int) (h0 : -9223372036854775808 ≤ n) (h1 : n ≤ 9223372036854775807) : Lib.atoiAll (Lib.itoa n) = .ok n := by
  unfold Lib.itoa
  by_cases h : n < 0
  · rw [if_pos h, Lib.atoiAll_minus, mag_dec _ (by omega)]
    unfold Lib.signed
    simp only
    rw [if_neg (by omega)]
    congr 1
    omega
  · rw [if_neg h]
    have hm := mag_dec n.toNat (by omega)
    cases hd : Lib.decDigits n.toNat with
    | nil => exact absurd hd (dec_ne _)
    | cons c r =>
      have hc : c.toNat = 48 + n.toNat / 10 ^ (Lib.nDigits n.toNat - 1 - 0) % 10 := by
        have := dec_at n.toNat 0 (by rw [hd]; simp)
        simpa [hd] using this
      have hlt := Nat.mod_lt (n.toNat / 10 ^ (Lib.nDigits n.toNat - 1 - 0)) (show 0 < 10 by decide)
      rw [Lib.atoiAll_plain c r (by omega) (by omega), ← hd, hm]
      unfold Lib.signless
      simp only
      rw [if_neg (by omega)]
      congr 1
      omega

/-- The number that a row of digits tells, digit for digit. -/
theorem in_digit (c : Int) (h0 : 48 ≤ c) (h1 : c ≤ 57) : spec_l01In.f (wrap64 ((wrap64 c) - 48)) 0 9 = some true := by
  unfold spec_l01In.f
  rw [w64 (x := c) (by omega) (by omega), w64 (by omega) (by omega), if_pos (by omega)]
  congr 1
  simp
  omega
theorem in_else (c : Int) (hc : 0 ≤ c ∧ c ≤ 255) : spec_l01In.f (wrap64 ((wrap64 c) - 48)) 0 9 = some (decide (48 ≤ c ∧ c ≤ 57)) := by
  unfold spec_l01In.f
  rw [w64 (x := c) (by omega) (by omega), w64 (by omega) (by omega)]
  by_cases h : c - 48 ≥ 0
  · rw [if_pos h]; congr 1; rw [decide_eq_decide]; omega
  · rw [if_neg h]; congr 1; symm; rw [decide_eq_false_iff_not]; omega

theorem num_step (k : Nat) (s : ByteArray) (most x6 : Int) (y i : Nat) (hi : i < s.size) (hs : s.size ≤ 14) (hy : y < 100000000000000) :
    spec_DecNum.l0 (k + 1) s most x6 y i = if 48 ≤ bt s i ∧ bt s i ≤ 57 then spec_DecNum.l0 k s most x6 ((10 * y + ((bt s i).toNat - 48) : Nat) : Int) ((i + 1 : Nat) : Int) else some (0, false) := by
  have hb := bt_range s i
  conv => lhs; unfold spec_DecNum.l0
  rw [if_pos (by omega), if_pos (by omega), in_else _ hb]
  simp only [Option.bind_some, decide_eq_true_eq]
  by_cases h : 48 ≤ bt s i ∧ bt s i ≤ 57
  · rw [if_pos h, if_pos h]
    rw [w64 (x := bt s i) (by omega) (by omega), w64 (x := bt s i - 48) (by omega) (by omega), w64 (x := 10 * (y : Int)) (by omega) (by omega), w64 (by omega) (by omega), w64 (by omega) (by omega)]
    congr 1
    omega
  · rw [if_neg h, if_neg h]

/-- What stands behind the digits: the number is told back and held against the string. -/
theorem num_end (s : ByteArray) (most x6 : Int) (y : Nat) (hy : y < 1000000000000000) (hm : 0 ≤ most ∧ most ≤ 1000000000000) (n : Int) (hn : n = if x6 = 1 then -(y : Int) else y) :
    Ev (fun k => spec_DecNum.l0 k s most x6 y s.size) (if itoaB n = s ∧ n ≤ most ∧ -most ≤ n then (n, true) else (0, false)) := by
  have w0 : wrap64 (-(y : Int)) = -(y : Int) := w64 (by omega) (by omega)
  have w1 : wrap64 (-most) = -most := w64 (by omega) (by omega)
  have hr : -9223372036854775808 ≤ n ∧ n ≤ 9223372036854775807 := by rw [hn]; split <;> omega
  obtain ⟨q, hq⟩ := DecText_eq n hr.1 hr.2
  have hE : Ev (fun k => spec_DecText.f k n) (itoaB n) := Ev.of (fun k => spec_DecText.mono _ _) hq
  have key : Ev (fun k => (spec_DecText.f k n).bind fun t107 => (if t107.toList = s.toList then (if n > most then (some ((0 : Int), false)) else (if n < -most then (some (0, false)) else (some (n, true)))) else (some (0, false)))) (if itoaB n = s ∧ n ≤ most ∧ -most ≤ n then (n, true) else (0, false)) := by
    refine Ev.bind hE ?_
    by_cases he : itoaB n = s
    · rw [if_pos (by rw [he])]
      by_cases h1 : n > most
      · rw [if_pos h1, if_neg (by omega)]; exact Ev.now _
      · rw [if_neg h1]
        by_cases h2 : n < -most
        · rw [if_pos h2, if_neg (by omega)]; exact Ev.now _
        · rw [if_neg h2, if_pos ⟨he, by omega, by omega⟩]; exact Ev.now _
    · rw [if_neg (fun h => he (Lib.toList_inj h)), if_neg (fun h => he h.1)]; exact Ev.now _
  refine Ev.step (fun k => ?_) key
  conv => lhs; unfold spec_DecNum.l0
  rw [if_neg (by omega)]
  by_cases h6 : x6 = 1
  · rw [if_pos h6] at hn
    rw [if_pos h6, w0, w1, ← hn]
  · rw [if_neg h6] at hn
    rw [if_neg h6, w1, ← hn]

/-- Where no number of the bounds is spelt by the string, nothing is found. -/
theorem num_none (s : ByteArray) (most x6 : Int) (hs : s.size ≤ 14) (hm : 0 ≤ most ∧ most ≤ 1000000000000) (hP : ¬ ∃ v : Int, itoaB v = s ∧ v ≤ most ∧ -most ≤ v) (d : Nat) :
    ∀ (i y : Nat), i + d = s.size → y < 10 ^ i → Ev (fun k => spec_DecNum.l0 k s most x6 y i) (0, false) := by
  induction d with
  | zero =>
    intro i y hi hy
    obtain rfl : i = s.size := by omega
    have hp : 10 ^ s.size ≤ 10 ^ 14 := Nat.pow_le_pow_right (by decide) hs
    have := num_end s most x6 y (by omega) hm _ rfl
    rw [if_neg (fun h => hP ⟨_, h⟩)] at this
    exact this
  | succ d ih =>
    intro i y hi hy
    have hp : 10 ^ i ≤ 10 ^ 14 := Nat.pow_le_pow_right (by decide) (by omega)
    by_cases hc : 48 ≤ bt s i ∧ bt s i ≤ 57
    · refine Ev.step (fun k => ?_) (ih (i + 1) (10 * y + ((bt s i).toNat - 48)) (by omega) (by rw [Nat.pow_succ]; omega))
      rw [num_step k s most x6 y i (by omega) hs (by omega), if_pos hc]
    · refine Ev.step (fun k => ?_) (Ev.now (0, false))
      rw [num_step k s most x6 y i (by omega) hs (by omega), if_neg hc]

/-- Along the digits of u the loop holds u's head. -/
theorem num_some (s : ByteArray) (most x6 : Int) (f u : Nat) (hs : s.size ≤ 14) (hsz : s.size = f + Lib.nDigits u) (hu : u ≤ 1000000000000) (hat : ∀ t, t < Lib.nDigits u → bt s ((f + t : Nat) : Int) = ((48 + u / 10 ^ (Lib.nDigits u - 1 - t) % 10 : Nat) : Int))
    {R : Int × Bool} (hend : Ev (fun k => spec_DecNum.l0 k s most x6 u s.size) R) (d : Nat) :
    ∀ t, t + d = Lib.nDigits u → Ev (fun k => spec_DecNum.l0 k s most x6 ((u / 10 ^ d : Nat) : Int) ((f + t : Nat) : Int)) R := by
  induction d with
  | zero =>
    intro t ht
    rw [show f + t = s.size by omega, Nat.pow_zero, Nat.div_one]
    exact hend
  | succ d ih =>
    intro t ht
    have hb := hat t (by omega)
    rw [show Lib.nDigits u - 1 - t = d by omega] at hb
    have hlt := Nat.mod_lt (u / 10 ^ d) (show 0 < 10 by decide)
    have hq : u / 10 ^ (d + 1) = u / 10 ^ d / 10 := by rw [Nat.pow_succ, Nat.div_div_eq_div_mul]
    have hle : u / 10 ^ d ≤ u := Nat.div_le_self _ _
    refine Ev.step (fun k => ?_) (ih (t + 1) (by omega))
    rw [num_step k s most x6 _ (f + t) (by omega) hs (by omega), if_pos (by rw [hb]; omega), hb]
    congr 1
    · congr 1
      rw [Int.toNat_natCast, hq]
      omega

end Go.Proofs.YtdjggipdjoopaaaDoor.PDn
