/- What spec.DecText's loop tells: the library's decimal numeral. Plain law: no program, no world. No condition. -/
import Derived.Test.YtdjggipdjoopaaaDoorPDnx2
import Derived.Lib.ItoaNum
import Derived.Lib.ItoaLen
import Derived.Lib.ItoaMem
import Derived.Test.YtdjggipdjoopaaaDoorArith
namespace Go.Proofs.YtdjggipdjoopaaaDoor.PDn
open Go Go.RowKit Go.Proofs.YtdjggipdjoopaaaDoor.Arith Go.Proofs.YtdjggipdjoopaaaDoorW.PrintWords Go.Proofs.YtdjggipdjoopaaaDoorW.PrintLast
set_option linter.unusedVariables false

/-- A numeral as a string. -/
def decB (u : Nat) : ByteArray := ⟨(Lib.decDigits u).toArray⟩
def itoaB (n : Int) : ByteArray := ⟨(Lib.itoa n).toArray⟩

theorem ba_ext {a b : ByteArray} (h : a.data.toList = b.data.toList) : a = b := by
  cases a; cases b; simp_all

theorem piece (d : Nat) (h : d < 10) : (⟨#[48, 49, 50, 51, 52, 53, 54, 55, 56, 57]⟩ : ByteArray).extract d (d + 1) = ⟨#[UInt8.ofNat (48 + d)]⟩ := by
  have : ∀ i : Fin 10, ((⟨#[48, 49, 50, 51, 52, 53, 54, 55, 56, 57]⟩ : ByteArray).extract i.val (i.val + 1)).data.toList = [UInt8.ofNat (48 + i.val)] := by decide +kernel
  exact ba_ext (this ⟨d, h⟩)

theorem decB_big {u : Nat} (h : ¬ u < 10) (x : ByteArray) : decB (u / 10) ++ ((⟨#[UInt8.ofNat (48 + u % 10)]⟩ : ByteArray) ++ x) = decB u ++ x := by
  apply ba_ext
  unfold decB
  rw [Lib.decDigits.eq_1 u, dif_neg h]
  simp [ByteArray.data_append]

theorem decB_small {u : Nat} (h : u < 10) : decB u = ⟨#[UInt8.ofNat (48 + u)]⟩ := by
  unfold decB
  rw [Lib.decDigits, dif_pos h]

theorem tm {x : Int} {u : Nat} (h : x.natAbs = u) : (0 ≤ x ∧ Int.tmod x 10 = ((u % 10 : Nat) : Int) ∧ Int.tdiv x 10 = ((u / 10 : Nat) : Int)) ∨ (x < 0 ∧ Int.tmod x 10 = -((u % 10 : Nat) : Int) ∧ Int.tdiv x 10 = -((u / 10 : Nat) : Int)) := by
  rcases Int.le_total 0 x with h0 | h0
  · left
    obtain rfl : x = (u : Int) := by omega
    exact ⟨h0, rfl, rfl⟩
  · by_cases hx : x = 0
    · subst hx
      left
      obtain rfl : u = 0 := by simpa using h.symm
      exact ⟨Int.le_refl _, rfl, rfl⟩
    · right
      obtain rfl : x = -(u : Int) := by omega
      refine ⟨by omega, ?_, ?_⟩
      · rw [Int.neg_tmod]; rfl
      · rw [Int.neg_tdiv]; rfl

theorem dec_last (k : Nat) (x0 : Int) (x3 : ByteArray) (hs : x3.size ≤ 1000) : spec_DecText.l0 (k + 1) x0 x3 0 = some (if x0 < 0 then (⟨#[45]⟩ : ByteArray) ++ x3 else x3) := by
  unfold spec_DecText.l0
  rw [if_pos rfl]
  by_cases h : x0 < 0
  · rw [if_pos h, if_pos (by omega), if_pos h]
  · rw [if_neg h, if_neg h]

theorem dec_step (x0 x4 : Int) (x3 : ByteArray) (u : Nat) (h : x4.natAbs = u) (hu : 1 ≤ u) (hm : u ≤ 9223372036854775808) (hm4 : x4 ≤ 9223372036854775807) (hs : x3.size ≤ 1000) :
    ∃ y : Int, y.natAbs = u / 10 ∧ y ≤ 9223372036854775807 ∧ ∀ k, spec_DecText.l0 (k + 1) x0 x3 x4 = spec_DecText.l0 k x0 ((⟨#[UInt8.ofNat (48 + u % 10)]⟩ : ByteArray) ++ x3) y := by
  have hd : u % 10 < 10 := Nat.mod_lt _ (by decide)
  have hne : x4 ≠ 0 := by omega
  have hpc := piece (u % 10) hd
  have one : (⟨#[UInt8.ofNat (48 + u % 10)]⟩ : ByteArray).size = 1 := rfl
  rcases tm h with ⟨h0, e1, e2⟩ | ⟨h0, e1, e2⟩
  · refine ⟨((u / 10 : Nat) : Int), by omega, by omega, fun k => ?_⟩
    conv => lhs; unfold spec_DecText.l0
    have w1 : wrap64 (((u % 10 : Nat) : Int) + 1) = ((u % 10 + 1 : Nat) : Int) := by rw [w64 (by omega) (by omega)]; omega
    have w2 : wrap64 ((u / 10 : Nat) : Int) = ((u / 10 : Nat) : Int) := w64 (by omega) (by omega)
    rw [if_neg hne, e1, e2, if_neg (by omega), if_pos (by omega), w1, if_pos (by omega), if_pos (by omega)]
    simp only [Int.toNat_natCast, hpc, one, w2]
    rw [if_pos (by omega)]
  · refine ⟨-((u / 10 : Nat) : Int), by omega, by omega, fun k => ?_⟩
    conv => lhs; unfold spec_DecText.l0
    have w0 : wrap64 (-(-((u % 10 : Nat) : Int))) = ((u % 10 : Nat) : Int) := by rw [w64 (by omega) (by omega)]; omega
    have w1 : wrap64 (((u % 10 : Nat) : Int) + 1) = ((u % 10 + 1 : Nat) : Int) := by rw [w64 (by omega) (by omega)]; omega
    have w2 : wrap64 (-((u / 10 : Nat) : Int)) = -((u / 10 : Nat) : Int) := w64 (by omega) (by omega)
    rw [if_neg hne, e1, e2]
    by_cases hz : -((u % 10 : Nat) : Int) < 0
    · rw [if_pos hz, w0, if_pos (by omega), w1, if_pos (by omega), if_pos (by omega)]
      simp only [Int.toNat_natCast, hpc, one, w2]
      rw [if_pos (by omega)]
    · have ez : -((u % 10 : Nat) : Int) = ((u % 10 : Nat) : Int) := by omega
      rw [if_neg hz, ez, if_pos (by omega), w1, if_pos (by omega), if_pos (by omega)]
      simp only [Int.toNat_natCast, hpc, one, w2]
      rw [if_pos (by omega)]

theorem dec_loop (x0 : Int) (u : Nat) : 1 ≤ u → u ≤ 9223372036854775808 → ∀ (x4 : Int) (x3 : ByteArray), x4.natAbs = u → x4 ≤ 9223372036854775807 → x3.size + Lib.nDigits u ≤ 1000 →
    ∃ k, spec_DecText.l0 k x0 x3 x4 = some (if x0 < 0 then (⟨#[45]⟩ : ByteArray) ++ (decB u ++ x3) else decB u ++ x3) := by
  induction u using Nat.strongRecOn with
  | _ u ih =>
    intro h1 h2 x4 x3 hx hx4 hs
    by_cases hb : u < 10
    · rw [Lib.nDigits_small hb] at hs
      obtain ⟨y, hy, hy4, e⟩ := dec_step x0 x4 x3 u hx h1 h2 hx4 (by omega)
      obtain rfl : y = 0 := by omega
      refine ⟨2, ?_⟩
      rw [e, dec_last 0 _ _ (by rw [ByteArray.size_append]; show 1 + x3.size ≤ 1000; omega), decB_small hb, Nat.mod_eq_of_lt hb]
    · rw [Lib.nDigits_big hb] at hs
      have hsz : (((⟨#[UInt8.ofNat (48 + u % 10)]⟩ : ByteArray) ++ x3)).size = 1 + x3.size := by rw [ByteArray.size_append]; rfl
      obtain ⟨y, hy, hy4, e⟩ := dec_step x0 x4 x3 u hx h1 h2 hx4 (by omega)
      obtain ⟨k, hk⟩ := ih (u / 10) (by omega) (by omega) (by omega) y ((⟨#[UInt8.ofNat (48 + u % 10)]⟩ : ByteArray) ++ x3) hy hy4 (by omega)
      refine ⟨k + 1, ?_⟩
      rw [e, hk, decB_big hb]

theorem DecText_eq (n : Int) (h0 : -9223372036854775808 ≤ n) (h1 : n ≤ 9223372036854775807) : ∃ k, spec_DecText.f k n = some (itoaB n) := by
  unfold spec_DecText.f
  by_cases hz : n = 0
  · subst hz
    exact ⟨0, by rw [if_pos rfl]; congr 1; apply ba_ext; show _ = Lib.itoa 0; unfold Lib.itoa; rw [if_neg (by omega)]; show _ = Lib.decDigits 0; rw [Lib.decDigits, dif_pos (by omega)]; rfl⟩
  · have hn := Lib.nDigits_le20 n.natAbs (by omega)
    obtain ⟨k, hk⟩ := dec_loop n n.natAbs (by omega) (by omega) n (⟨#[]⟩ : ByteArray) rfl h1 (by show 0 + _ ≤ _; omega)
    refine ⟨k, ?_⟩
    rw [if_neg hz, hk]
    congr 1
    apply ba_ext
    unfold itoaB Lib.itoa decB
    by_cases hl : n < 0
    · rw [if_pos hl, if_pos hl]; simp [ByteArray.data_append]
    · rw [if_neg hl, if_neg hl]
      have : n.natAbs = n.toNat := by omega
      simp [ByteArray.data_append, this]

end Go.Proofs.YtdjggipdjoopaaaDoor.PDn
