/- A signature handed in: copied into the program's own type it is equal again; its size is small or the law says true at once; what SigLen and SigOk give. No condition but the lengths. -/
import Derived.Test.YtbkodnhnadkhdaaDoorPFtx4
import Derived.Test.YtbkodnhnadkhdaaDoorLib
namespace Go.Proofs.YtbkodnhnadkhdaaDoor.RecSig
open Go Go.RowKit Go.Proofs.YtbkodnhnadkhdaaDoor.PFt Go.Proofs.YtbkodnhnadkhdaaDoorW.PrintWords Go.Proofs.YtbkodnhnadkhdaaDoorW.PrintMore Go.Proofs.YtbkodnhnadkhdaaDoor.Arith Go.Proofs.YtbkodnhnadkhdaaDoor.Lib
set_option linter.unusedSimpArgs false
set_option linter.unusedVariables false

theorem getD_at {α : Type} (z : α) (l : List α) (i : Nat) (h : i < l.length) : l.getD i z = l[i] := by
  simp [List.getD_eq_getElem?_getD, List.getElem?_eq_getElem h]
theorem rdS (l : List ByteArray) (i : Nat) (h : i < l.length) : rdOf ByteArray.empty l (i : Int) = l[i] := by
  unfold rdOf; rw [Int.toNat_natCast]; exact getD_at _ _ _ h
/-- The cut is one that a text can have. -/
def isCut (a b : Int) (n : Nat) : Bool := decide (1 ≤ a ∧ a ≤ 256 ∧ 0 ≤ b ∧ b ≤ a - 1 ∧ n ≤ 2500)
theorem within_ (x y z : Int) : impl_within.f x y z = some (decide (y ≤ x ∧ x ≤ z)) := by
  unfold impl_within.f
  by_cases h : y ≤ x <;> simp [h]
/-- A signature's length. -/
def slen (a b : Int) (n : Nat) : Int := if isCut a b n then (if n = 0 then 0 else if b > 0 then a * n + b - a else a * n) else 0
theorem mul_bound {a : Int} {n : Nat} (h0 : 1 ≤ a) (h1 : a ≤ 256) (h2 : n ≤ 2500) : 0 ≤ a * (n : Int) ∧ a * (n : Int) ≤ 640000 :=
  ⟨Int.mul_nonneg (by omega) (by omega), Int.le_trans (Int.mul_le_mul h1 (show (n : Int) ≤ 2500 by omega) (by omega) (by omega)) (by omega)⟩
theorem mul_pos {a : Int} {n : Nat} (h0 : 1 ≤ a) (h2 : n ≠ 0) : a ≤ a * (n : Int) := by
  have := Int.mul_le_mul_of_nonneg_left (show (1 : Int) ≤ (n : Int) by omega) (show 0 ≤ a by omega)
  omega
theorem wa {a : Int} (h0 : 1 ≤ a) (h1 : a ≤ 256) : wrap64 (a - 1) = a - 1 := w64 (by omega) (by omega)
end Go.Proofs.YtbkodnhnadkhdaaDoor.RecSig
