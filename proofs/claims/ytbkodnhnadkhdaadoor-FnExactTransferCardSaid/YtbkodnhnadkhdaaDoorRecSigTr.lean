/- A signature handed in: copied into the program's own type it is equal again; its size is small or the law says true at once; what SigLen and SigOk give. No condition but the lengths. -/
import Derived.Test.YtbkodnhnadkhdaaDoorPTrx1
import Derived.Test.YtbkodnhnadkhdaaDoorPTrx9
import Derived.Test.YtbkodnhnadkhdaaDoorLib
namespace Go.Proofs.YtbkodnhnadkhdaaDoor.RecSig
open Go Go.RowKit Go.Proofs.YtbkodnhnadkhdaaDoor.PTr Go.Proofs.YtbkodnhnadkhdaaDoorW.PrintWords Go.Proofs.YtbkodnhnadkhdaaDoorW.PrintMore Go.Proofs.YtbkodnhnadkhdaaDoor.Arith Go.Proofs.YtbkodnhnadkhdaaDoor.Lib
set_option linter.unusedSimpArgs false
set_option linter.unusedVariables false

theorem getD_at {α : Type} (z : α) (l : List α) (i : Nat) (h : i < l.length) : l.getD i z = l[i] := by
 simp [List.getD_eq_getElem?_getD, List.getElem?_eq_getElem h]
theorem rdS (l : List ByteArray) (i : Nat) (h : i < l.length) : rdOf ByteArray.empty l (i : Int) = l[i] := by
 unfold rdOf; rw [Int.toNat_natCast]; exact getD_at _ _ _ h
/-- The cut is one that a text can have. -/
def isCut (a b : Int) (n : Nat) : Bool := decide (1 ≤ a ∧ a ≤ 256 ∧ 0 ≤ b ∧ b ≤ a - 1 ∧ n ≤ 2500)
theorem in_ (x y z : Int) : spec_l01In.f x y z = some (decide (y ≤ x ∧ x ≤ z)) := by
 unfold spec_l01In.f
 by_cases h : y ≤ x <;> simp [h]
theorem within_ (x y z : Int) : impl_within.f x y z = some (decide (y ≤ x ∧ x ≤ z)) := by
 unfold impl_within.f
 by_cases h : y ≤ x <;> simp [h]
/-- A signature's length. -/
def slen (a b : Int) (n : Nat) : Int := if isCut a b n then (if n = 0 then 0 else if b > 0 then a * n + b - a else a * n) else 0
theorem mul_bound {a : Int} {n : Nat} (h0 : 1 ≤ a) (h1 : a ≤ 256) (h2 : n ≤ 2500) : 0 ≤ a * (n : Int) ∧ a * (n : Int) ≤ 640000 :=
 ⟨Int.mul_nonneg (by omega) (by omega), Int.le_trans (Int.mul_le_mul h1 (show (n : Int) ≤ 2500 by omega) (by omega) (by omega)) (by omega)⟩
theorem mul_pos {a : Int} {n : Nat} (h0 : 1 ≤ a) (h2 : n ≠ 0) : a ≤ a * (n : Int) := by
 have := Int.mul_le_mul_of_nonneg_left (show (1 : Int) ≤ (n : Int) by omega) (show 0 ≤ a by omega)
 omega
theorem wa {a : Int} (h0 : 1 ≤ a) (h1 : a ≤ 256) : wrap64 (a - 1) = a - 1 := w64 (by omega) (by omega)
theorem spec_len (a b : Int) (l : List Int) (m : List ByteArray) : Ev (fun k => spec_SigLen.f k a b l m) (slen a b l.length) := by
 unfold spec_SigLen.f
 simp only [in_, Option.bind_some]
 by_cases h : 1 ≤ a ∧ a ≤ 256
 ·
  simp only [h, and_self, decide_true, if_true, wa h.1 h.2]
  by_cases h1 : 0 ≤ b ∧ b ≤ a - 1
  ·
   simp only [h1, and_self, decide_true, if_true]
   by_cases h2 : (l.length : Int) > 2500
   ·
    have : slen a b l.length = 0 := by unfold slen isCut; rw [if_neg]; simp; omega
    rw [this]
    exact ev_at fun k => by simp [spec_SigLen.j0, h2]
   ·
    have hb := mul_bound (n := l.length) h.1 h.2 (by omega)
    have : slen a b l.length = if l.length = 0 then 0 else if b > 0 then a * l.length + b - a else a * l.length := by unfold slen isCut; rw [if_pos]; simp; omega
    rw [this]
    refine ev_at fun k => ?_
    simp only [spec_SigLen.j0, h2, decide_false, Bool.false_eq_true, if_false]
    rw [w64 (x := a * (l.length : Int)) (by omega) (by omega)]
    by_cases h3 : l.length = 0
    ·
     simp [h3]
    ·
     have := mul_pos (n := l.length) h.1 h3
     rw [if_neg h3, if_pos (show a * (l.length : Int) > 0 by omega), w64 (x := a * (l.length : Int) - a) (by omega) (by omega), w64 (by omega) (by omega)]
     by_cases h4 : b > 0
     ·
      rw [if_pos h4, if_pos h4]; congr 1; omega
     ·
      rw [if_neg h4, if_neg h4]
  ·
   have : slen a b l.length = 0 := by unfold slen isCut; rw [if_neg]; simp; omega
   rw [this]
   simp only [h1, decide_false, Bool.false_eq_true, if_false]
   exact ev_at fun k => by simp [spec_SigLen.j0]
 ·
  have : slen a b l.length = 0 := by unfold slen isCut; rw [if_neg]; simp; omega
  rw [this]
  simp only [h, decide_false, Bool.false_eq_true, if_false]
  exact ev_at fun k => by simp [spec_SigLen.j0]
end Go.Proofs.YtbkodnhnadkhdaaDoor.RecSig
