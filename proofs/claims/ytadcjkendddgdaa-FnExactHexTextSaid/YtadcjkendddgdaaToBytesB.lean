/- The law's own helpers over bytes: the copy is the list, and a list equals itself. Condition: the list is short enough for an index to be an int. -/
import Derived.Test.YtadcjkendddgdaaPB2x1
import Derived.Test.YtadcjkendddgdaaPB2x2
import Derived.Test.YtadcjkendddgdaaLib
namespace Go.Proofs.Ytadcjkendddgdaa.ToBytesB
open Go Go.RowKit Go.Proofs.Ytadcjkendddgdaa.PB2 Go.Proofs.YtadcjkendddgdaaW.PrintWords Go.Proofs.Ytadcjkendddgdaa.Arith Go.Proofs.Ytadcjkendddgdaa.Lib
set_option linter.unusedSimpArgs false
set_option linter.unusedVariables false

theorem set_take (x : List Int) (l : List Int) (i : Nat) (hi : i < l.length) (h : x.length = l.length) (ht : x.take i = l.take i) : (x.set i (rd l i)).take (i + 1) = l.take (i + 1) := by
  rw [rd_lt l i hi, List.take_succ_eq_append_getElem (by rw [List.length_set]; omega), List.take_succ_eq_append_getElem hi, List.getElem_set_self, List.take_set_of_le (Nat.le_refl i), ht]
theorem to_loop (l : List Int) (hl : l.length < 9223372036854775807) (d : Nat) : ∀ (i : Nat) (x : List Int), i + d = l.length → x.length = l.length → x.take i = l.take i → Ev (fun k => laws_toByteS.l0 k l x i) l := by
  induction d with
  | zero =>
    intro i x h hx ht
    refine ev_at fun k => ?_
    simp only [laws_toByteS.l0]
    rw [if_neg (by omega)]
    rw [List.take_of_length_le (by omega), List.take_of_length_le (by omega)] at ht
    rw [ht]
  | succ d ih =>
    intro i x h hx ht
    refine Ev.step (f := fun k => laws_toByteS.l0 k l (x.set i (rd l i)) ((i + 1 : Nat) : Int)) (fun k => ?_) (ih (i + 1) _ (by omega) (by rw [List.length_set]; exact hx) (set_take x l i (by omega) hx ht))
    simp only [laws_toByteS.l0]
    rw [if_pos (by omega), if_pos (by omega), if_pos (by omega), w64s i (by omega), Int.toNat_natCast]
theorem to_ev (l : List Int) (hl : l.length ≤ 1048576) : Ev (fun k => laws_toByteS.f k l) l := by
  unfold laws_toByteS.f
  rw [Int.toNat_natCast]
  simp only [if_pos (show (0 : Int) ≤ (l.length : Int) by omega), if_pos (show l.length ≤ 281474976710656 by omega)]
  exact to_loop l (by omega) l.length 0 _ (by omega) (by simp) (by simp)
theorem eq_loop (l : List Int) (hl : l.length < 9223372036854775807) (d : Nat) : ∀ i : Nat, i + d = l.length → Ev (fun k => laws_eqByteS.l0 k l l i) true := by
  induction d with
  | zero =>
    intro i h
    refine ev_at fun k => ?_
    simp only [laws_eqByteS.l0]
    rw [if_neg (by omega)]
  | succ d ih =>
    intro i h
    refine Ev.step (f := fun k => laws_eqByteS.l0 k l l ((i + 1 : Nat) : Int)) (fun k => ?_) (ih (i + 1) (by omega))
    simp only [laws_eqByteS.l0]
    rw [if_pos (by omega), if_pos (by omega), if_pos (by omega), w64s i (by omega)]; simp
theorem eq_ev (l : List Int) (hl : l.length < 9223372036854775807) : Ev (fun k => laws_eqByteS.f k l l) true := by
  unfold laws_eqByteS.f
  simp only [if_pos]
  exact eq_loop l hl l.length 0 (by omega)

end Go.Proofs.Ytadcjkendddgdaa.ToBytesB
