/- The law's own marks: what marking a row makes of it, and that the marks are found again. Condition: at most 2^21 elements. -/
import Derived.Test.YtbkodnhnadkhdaaPTkx10
import Derived.Test.YtbkodnhnadkhdaaPTkx11
import Derived.Test.YtbkodnhnadkhdaaLib
namespace Go.Proofs.Ytbkodnhnadkhdaa.Mark
open Go Go.RowKit Go.Proofs.Ytbkodnhnadkhdaa.PTk Go.Proofs.YtbkodnhnadkhdaaW.PrintWords Go.Proofs.YtbkodnhnadkhdaaW.PrintMore Go.Proofs.Ytbkodnhnadkhdaa.Arith Go.Proofs.Ytbkodnhnadkhdaa.Lib
set_option linter.unusedSimpArgs false
set_option linter.unusedVariables false

def mk (M : Int) (n : Nat) : List Int := (List.range n).map fun j => (((j + 1 : Nat) : Int)) % M
theorem mk_length (M : Int) (n : Nat) : (mk M n).length = n := by simp [mk]
theorem mk_rd (M : Int) (n i : Nat) (h : i < n) : rd (mk M n) (i : Int) = ((i + 1 : Nat) : Int) % M := by
  rw [rd_lt _ _ (by rw [mk_length]; exact h)]; simp [mk]
theorem mk_take (M : Int) (n i : Nat) (h : i ≤ n) : (mk M n).take i = mk M i := by
  unfold mk
  rw [← List.map_take, List.take_range, Nat.min_eq_left h]
theorem mk_succ (M : Int) (i : Nat) : mk M (i + 1) = mk M i ++ [((i + 1 : Nat) : Int) % M] := by
  unfold mk; rw [List.range_succ, List.map_append]; rfl
theorem set_mark (M : Int) (x : List Int) (i : Nat) (hi : i < x.length) (ht : x.take i = mk M i) : (x.set i (((i + 1 : Nat) : Int) % M)).take (i + 1) = mk M (i + 1) := by
  rw [List.take_succ_eq_append_getElem (by rw [List.length_set]; exact hi), List.getElem_set_self, List.take_set_of_le (Nat.le_refl i), ht, mk_succ]
theorem mark_loopByteS (n : Nat) (hn : n ≤ 2097152) (d : Nat) : ∀ (i : Nat) (x : List Int), i + d = n → x.length = n → x.take i = mk 256 i → Ev (fun k => laws_markByteS.l0 k x ((i + 1 : Nat) : Int) i) (((n + 1 : Nat) : Int), mk 256 n) := by
  induction d with
  | zero =>
    intro i x h hx ht
    refine ev_at fun k => ?_
    simp only [laws_markByteS.l0]
    rw [if_neg (by omega)]
    rw [List.take_of_length_le (by omega)] at ht
    obtain rfl : i = n := by omega
    rw [ht]
  | succ d ih =>
    intro i x h hx ht
    refine Ev.step (f := fun k => laws_markByteS.l0 k (x.set i (((i + 1 : Nat) : Int) % 256)) ((i + 1 + 1 : Nat) : Int) ((i + 1 : Nat) : Int)) (fun k => ?_) (ih (i + 1) _ (by omega) (by rw [List.length_set]; exact hx) (set_mark 256 x i (by omega) ht))
    simp only [laws_markByteS.l0]
    rw [if_pos (by omega), if_pos (by omega), w64s i (by omega), w64s (i + 1) (by omega), Int.toNat_natCast]
theorem mark_evByteS (l : List Int) (hn : l.length ≤ 2097152) : Ev (fun k => laws_markByteS.f k l 1) (((l.length + 1 : Nat) : Int), mk 256 l.length) :=
  mark_loopByteS l.length hn l.length 0 l (by omega) rfl (by simp [mk])
theorem held_loopByteS (n : Nat) (hn : n ≤ 2097152) (d : Nat) : ∀ (i : Nat), i + d = n → Ev (fun k => laws_heldByteS.l0 k (mk 256 n) ((i + 1 : Nat) : Int) i) ((n + 1 : Nat) : Int) := by
  induction d with
  | zero =>
    intro i h
    refine ev_at fun k => ?_
    simp only [laws_heldByteS.l0]
    rw [if_neg (by rw [mk_length]; omega), show i = n by omega]
  | succ d ih =>
    intro i h
    refine Ev.step (f := fun k => laws_heldByteS.l0 k (mk 256 n) ((i + 1 + 1 : Nat) : Int) ((i + 1 : Nat) : Int)) (fun k => ?_) (ih (i + 1) (by omega))
    simp only [laws_heldByteS.l0]
    rw [if_pos (by rw [mk_length]; omega), if_pos (by omega), if_pos (mk_rd 256 n i (by omega)), w64s i (by omega), w64s (i + 1) (by omega)]
theorem held_evByteS (n : Nat) (hn : n ≤ 2097152) : Ev (fun k => laws_heldByteS.f k (mk 256 n) 1) ((n + 1 : Nat) : Int) := held_loopByteS n hn n 0 (by omega)
theorem eq_loopByteS (l : List Int) (hl : l.length < 9223372036854775807) (d : Nat) : ∀ i : Nat, i + d = l.length → Ev (fun k => laws_eqByteS.l0 k l l i) true := by
  induction d with
  | zero =>
    intro i h
    refine ev_at fun k => ?_
    simp only [laws_eqByteS.l0]
    rw [if_neg (by omega)]
  | succ d ih =>
    intro i h
    refine Ev.step (f := fun k => laws_eqByteS.l0 k l l ((i + 1 : Nat) : Int)) (fun k => ?_) (ih (i + 1) (by omega))
    simp only [laws_eqByteS.l0]
    rw [if_pos (by omega), if_pos (by omega), if_pos (by omega), w64s i (by omega)]; simp
theorem eq_evByteS (l : List Int) (hl : l.length < 9223372036854775807) : Ev (fun k => laws_eqByteS.f k l l) true := by
  unfold laws_eqByteS.f
  simp only [if_true]
  exact eq_loopByteS l hl l.length 0 (by omega)

end Go.Proofs.Ytbkodnhnadkhdaa.Mark
