/- The law's own marks on texts: what marking a list of them makes of it, and that the marks are found again. Condition: at most 2^21 texts. -/
import Derived.Test.YtnfihjebbhjgjaaDoorPPax18
import Derived.Test.YtnfihjebbhjgjaaDoorPPax19
import Derived.Test.YtnfihjebbhjgjaaDoorMarkTok
namespace Go.Proofs.YtnfihjebbhjgjaaDoor.MarkStr
open Go Go.RowKit Go.Proofs.YtnfihjebbhjgjaaDoor.PPa Go.Proofs.YtnfihjebbhjgjaaDoorW.PrintWords Go.Proofs.YtnfihjebbhjgjaaDoorW.PrintMore Go.Proofs.YtnfihjebbhjgjaaDoor.Arith Go.Proofs.YtnfihjebbhjgjaaDoor.Lib Go.Proofs.YtnfihjebbhjgjaaDoor.MarkTok
set_option linter.unusedSimpArgs false
set_option linter.unusedVariables false

theorem rdB (l : List ByteArray) (i : Nat) (h : i < l.length) : rdOf ByteArray.empty l (i : Int) = l[i] := by
  unfold rdOf; rw [Int.toNat_natCast, List.getD_eq_getElem?_getD, List.getElem?_eq_getElem h]; rfl
theorem mks_succ (i : Nat) : mks (i + 1) = mks i ++ [mt ((i + 1 : Nat) : Int)] := by
  unfold mks; rw [List.range_succ, List.map_append]; rfl
theorem mks_at (n i : Nat) (h : i < (mks n).length) : (mks n)[i] = mt ((i + 1 : Nat) : Int) := by simp [mks]
theorem mark_loop (n : Nat) (hn : n ≤ 2097152) (d : Nat) : ∀ (i : Nat) (x : List ByteArray), i + d = n → x.length = n → x.take i = mks i → Ev (fun k => laws_markStringS.l0 k x ((i + 1 : Nat) : Int) i) (((n + 1 : Nat) : Int), mks n) := by
  induction d with
  | zero =>
    intro i x h hx ht
    refine ev_at fun k => ?_
    simp only [laws_markStringS.l0]
    rw [if_neg (by omega)]
    rw [List.take_of_length_le (by omega)] at ht
    obtain rfl : i = n := by omega
    rw [ht]
  | succ d ih =>
    intro i x h hx ht
    have hi : i < x.length := by omega
    refine Ev.step (f := fun k => (laws_markText.f k ((i + 1 : Nat) : Int)).bind fun t => laws_markStringS.l0 k (x.set i t) ((i + 1 + 1 : Nat) : Int) ((i + 1 : Nat) : Int)) (fun k => ?_) (Ev.bind (mt_ev _ (by omega) (by omega)) (ih (i + 1) _ (by omega) (by rw [List.length_set]; exact hx) ?_))
    · simp only [laws_markStringS.l0]
      rw [if_pos (by omega), w64s i (by omega), w64s (i + 1) (by omega), Int.toNat_natCast]
      simp only [if_pos (show (0 : Int) ≤ (i : Int) by omega)]
    · rw [List.take_succ_eq_append_getElem (by rw [List.length_set]; exact hi), List.getElem_set_self, List.take_set_of_le (Nat.le_refl i), ht, mks_succ]
theorem mark_ev (l : List ByteArray) (hn : l.length ≤ 2097152) : Ev (fun k => laws_markStringS.f k l 1) (((l.length + 1 : Nat) : Int), mks l.length) :=
  mark_loop l.length hn l.length 0 l (by omega) rfl (by simp [mks])
theorem held_loop (n : Nat) (hn : n ≤ 2097152) (d : Nat) : ∀ (i : Nat), i + d = n → Ev (fun k => laws_heldStringS.l0 k (mks n) ((i + 1 : Nat) : Int) i) ((n + 1 : Nat) : Int) := by
  induction d with
  | zero =>
    intro i h
    refine ev_at fun k => ?_
    simp only [laws_heldStringS.l0]
    rw [if_neg (by rw [mks_length]; omega), show i = n by omega]
  | succ d ih =>
    intro i h
    have hi : i < (mks n).length := by rw [mks_length]; omega
    refine Ev.step (f := fun k => (laws_markText.f k ((i + 1 : Nat) : Int)).bind fun t => if (mt ((i + 1 : Nat) : Int)).toList = t.toList then laws_heldStringS.l0 k (mks n) ((i + 1 + 1 : Nat) : Int) ((i + 1 : Nat) : Int) else some (-1)) (fun k => ?_) (Ev.bind (mt_ev _ (by omega) (by omega)) ?_)
    · simp only [laws_heldStringS.l0]
      rw [if_pos (by omega), if_pos (by omega), rdB _ i hi, mks_at, w64s i (by omega), w64s (i + 1) (by omega)]
    · simp only [if_true]
      exact ih (i + 1) (by omega)
theorem held_ev (n : Nat) (hn : n ≤ 2097152) : Ev (fun k => laws_heldStringS.f k (mks n) 1) ((n + 1 : Nat) : Int) := held_loop n hn n 0 (by omega)
theorem eq_loop (l : List ByteArray) (hl : l.length < 9223372036854775807) (d : Nat) : ∀ i : Nat, i + d = l.length → Ev (fun k => laws_eqStringS.l0 k l l i) true := by
  induction d with
  | zero =>
    intro i h
    refine ev_at fun k => ?_
    simp only [laws_eqStringS.l0]
    rw [if_neg (by omega)]
  | succ d ih =>
    intro i h
    refine Ev.step (f := fun k => laws_eqStringS.l0 k l l ((i + 1 : Nat) : Int)) (fun k => ?_) (ih (i + 1) (by omega))
    simp only [laws_eqStringS.l0]
    rw [if_pos (by omega), if_pos (by omega), if_pos (by omega), w64s i (by omega)]; simp
theorem eq_ev (l : List ByteArray) (hl : l.length < 9223372036854775807) : Ev (fun k => laws_eqStringS.f k l l) true := by
  unfold laws_eqStringS.f
  simp only [if_true]
  exact eq_loop l hl l.length 0 (by omega)

end Go.Proofs.YtnfihjebbhjgjaaDoor.MarkStr
