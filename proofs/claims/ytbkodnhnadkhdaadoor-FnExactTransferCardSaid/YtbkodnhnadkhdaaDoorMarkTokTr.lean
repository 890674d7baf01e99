/- The law's own marks on tokens: what marking them makes of them, and that the marks are found again. Condition: at most 2^21 tokens. -/
import Derived.Test.YtbkodnhnadkhdaaDoorPTrx0
import Derived.Test.YtbkodnhnadkhdaaDoorPTrx6
import Derived.Test.YtbkodnhnadkhdaaDoorLib
namespace Go.Proofs.YtbkodnhnadkhdaaDoor.MarkTok
open Go Go.RowKit Go.Proofs.YtbkodnhnadkhdaaDoor.PTr Go.Proofs.YtbkodnhnadkhdaaDoorW.PrintWords Go.Proofs.YtbkodnhnadkhdaaDoorW.PrintMore Go.Proofs.YtbkodnhnadkhdaaDoor.Arith Go.Proofs.YtbkodnhnadkhdaaDoor.Lib
set_option linter.unusedSimpArgs false
set_option linter.unusedVariables false

theorem text_loop (d : Nat) : ∀ (k : Int) (x : ByteArray), 0 ≤ k → k < 10 ^ d → k < 9223372036854775808 → x.size + d ≤ 1000 → ∃ t, Ev (fun n => laws_markText.l0 n k x) t := by
 induction d with
 | zero =>
  intro k x h0 h1 _ hx
  refine ⟨(⟨#[109]⟩ : ByteArray) ++ x, ev_at fun n => ?_⟩
  simp only [laws_markText.l0]
  rw [if_neg (by omega), if_pos (by omega)]
 | succ d ih =>
  intro k x h0 h1 hk hx
  by_cases h : k > 0
  ·
   rw [Int.pow_succ] at h1
   have e : Int.tdiv k 10 = k / 10 := Int.tdiv_eq_ediv_of_nonneg h0
   have hz : (strOfNums [(wrap64 (48 + (Int.tmod k 10))) % 256]).size = 1 := by rw [strOfNums_size]; rfl
   obtain ⟨t, ht⟩ := ih (k / 10) (strOfNums [(wrap64 (48 + (Int.tmod k 10))) % 256] ++ x) (by omega) (by omega) (by omega) (by rw [ByteArray.size_append, hz]; omega)
   refine ⟨t, Ev.step (fun n => ?_) ht⟩
   simp only [laws_markText.l0, Option.bind_some]
   rw [if_pos h, hz, if_pos (by omega), e, w64 (x := k / 10) (by omega) (by omega)]
  ·
   refine ⟨(⟨#[109]⟩ : ByteArray) ++ x, ev_at fun n => ?_⟩
   simp only [laws_markText.l0]
   rw [if_neg h, if_pos (by omega)]
theorem text_ex (k : Int) (h0 : 0 ≤ k) (h1 : k < 9223372036854775808) : ∃ t, Ev (fun n => laws_markText.f n k) t := by
 unfold laws_markText.f
 by_cases h : k ≤ 0
 ·
  simp only [if_pos h]; exact ⟨_, Ev.now _⟩
 ·
  simp only [if_neg h]
  exact text_loop 20 k _ h0 (by omega) h1 (by decide)
noncomputable def mt (k : Int) : ByteArray := Classical.epsilon fun t => Ev (fun n => laws_markText.f n k) t
theorem mt_ev (k : Int) (h0 : 0 ≤ k) (h1 : k < 9223372036854775808) : Ev (fun n => laws_markText.f n k) (mt k) := Classical.epsilon_spec (text_ex k h0 h1)

theorem rdT_lt {α : Type} (z : α) (l : List α) (i : Nat) (h : i < l.length) : l.getD i z = l[i] := by
 simp [List.getD_eq_getElem?_getD, List.getElem?_eq_getElem h]

noncomputable def mkT (n : Nat) : List S94 := (List.range n).map fun j => (⟨((4 * j + 1 : Nat) : Int), mt ((4 * j + 2 : Nat) : Int), ((4 * j + 3 : Nat) : Int), ((4 * j + 4 : Nat) : Int)⟩ : S94)
theorem mkT_length (n : Nat) : (mkT n).length = n := by simp [mkT]
theorem mkT_rd (n i : Nat) (h : i < n) : rd_T94 (mkT n) (i : Int) = (⟨((4 * i + 1 : Nat) : Int), mt ((4 * i + 2 : Nat) : Int), ((4 * i + 3 : Nat) : Int), ((4 * i + 4 : Nat) : Int)⟩ : S94) := by
 unfold rd_T94
 rw [Int.toNat_natCast, rdT_lt _ _ _ (by rw [mkT_length]; exact h)]; simp [mkT]
theorem mkT_succ (i : Nat) : mkT (i + 1) = mkT i ++ [(⟨((4 * i + 1 : Nat) : Int), mt ((4 * i + 2 : Nat) : Int), ((4 * i + 3 : Nat) : Int), ((4 * i + 4 : Nat) : Int)⟩ : S94)] := by
 unfold mkT; rw [List.range_succ, List.map_append]; rfl
theorem rd_set (x : List S94) (i : Nat) (h : i < x.length) (v : S94) : rd_T94 (x.set i v) (i : Int) = v := by
 unfold rd_T94
 rw [Int.toNat_natCast, rdT_lt _ _ _ (by rw [List.length_set]; exact h), List.getElem_set_self]
theorem w4 (i c c' : Nat) (h : 4 * i + c < 9223372036854775807) (hc : c' = c + 1) : wrap64 (((4 * i + c : Nat) : Int) + 1) = ((4 * i + c' : Nat) : Int) := by
 rw [w64 (by omega) (by omega)]; omega
theorem bs {α β : Type} (a : α) (f : α → Option β) : (some a).bind f = f a := (Option.bind_some a f).trans (Eq.refl (f a))
theorem mark_round (x : List S94) (i k : Nat) (hi : i < x.length) (hn : i ≤ 2097152) : laws_markTokenS.l0 (k + 1) x ((4 * i + 1 : Nat) : Int) i = (laws_markText.f k ((4 * i + 2 : Nat) : Int)).bind fun t => laws_markTokenS.l0 k (x.set i (⟨((4 * i + 1 : Nat) : Int), t, ((4 * i + 3 : Nat) : Int), ((4 * i + 4 : Nat) : Int)⟩ : S94)) ((4 * i + 5 : Nat) : Int) ((i + 1 : Nat) : Int) := by
 simp only [laws_markTokenS.l0]
 rw [if_pos (by omega), if_pos (by omega), w4 i 1 2 (by omega) rfl, w4 i 2 3 (by omega) rfl, w4 i 3 4 (by omega) rfl, w4 i 4 5 (by omega) rfl, w64s i (by omega), Int.toNat_natCast, bs]
 congr 1
 funext t
 rw [bs, rd_set x i hi]
 simp only [List.set_set]
 rw [bs, rd_set x i hi]
 simp only [List.set_set]
 rw [rd_set x i hi]
theorem mark_loopT (n : Nat) (hn : n ≤ 2097152) (d : Nat) : ∀ (i : Nat) (x : List S94), i + d = n → x.length = n → x.take i = mkT i → Ev (fun k => laws_markTokenS.l0 k x ((4 * i + 1 : Nat) : Int) i) (((4 * n + 1 : Nat) : Int), mkT n) := by
 induction d with
 | zero =>
  intro i x h hx ht
  refine ev_at fun k => ?_
  simp only [laws_markTokenS.l0]
  rw [if_neg (by omega)]
  rw [List.take_of_length_le (by omega)] at ht
  obtain rfl : i = n := by omega
  rw [ht]
 | succ d ih =>
  intro i x h hx ht
  have hi : i < x.length := by omega
  have hmt := mt_ev ((4 * i + 2 : Nat) : Int) (by omega) (by omega)
  refine Ev.step (f := fun k => (laws_markText.f k ((4 * i + 2 : Nat) : Int)).bind fun t => laws_markTokenS.l0 k (x.set i (⟨((4 * i + 1 : Nat) : Int), t, ((4 * i + 3 : Nat) : Int), ((4 * i + 4 : Nat) : Int)⟩ : S94)) ((4 * (i + 1) + 1 : Nat) : Int) ((i + 1 : Nat) : Int)) (fun k => ?_) ?_
  ·
   rw [mark_round x i k hi (by omega), show 4 * i + 5 = 4 * (i + 1) + 1 from by omega]
  ·
   refine Ev.bind hmt (ih (i + 1) _ (by omega) (by rw [List.length_set]; exact hx) ?_)
   rw [List.take_succ_eq_append_getElem (by rw [List.length_set]; exact hi), List.getElem_set_self, List.take_set_of_le (Nat.le_refl i), ht, mkT_succ]
theorem mark_evT (l : List S94) (hn : l.length ≤ 2097152) : Ev (fun k => laws_markTokenS.f k l 1) (((4 * l.length + 1 : Nat) : Int), mkT l.length) :=
 mark_loopT l.length hn l.length 0 l (by omega) rfl (by simp [mkT])
theorem held_loopT (n : Nat) (hn : n ≤ 2097152) (d : Nat) : ∀ (i : Nat), i + d = n → Ev (fun k => laws_heldTokenS.l0 k (mkT n) ((4 * i + 1 : Nat) : Int) i) ((4 * n + 1 : Nat) : Int) := by
 induction d with
 | zero =>
  intro i h
  refine ev_at fun k => ?_
  simp only [laws_heldTokenS.l0]
  rw [if_neg (by rw [mkT_length]; omega), show i = n by omega]
 | succ d ih =>
  intro i h
  have hmt := mt_ev ((4 * i + 2 : Nat) : Int) (by omega) (by omega)
  refine Ev.step (f := fun k => (laws_markText.f k ((4 * i + 2 : Nat) : Int)).bind fun t => if (mt ((4 * i + 2 : Nat) : Int)).toList = t.toList then laws_heldTokenS.l0 k (mkT n) ((4 * (i + 1) + 1 : Nat) : Int) ((i + 1 : Nat) : Int) else some (-1)) (fun k => ?_) ?_
  ·
   simp only [laws_heldTokenS.l0]
   rw [if_pos (by rw [mkT_length]; omega), if_pos (by omega), mkT_rd n i (by omega), w4 i 1 2 (by omega) rfl, w4 i 2 3 (by omega) rfl, w4 i 3 4 (by omega) rfl, w4 i 4 5 (by omega) rfl, w64s i (by omega)]
   simp only [if_true]
   rw [show 4 * i + 5 = 4 * (i + 1) + 1 from by omega]
  ·
   refine Ev.bind hmt ?_
   simp only [if_true]
   exact ih (i + 1) (by omega)
theorem held_evT (n : Nat) (hn : n ≤ 2097152) : Ev (fun k => laws_heldTokenS.f k (mkT n) 1) ((4 * n + 1 : Nat) : Int) := held_loopT n hn n 0 (by omega)
theorem eq_loopT (l : List S94) (hl : l.length < 9223372036854775807) (d : Nat) : ∀ i : Nat, i + d = l.length → Ev (fun k => laws_eqTokenS.l0 k l l i) true := by
 induction d with
 | zero =>
  intro i h
  refine ev_at fun k => ?_
  simp only [laws_eqTokenS.l0]
  rw [if_neg (by omega)]
 | succ d ih =>
  intro i h
  refine Ev.step (f := fun k => laws_eqTokenS.l0 k l l ((i + 1 : Nat) : Int)) (fun k => ?_) (ih (i + 1) (by omega))
  simp only [laws_eqTokenS.l0, laws_eqToken.f, if_true, Option.bind_some]
  rw [if_pos (by omega), if_pos (by omega), w64s i (by omega)]
  simp
  omega
theorem eq_evT (l : List S94) (hl : l.length < 9223372036854775807) : Ev (fun k => laws_eqTokenS.f k l l) true := by
 unfold laws_eqTokenS.f
 simp only [if_true]
 exact eq_loopT l hl l.length 0 (by omega)

end Go.Proofs.YtbkodnhnadkhdaaDoor.MarkTok
