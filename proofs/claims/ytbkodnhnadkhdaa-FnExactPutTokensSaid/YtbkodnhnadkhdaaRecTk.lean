/- Tokens handed in: copied into the program's own type they are equal again; their size is small or the law says true at once. No condition but the length. -/
import Derived.Test.YtbkodnhnadkhdaaPTkx0
import Derived.Test.YtbkodnhnadkhdaaPTkx1
import Derived.Test.YtbkodnhnadkhdaaPTkx2
import Derived.Test.YtbkodnhnadkhdaaPTkx3
import Derived.Test.YtbkodnhnadkhdaaPTkx6
import Derived.Test.YtbkodnhnadkhdaaLib
namespace Go.Proofs.Ytbkodnhnadkhdaa.Rec
open Go Go.RowKit Go.Proofs.Ytbkodnhnadkhdaa.PTk Go.Proofs.YtbkodnhnadkhdaaW.PrintWords Go.Proofs.YtbkodnhnadkhdaaW.PrintMore Go.Proofs.Ytbkodnhnadkhdaa.Arith Go.Proofs.Ytbkodnhnadkhdaa.Lib
set_option linter.unusedSimpArgs false
set_option linter.unusedVariables false

theorem getD_at {α : Type} (z : α) (l : List α) (i : Nat) (h : i < l.length) : l.getD i z = l[i] := by
  simp [List.getD_eq_getElem?_getD, List.getElem?_eq_getElem h]
def tok (x : S71) : S67 := ⟨x.f0, x.f1, x.f2, x.f3⟩
def toks (l : List S71) : List S67 := l.map tok
theorem toks_length (l : List S71) : (toks l).length = l.length := by simp [toks]
theorem rdL (l : List S71) (i : Nat) (h : i < l.length) : rd_T71 l (i : Int) = l[i] := by
  unfold rd_T71; rw [Int.toNat_natCast]; exact getD_at _ _ _ h
theorem rdT (l : List S67) (i : Nat) (h : i < l.length) : rd_T67 l (i : Int) = l[i] := by
  unfold rd_T67; rw [Int.toNat_natCast]; exact getD_at _ _ _ h
theorem to_loop (l : List S71) (hl : l.length ≤ 2097152) (d : Nat) : ∀ (i : Nat) (x : List S67), i + d = l.length → x.length = l.length → x.take i = (toks l).take i → Ev (fun k => laws_toTokenS.l0 k l x i) (toks l) := by
  induction d with
  | zero =>
    intro i x h hx ht
    refine ev_at fun k => ?_
    simp only [laws_toTokenS.l0]
    rw [if_neg (by omega)]
    rw [List.take_of_length_le (by omega), List.take_of_length_le (by rw [toks_length]; omega)] at ht
    rw [ht]
  | succ d ih =>
    intro i x h hx ht
    have hi : i < l.length := by omega
    refine Ev.step (f := fun k => laws_toTokenS.l0 k l (x.set i (tok l[i])) ((i + 1 : Nat) : Int)) (fun k => ?_) (ih (i + 1) (x.set i (tok l[i])) (by omega) (by rw [List.length_set]; exact hx) ?_)
    · simp only [laws_toTokenS.l0, laws_toToken.f, Option.bind_some]
      rw [if_pos (by omega), if_pos (by omega), if_pos (by omega), w64s i (by omega), rdL l i hi, Int.toNat_natCast]
      rfl
    · have h1 : i < (x.set i (tok l[i])).length := by rw [List.length_set]; omega
      have h2 : i < (toks l).length := by rw [toks_length]; exact hi
      rw [List.take_succ_eq_append_getElem h1, List.getElem_set_self, List.take_set_of_le (Nat.le_refl i), ht, List.take_succ_eq_append_getElem h2]
      simp [toks]
theorem to_ev (l : List S71) (hl : l.length ≤ 2097152) : Ev (fun k => laws_toTokenS.f k l) (toks l) := by
  unfold laws_toTokenS.f
  simp only [if_pos (show (0 : Int) ≤ (l.length : Int) by omega), Int.toNat_natCast, if_pos (show l.length ≤ 7036874417766 by omega)]
  exact to_loop l hl l.length 0 _ (by omega) (by simp) (by simp)
theorem sz_loop (l : List S71) (hl : l.length ≤ 2097152) (d : Nat) : ∀ (i : Nat) (a : Int), i + d = l.length → ∃ t, Ev (fun k => laws_szTokenS.l0 k l a i) t := by
  induction d with
  | zero =>
    intro i a h
    refine ⟨a, ev_at fun k => ?_⟩
    simp only [laws_szTokenS.l0]
    rw [if_neg (by omega)]
  | succ d ih =>
    intro i a h
    obtain ⟨q, hq⟩ : ∃ q, laws_szToken.f (rd_T71 l i).f0 (rd_T71 l i).f1 (rd_T71 l i).f2 (rd_T71 l i).f3 a = some q := by
      unfold laws_szToken.f; split <;> exact ⟨_, rfl⟩
    by_cases h0 : q < 0
    · refine ⟨-1, ev_at fun k => ?_⟩
      simp only [laws_szTokenS.l0]
      rw [if_pos (by omega), if_pos (by omega), hq, Option.bind_some, if_pos h0]
    · obtain ⟨t, ht⟩ := ih (i + 1) q (by omega)
      refine ⟨t, Ev.step (fun k => ?_) ht⟩
      simp only [laws_szTokenS.l0]
      rw [if_pos (by omega), if_pos (by omega), hq, Option.bind_some, if_neg h0, w64s i (by omega)]
theorem sz_ev (l : List S71) (hl : l.length ≤ 9223372036854775807) : ∃ t, Ev (fun k => laws_szTokenS.f k l 1048576) t ∧ (t < 0 ∨ l.length ≤ 1048576) := by
  unfold laws_szTokenS.f
  rw [w64 (by omega) (by omega)]
  by_cases h : (1048576 : Int) - (l.length : Int) < 0
  · simp only [if_pos h]; exact ⟨-1, Ev.now _, Or.inl (by omega)⟩
  · simp only [if_neg h]
    obtain ⟨t, ht⟩ := sz_loop l (by omega) l.length 0 (1048576 - (l.length : Int)) (by omega)
    exact ⟨t, ht, Or.inr (by omega)⟩
theorem eq_loop (l : List S67) (hl : l.length ≤ 2097152) (d : Nat) : ∀ i : Nat, i + d = l.length → Ev (fun k => laws_eqTokenS.l0 k l l i) true := by
  induction d with
  | zero =>
    intro i h
    refine ev_at fun k => ?_
    simp only [laws_eqTokenS.l0]
    rw [if_neg (by omega)]
  | succ d ih =>
    intro i h
    refine Ev.step (f := fun k => laws_eqTokenS.l0 k l l ((i + 1 : Nat) : Int)) (fun k => ?_) (ih (i + 1) (by omega))
    simp only [laws_eqTokenS.l0, laws_eqToken.f, if_true, Option.bind_some]
    rw [if_pos (by omega), if_pos (by omega), w64s i (by omega)]
    simp
    omega
theorem eq_ev (l : List S67) (hl : l.length ≤ 2097152) : Ev (fun k => laws_eqTokenS.f k l l) true := by
  unfold laws_eqTokenS.f
  simp only [if_true]
  exact eq_loop l hl l.length 0 (by omega)
/-- The token's own test. -/
theorem spec_tok : @spec_TokenOk.f = @impl_TokenOk.f := rfl
theorem tok_some (a : Int) (s : ByteArray) (b c : Int) : ∃ r, impl_TokenOk.f a s b c = some r := by
  have hw : ∃ q, impl_within.f (s.size : Int) 1 100 = some q := by unfold impl_within.f; split <;> exact ⟨_, rfl⟩
  obtain ⟨q, hq⟩ := hw
  unfold impl_TokenOk.f
  rw [hq]
  simp only [Option.bind_some]
  repeat' split
  all_goals exact ⟨_, rfl⟩
def ok (x : S67) : Bool := (impl_TokenOk.f x.f0 x.f1 x.f2 x.f3).getD false
theorem tok_ok (x : S67) : impl_TokenOk.f x.f0 x.f1 x.f2 x.f3 = some (ok x) := by
  obtain ⟨r, hr⟩ := tok_some x.f0 x.f1 x.f2 x.f3
  unfold ok; rw [hr]; rfl

end Go.Proofs.Ytbkodnhnadkhdaa.Rec
