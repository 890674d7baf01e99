/- A signature handed in: copied into the program's own type it is equal again; its size is small or the law says true at once; what SigLen and SigOk give. No condition but the lengths. -/
import Derived.Test.YtbkodnhnadkhdaaDoorPDlx5
import Derived.Test.YtbkodnhnadkhdaaDoorPDlx9
import Derived.Test.YtbkodnhnadkhdaaDoorLib
namespace Go.Proofs.YtbkodnhnadkhdaaDoor.RecSig
open Go Go.RowKit Go.Proofs.YtbkodnhnadkhdaaDoor.PDl Go.Proofs.YtbkodnhnadkhdaaDoorW.PrintWords Go.Proofs.YtbkodnhnadkhdaaDoorW.PrintMore Go.Proofs.YtbkodnhnadkhdaaDoor.Arith Go.Proofs.YtbkodnhnadkhdaaDoor.Lib
set_option linter.unusedSimpArgs false
set_option linter.unusedVariables false

theorem getD_at {α : Type} (z : α) (l : List α) (i : Nat) (h : i < l.length) : l.getD i z = l[i] := by
  simp [List.getD_eq_getElem?_getD, List.getElem?_eq_getElem h]
theorem rdS (l : List ByteArray) (i : Nat) (h : i < l.length) : rdOf ByteArray.empty l (i : Int) = l[i] := by
  unfold rdOf; rw [Int.toNat_natCast]; exact getD_at _ _ _ h
theorem toW_loop (l : List Int) (hl : l.length ≤ 2097152) (d : Nat) : ∀ (i : Nat) (x : List Int), i + d = l.length → x.length = l.length → x.take i = l.take i → Ev (fun k => laws_toUint32S.l0 k l x i) l := by
  induction d with
  | zero =>
    intro i x h hx ht
    refine ev_at fun k => ?_
    simp only [laws_toUint32S.l0]
    rw [if_neg (by omega)]
    rw [List.take_of_length_le (by omega), List.take_of_length_le (by omega)] at ht
    rw [ht]
  | succ d ih =>
    intro i x h hx ht
    have hi : i < l.length := by omega
    refine Ev.step (f := fun k => laws_toUint32S.l0 k l (x.set i l[i]) ((i + 1 : Nat) : Int)) (fun k => ?_) (ih (i + 1) (x.set i l[i]) (by omega) (by rw [List.length_set]; exact hx) ?_)
    · simp only [laws_toUint32S.l0]
      rw [if_pos (by omega), if_pos (by omega), if_pos (by omega), w64s i (by omega), rd_lt l i hi, Int.toNat_natCast]
    · have h1 : i < (x.set i l[i]).length := by rw [List.length_set]; omega
      rw [List.take_succ_eq_append_getElem h1, List.getElem_set_self, List.take_set_of_le (Nat.le_refl i), ht, List.take_succ_eq_append_getElem hi]
theorem toW_ev (l : List Int) (hl : l.length ≤ 2097152) : Ev (fun k => laws_toUint32S.f k l) l := by
  unfold laws_toUint32S.f
  simp only [if_pos (show (0 : Int) ≤ (l.length : Int) by omega), Int.toNat_natCast, if_pos (show l.length ≤ 70368744177664 by omega)]
  exact toW_loop l hl l.length 0 _ (by omega) (by simp) (by simp)
theorem toS_loop (l : List ByteArray) (hl : l.length ≤ 2097152) (d : Nat) : ∀ (i : Nat) (x : List ByteArray), i + d = l.length → x.length = l.length → x.take i = l.take i → Ev (fun k => laws_toStringS.l0 k l x i) l := by
  induction d with
  | zero =>
    intro i x h hx ht
    refine ev_at fun k => ?_
    simp only [laws_toStringS.l0]
    rw [if_neg (by omega)]
    rw [List.take_of_length_le (by omega), List.take_of_length_le (by omega)] at ht
    rw [ht]
  | succ d ih =>
    intro i x h hx ht
    have hi : i < l.length := by omega
    refine Ev.step (f := fun k => laws_toStringS.l0 k l (x.set i l[i]) ((i + 1 : Nat) : Int)) (fun k => ?_) (ih (i + 1) (x.set i l[i]) (by omega) (by rw [List.length_set]; exact hx) ?_)
    · simp only [laws_toStringS.l0]
      rw [if_pos (by omega), if_pos (by omega), if_pos (by omega), w64s i (by omega), rdS l i hi, Int.toNat_natCast]
    · have h1 : i < (x.set i l[i]).length := by rw [List.length_set]; omega
      rw [List.take_succ_eq_append_getElem h1, List.getElem_set_self, List.take_set_of_le (Nat.le_refl i), ht, List.take_succ_eq_append_getElem hi]
theorem toS_ev (l : List ByteArray) (hl : l.length ≤ 2097152) : Ev (fun k => laws_toStringS.f k l) l := by
  unfold laws_toStringS.f
  simp only [if_pos (show (0 : Int) ≤ (l.length : Int) by omega), Int.toNat_natCast, if_pos (show l.length ≤ 17592186044416 by omega)]
  exact toS_loop l hl l.length 0 _ (by omega) (by simp) (by simp)
theorem to_ev (a b : Int) (l : List Int) (m : List ByteArray) (hl : l.length ≤ 2097152) (hm : m.length ≤ 2097152) : Ev (fun k => laws_toSig.f k a b l m) (a, b, l, m) := by
  unfold laws_toSig.f
  exact Ev.bind (toW_ev l hl) (Ev.bind (toS_ev m hm) (Ev.now _))
theorem szS_loop (l : List ByteArray) (hl : l.length ≤ 2097152) (d : Nat) : ∀ (i : Nat) (a : Int), i + d = l.length → ∃ t, Ev (fun k => laws_szStringS.l0 k l a i) t := by
  induction d with
  | zero =>
    intro i a h
    refine ⟨a, ev_at fun k => ?_⟩
    simp only [laws_szStringS.l0]
    rw [if_neg (by omega)]
  | succ d ih =>
    intro i a h
    by_cases h0 : wrap64 (a - ((rdOf ByteArray.empty l i).size : Int)) < 0
    · refine ⟨-1, ev_at fun k => ?_⟩
      simp only [laws_szStringS.l0]
      rw [if_pos (by omega), if_pos (by omega), if_pos h0]
    · obtain ⟨t, ht⟩ := ih (i + 1) (wrap64 (a - ((rdOf ByteArray.empty l i).size : Int))) (by omega)
      refine ⟨t, Ev.step (fun k => ?_) ht⟩
      simp only [laws_szStringS.l0]
      rw [if_pos (by omega), if_pos (by omega), if_neg h0, w64s i (by omega)]
theorem sz_ev (a b : Int) (l : List Int) (m : List ByteArray) (hl : l.length ≤ 9223372036854775807) (hm : m.length ≤ 9223372036854775807) : ∃ t, Ev (fun k => laws_szSig.f k a b l m 1048576) t ∧ (t < 0 ∨ l.length ≤ 1048576 ∧ m.length ≤ 1048576) := by
  unfold laws_szSig.f laws_szUint32S.f
  rw [w64 (x := 1048576 - (l.length : Int)) (by omega) (by omega)]
  by_cases h : (1048576 : Int) - (l.length : Int) < 0
  · rw [if_pos h]; exact ⟨-1, Ev.now _, Or.inl (by omega)⟩
  rw [if_neg h]
  simp only [Option.bind_some, if_neg h, laws_szStringS.f]
  rw [w64 (x := 1048576 - (l.length : Int) - (m.length : Int)) (by omega) (by omega)]
  by_cases h1 : (1048576 : Int) - (l.length : Int) - (m.length : Int) < 0
  · simp only [if_pos h1]; exact ⟨-1, Ev.now _, Or.inl (by omega)⟩
  simp only [if_neg h1]
  obtain ⟨t, ht⟩ := szS_loop m (by omega) m.length 0 (1048576 - (l.length : Int) - (m.length : Int)) (by omega)
  by_cases h2 : t < 0
  · exact ⟨-1, Ev.bind ht (by simp only [if_pos h2]; exact Ev.now _), Or.inl (by omega)⟩
  · exact ⟨t, Ev.bind ht (by simp only [if_neg h2]; exact Ev.now _), Or.inr (by omega)⟩
theorem eqW_loop (l : List Int) (hl : l.length ≤ 2097152) (d : Nat) : ∀ i : Nat, i + d = l.length → Ev (fun k => laws_eqUint32S.l0 k l l i) true := by
  induction d with
  | zero =>
    intro i h
    refine ev_at fun k => ?_
    simp only [laws_eqUint32S.l0]
    rw [if_neg (by omega)]
  | succ d ih =>
    intro i h
    refine Ev.step (f := fun k => laws_eqUint32S.l0 k l l ((i + 1 : Nat) : Int)) (fun k => ?_) (ih (i + 1) (by omega))
    simp only [laws_eqUint32S.l0, if_true]
    rw [if_pos (by omega), if_pos (by omega), if_pos (by omega), w64s i (by omega)]
theorem eqS_loop (l : List ByteArray) (hl : l.length ≤ 2097152) (d : Nat) : ∀ i : Nat, i + d = l.length → Ev (fun k => laws_eqStringS.l0 k l l i) true := by
  induction d with
  | zero =>
    intro i h
    refine ev_at fun k => ?_
    simp only [laws_eqStringS.l0]
    rw [if_neg (by omega)]
  | succ d ih =>
    intro i h
    refine Ev.step (f := fun k => laws_eqStringS.l0 k l l ((i + 1 : Nat) : Int)) (fun k => ?_) (ih (i + 1) (by omega))
    simp only [laws_eqStringS.l0, if_true]
    rw [if_pos (by omega), if_pos (by omega), if_pos (by omega), w64s i (by omega)]
theorem eq_ev (a b : Int) (l : List Int) (m : List ByteArray) (hl : l.length ≤ 2097152) (hm : m.length ≤ 2097152) : Ev (fun k => laws_eqSig.f k a b l m a b l m) true := by
  unfold laws_eqSig.f laws_eqUint32S.f laws_eqStringS.f
  simp only [if_true]
  refine Ev.bind (eqW_loop l hl l.length 0 (by omega)) ?_
  simp only [if_true]
  refine Ev.bind (eqS_loop m hm m.length 0 (by omega)) ?_
  simp only [if_true]
  exact Ev.now _

/-- The cut is one that a text can have. -/
def isCut (a b : Int) (n : Nat) : Bool := decide (1 ≤ a ∧ a ≤ 256 ∧ 0 ≤ b ∧ b ≤ a - 1 ∧ n ≤ 2500)
theorem in_ (x y z : Int) : spec_l01In.f x y z = some (decide (y ≤ x ∧ x ≤ z)) := by
  unfold spec_l01In.f
  by_cases h : y ≤ x <;> simp [h]
theorem within_ (x y z : Int) : impl_within.f x y z = some (decide (y ≤ x ∧ x ≤ z)) := by
  unfold impl_within.f
  by_cases h : y ≤ x <;> simp [h]
/-- A signature's length. -/
def slen (a b : Int) (n : Nat) : Int := if isCut a b n then (if n = 0 then 0 else if b > 0 then a * n + b - a else a * n) else 0
theorem mul_bound {a : Int} {n : Nat} (h0 : 1 ≤ a) (h1 : a ≤ 256) (h2 : n ≤ 2500) : 0 ≤ a * (n : Int) ∧ a * (n : Int) ≤ 640000 :=
  ⟨Int.mul_nonneg (by omega) (by omega), Int.le_trans (Int.mul_le_mul h1 (show (n : Int) ≤ 2500 by omega) (by omega) (by omega)) (by omega)⟩
theorem mul_pos {a : Int} {n : Nat} (h0 : 1 ≤ a) (h2 : n ≠ 0) : a ≤ a * (n : Int) := by
  have := Int.mul_le_mul_of_nonneg_left (show (1 : Int) ≤ (n : Int) by omega) (show 0 ≤ a by omega)
  omega
theorem wa {a : Int} (h0 : 1 ≤ a) (h1 : a ≤ 256) : wrap64 (a - 1) = a - 1 := w64 (by omega) (by omega)
theorem spec_len (a b : Int) (l : List Int) (m : List ByteArray) : Ev (fun k => spec_SigLen.f k a b l m) (slen a b l.length) := by
  unfold spec_SigLen.f
  simp only [in_, Option.bind_some]
  by_cases h : 1 ≤ a ∧ a ≤ 256
  · simp only [h, and_self, decide_true, if_true, wa h.1 h.2]
    by_cases h1 : 0 ≤ b ∧ b ≤ a - 1
    · simp only [h1, and_self, decide_true, if_true]
      by_cases h2 : (l.length : Int) > 2500
      · have : slen a b l.length = 0 := by unfold slen isCut; rw [if_neg]; simp; omega
        rw [this]
        exact ev_at fun k => by simp [spec_SigLen.j0, h2]
      · have hb := mul_bound (n := l.length) h.1 h.2 (by omega)
        have : slen a b l.length = if l.length = 0 then 0 else if b > 0 then a * l.length + b - a else a * l.length := by unfold slen isCut; rw [if_pos]; simp; omega
        rw [this]
        refine ev_at fun k => ?_
        simp only [spec_SigLen.j0, h2, decide_false, Bool.false_eq_true, if_false]
        rw [w64 (x := a * (l.length : Int)) (by omega) (by omega)]
        by_cases h3 : l.length = 0
        · simp [h3]
        · have := mul_pos (n := l.length) h.1 h3
          rw [if_neg h3, if_pos (show a * (l.length : Int) > 0 by omega), w64 (x := a * (l.length : Int) - a) (by omega) (by omega), w64 (by omega) (by omega)]
          by_cases h4 : b > 0
          · rw [if_pos h4, if_pos h4]; congr 1; omega
          · rw [if_neg h4, if_neg h4]
    · have : slen a b l.length = 0 := by unfold slen isCut; rw [if_neg]; simp; omega
      rw [this]
      simp only [h1, decide_false, Bool.false_eq_true, if_false]
      exact ev_at fun k => by simp [spec_SigLen.j0]
  · have : slen a b l.length = 0 := by unfold slen isCut; rw [if_neg]; simp; omega
    rw [this]
    simp only [h, decide_false, Bool.false_eq_true, if_false]
    exact ev_at fun k => by simp [spec_SigLen.j0]
theorem cut_impl (a b : Int) (l : List Int) (m : List ByteArray) : impl_Sig_isCut.f a b l m = some (isCut a b l.length) := by
  unfold impl_Sig_isCut.f isCut
  simp only [within_, Option.bind_some]
  by_cases h : 1 ≤ a ∧ a ≤ 256
  · simp only [h, and_self, decide_true, if_true, wa h.1 h.2, true_and]
    by_cases h1 : 0 ≤ b ∧ b ≤ a - 1
    · simp only [h1, and_self, decide_true, if_true, true_and, Option.some.injEq, decide_eq_decide]; omega
    · simp only [h1, decide_false, Bool.false_eq_true, if_false, Option.some.injEq]
      symm; rw [decide_eq_false_iff_not]; omega
  · simp only [h, decide_false, Bool.false_eq_true, if_false, Option.some.injEq]
    symm; rw [decide_eq_false_iff_not]; omega
theorem impl_len (a b : Int) (l : List Int) (m : List ByteArray) : Ev (fun k => impl_SigLen.f k a b l m) (slen a b l.length) := by
  unfold impl_SigLen.f
  simp only [cut_impl, Option.bind_some]
  cases hc : isCut a b l.length with
  | false =>
    have : slen a b l.length = 0 := by unfold slen; rw [hc]; rfl
    rw [this]
    simp only [Bool.false_eq_true, if_false]
    exact ev_at fun k => by simp [impl_SigLen.j0]
  | true =>
    have h : 1 ≤ a ∧ a ≤ 256 ∧ 0 ≤ b ∧ b ≤ a - 1 ∧ l.length ≤ 2500 := by unfold isCut at hc; exact of_decide_eq_true hc
    have : slen a b l.length = if l.length = 0 then 0 else if b > 0 then a * l.length + b - a else a * l.length := by unfold slen; rw [hc]; rfl
    rw [this]
    simp only [if_true]
    have hb := mul_bound (n := l.length) h.1 h.2.1 h.2.2.2.2
    refine ev_at fun k => ?_
    by_cases h3 : l.length = 0
    · simp [impl_SigLen.j0, h3]
    · have := mul_pos (n := l.length) h.1 h3
      have h3' : ((l.length : Int) == 0) = false := by simp; intro e; simp [e] at h3
      simp only [impl_SigLen.j0, h3', Bool.false_eq_true, if_false]
      rw [if_neg h3, w64 (x := a * (l.length : Int)) (by omega) (by omega), w64 (x := b - a) (by omega) (by omega), w64 (by omega) (by omega)]
      by_cases h4 : b > 0
      · rw [if_pos h4, if_pos h4]; congr 1; omega
      · rw [if_neg h4, if_neg h4]

end Go.Proofs.YtbkodnhnadkhdaaDoor.RecSig
