/- Trees: what TreeOk asks of a list of nodes, in plain words. No condition. -/
import Derived.Test.YtnfihjebbhjgjaaDoorPTtx0
import Derived.Test.YtnfihjebbhjgjaaDoorPTtx5
import Derived.Test.YtnfihjebbhjgjaaDoorPTtx6
import Derived.Test.YtnfihjebbhjgjaaDoorPTtx8
import Derived.Test.YtnfihjebbhjgjaaDoorNode
import Derived.Test.YtnfihjebbhjgjaaDoorLib
import Derived.Test.YtnfihjebbhjgjaaDoorParts
import Derived.Lib.Bytealg
import Derived.Test.YtnfihjebbhjgjaaDoorPTtx13
import Derived.Test.YtnfihjebbhjgjaaDoorPTtx14
import Derived.Test.YtnfihjebbhjgjaaDoorPTtx11
import Derived.Test.YtnfihjebbhjgjaaDoorPTtx12
import Derived.Test.YtnfihjebbhjgjaaDoorPTtx15
import Derived.Test.YtnfihjebbhjgjaaDoorOpNode
import Derived.Test.YtnfihjebbhjgjaaDoorTabM
section
/- Trees: what TreeOk asks of a list of nodes, in plain words. No condition. -/
namespace Go.Proofs.YtnfihjebbhjgjaaDoor.Tree
open Go Go.RowKit Go.Proofs.YtnfihjebbhjgjaaDoor.PTt Go.Proofs.YtnfihjebbhjgjaaDoorW.PrintWords Go.Proofs.YtnfihjebbhjgjaaDoorW.PrintMore Go.Proofs.YtnfihjebbhjgjaaDoor.Arith Go.Proofs.YtnfihjebbhjgjaaDoor.Lib Go.Proofs.YtnfihjebbhjgjaaDoor.Parts Go.Proofs.YtnfihjebbhjgjaaDoor.Paths Go.Proofs.YtnfihjebbhjgjaaDoor.Nodes
set_option linter.unusedSimpArgs false
set_option linter.unusedVariables false

def el (l : List S41) (i : Nat) : S41 := l.getD i z41
theorem rd_el (l : List S41) (i : Nat) : rd_T41 l (i : Int) = el l i := by unfold rd_T41 el; rw [Int.toNat_natCast]
def okN (x : S41) : Bool := nodeOk x.f0 x.f1 x.f2 x.f3 x.f4 x.f5 x.f6
def firstFrom (l : List S41) (p : ByteArray) : Nat → Nat → Int
  | 0, _ => -1
  | d + 1, i => if (el l i).f0.toList = p.toList then (i : Int) else firstFrom l p d (i + 1)
def idxI (l : List S41) (p : ByteArray) : Int := firstFrom l p l.length 0
theorem l10_loop (l : List S41) (p : ByteArray) (hl : l.length ≤ 1000000) (d : Nat) : ∀ i : Nat, i + d = l.length → Ev (fun k => spec_l10At.l0 k l p i) (firstFrom l p d i) := by
  induction d with
  | zero =>
    intro i h
    refine ev_at fun k => ?_
    simp only [spec_l10At.l0]
    rw [if_neg (by omega)]
    rfl
  | succ d ih =>
    intro i h
    by_cases hc : (el l i).f0.toList = p.toList
    · refine ev_at fun k => ?_
      simp only [spec_l10At.l0]
      rw [if_pos (by omega), if_pos (by omega), rd_el, if_pos hc]
      simp only [firstFrom]
      rw [if_pos hc]
    · refine Ev.step (f := fun k => spec_l10At.l0 k l p ((i + 1 : Nat) : Int)) (fun k => ?_) ?_
      · simp only [spec_l10At.l0]
        rw [if_pos (by omega), if_pos (by omega), rd_el, if_neg hc, w64s i (by omega)]
      · simp only [firstFrom]
        rw [if_neg hc]
        exact ih (i + 1) (by omega)
theorem l10_ev (l : List S41) (p : ByteArray) (hl : l.length ≤ 1000000) : Ev (fun k => spec_l10At.f k l p) (idxI l p) := by
  unfold spec_l10At.f idxI
  exact l10_loop l p hl l.length 0 (by omega)
theorem first_spec (l : List S41) (p : ByteArray) (d : Nat) : ∀ i : Nat, (firstFrom l p d i = -1 ∧ ∀ j, i ≤ j → j < i + d → (el l j).f0.toList ≠ p.toList) ∨ ∃ j, i ≤ j ∧ j < i + d ∧ firstFrom l p d i = (j : Int) ∧ (el l j).f0.toList = p.toList := by
  induction d with
  | zero => exact fun i => .inl ⟨rfl, fun j h1 h2 => by omega⟩
  | succ d ih =>
    intro i
    by_cases hc : (el l i).f0.toList = p.toList
    · exact .inr ⟨i, by omega, by omega, by simp only [firstFrom]; rw [if_pos hc], hc⟩
    · simp only [firstFrom]
      rw [if_neg hc]
      rcases ih (i + 1) with ⟨h1, h2⟩ | ⟨j, h1, h2, h3, h4⟩
      · refine .inl ⟨h1, fun j hj hj2 => ?_⟩
        by_cases he : j = i
        · subst he; exact hc
        · exact h2 j (by omega) (by omega)
      · exact .inr ⟨j, by omega, by omega, h3, h4⟩
theorem idx_spec (l : List S41) (p : ByteArray) : (idxI l p = -1 ∧ ∀ j, j < l.length → (el l j).f0.toList ≠ p.toList) ∨ ∃ j, j < l.length ∧ idxI l p = (j : Int) ∧ (el l j).f0.toList = p.toList := by
  rcases first_spec l p l.length 0 with ⟨h1, h2⟩ | ⟨j, h1, h2, h3, h4⟩
  · exact .inl ⟨h1, fun j hj => h2 j (by omega) (by omega)⟩
  · exact .inr ⟨j, by omega, h3, h4⟩
theorem nodeS_some (x : S41) : ∃ k, spec_NodeOk.f k x.f0 x.f1 x.f2 x.f3 x.f4 x.f5 x.f6 = some (okN x) := by
  obtain ⟨k, hk⟩ := spec_node x.f0 x.f1 x.f2 x.f3 x.f4 x.f5 x.f6
  exact ⟨k, hk k (Nat.le_refl _)⟩
theorem nodeI_some (x : S41) : ∃ k, impl_NodeOk.f k x.f0 x.f1 x.f2 x.f3 x.f4 x.f5 x.f6 = some (okN x) := by
  obtain ⟨k, hk⟩ := impl_node x.f0 x.f1 x.f2 x.f3 x.f4 x.f5 x.f6
  exact ⟨k, hk k (Nat.le_refl _)⟩
theorem parS_some (s : ByteArray) : ∃ k, spec_ParentOf.f k s = some (Pure.parent s) := by
  obtain ⟨k, hk⟩ := Pure.spec_parent s
  exact ⟨k, hk k (Nat.le_refl _)⟩
theorem parI_some (s : ByteArray) : ∃ k, impl_ParentOf.f k s = some (Pure.parent s) := by
  obtain ⟨k, hk⟩ := Pure.impl_parent s
  exact ⟨k, hk k (Nat.le_refl _)⟩
theorem l10_some (l : List S41) (p : ByteArray) (hl : l.length ≤ 1000000) : ∃ k, spec_l10At.f k l p = some (idxI l p) := by
  obtain ⟨k, hk⟩ := l10_ev l p hl
  exact ⟨k, hk k (Nat.le_refl _)⟩
end Go.Proofs.YtnfihjebbhjgjaaDoor.Tree
end

section
/- The order of the bytes' lists: what the tests on paths rest on. No condition. -/
namespace Go.Proofs.YtnfihjebbhjgjaaDoor.Ord
open Go Go.RowKit
set_option linter.unusedSimpArgs false
set_option linter.unusedVariables false

theorem u8 (a b : UInt8) : a < b ∨ a = b ∨ b < a := by
  rcases Nat.lt_trichotomy a.toNat b.toNat with h | h | h
  · exact .inl (UInt8.lt_iff_toNat_lt.mpr h)
  · exact .inr (.inl (UInt8.toNat_inj.1 h))
  · exact .inr (.inr (UInt8.lt_iff_toNat_lt.mpr h))
theorem u8_irr (a : UInt8) : ¬ a < a := fun h => Nat.lt_irrefl _ (UInt8.lt_iff_toNat_lt.mp h)
theorem u8_asym {a b : UInt8} (h : a < b) : ¬ b < a := fun k => by have := UInt8.lt_iff_toNat_lt.mp h; have := UInt8.lt_iff_toNat_lt.mp k; omega
theorem u8_trans {a b c : UInt8} (h : a < b) (k : b < c) : a < c := UInt8.lt_iff_toNat_lt.mpr (Nat.lt_trans (UInt8.lt_iff_toNat_lt.mp h) (UInt8.lt_iff_toNat_lt.mp k))
theorem u8_ne {a b : UInt8} (h : a < b) : a ≠ b := fun e => u8_irr b (e ▸ h)
theorem less_cons (a b : UInt8) (x y : List UInt8) : Op.bytesLess (a :: x) (b :: y) = true ↔ a < b ∨ (a = b ∧ Op.bytesLess x y = true) := by
  rw [Op.bytesLess]; simp
theorem irr : ∀ x : List UInt8, Op.bytesLess x x = false
  | [] => rfl
  | a :: x => by
    cases h : Op.bytesLess (a :: x) (a :: x) with
    | false => rfl
    | true =>
      rcases (less_cons a a x x).mp h with h | ⟨_, h⟩
      · exact absurd h (u8_irr a)
      · rw [irr x] at h; cases h
theorem trans : ∀ {x y z : List UInt8}, Op.bytesLess x y = true → Op.bytesLess y z = true → Op.bytesLess x z = true
  | _, [], _, h, _ => by simp [Op.bytesLess] at h
  | _, _ :: _, [], _, h => by simp [Op.bytesLess] at h
  | [], _ :: _, _ :: _, _, _ => by simp [Op.bytesLess]
  | a :: x, b :: y, c :: z, h, k => by
    rw [less_cons] at h k ⊢
    rcases h with h | ⟨rfl, h⟩
    · rcases k with k | ⟨rfl, k⟩
      · exact .inl (u8_trans h k)
      · exact .inl h
    · rcases k with k | ⟨rfl, k⟩
      · exact .inl k
      · exact .inr ⟨rfl, trans h k⟩
theorem ne {x y : List UInt8} (h : Op.bytesLess x y = true) : x ≠ y := fun e => by rw [e, irr] at h; cases h
theorem asym {x y : List UInt8} (h : Op.bytesLess x y = true) : Op.bytesLess y x = false := by
  cases k : Op.bytesLess y x with
  | false => rfl
  | true => have := trans h k; rw [irr] at this; cases this
theorem cmp_spec : ∀ x y : List UInt8, (Lib.compareBytes x y < 0 ∧ Op.bytesLess x y = true) ∨ (Lib.compareBytes x y = 0 ∧ x = y) ∨ (0 < Lib.compareBytes x y ∧ Op.bytesLess y x = true)
  | [], [] => .inr (.inl ⟨rfl, rfl⟩)
  | [], _ :: _ => .inl ⟨by simp [Lib.compareBytes], by simp [Op.bytesLess]⟩
  | _ :: _, [] => .inr (.inr ⟨by simp [Lib.compareBytes], by simp [Op.bytesLess]⟩)
  | a :: x, b :: y => by
    simp only [less_cons]
    rw [Lib.compareBytes]
    rcases u8 a b with h | h | h
    · rw [if_pos h]; exact .inl ⟨by decide, .inl h⟩
    · subst h
      rw [if_neg (u8_irr a)]
      rcases cmp_spec x y with ⟨h1, h2⟩ | ⟨h1, h2⟩ | ⟨h1, h2⟩
      · rw [if_neg (u8_irr a)]; exact .inl ⟨h1, .inr ⟨rfl, h2⟩⟩
      · rw [if_neg (u8_irr a)]; exact .inr (.inl ⟨h1, by rw [h2]⟩)
      · rw [if_neg (u8_irr a)]; exact .inr (.inr ⟨h1, .inr ⟨rfl, h2⟩⟩)
    · rw [if_neg (u8_asym h), if_pos h]; exact .inr (.inr ⟨by decide, .inl h⟩)
theorem prefixLess : ∀ (p : List UInt8) (a : UInt8) (r : List UInt8), Op.bytesLess p (p ++ a :: r) = true
  | [], _, _ => by simp [Op.bytesLess]
  | b :: p, a, r => (less_cons b b p (p ++ a :: r)).mpr (.inr ⟨rfl, prefixLess p a r⟩)
end Go.Proofs.YtnfihjebbhjgjaaDoor.Ord
end

section
/- Trees: what the two tests come to, in plain words. No condition but the list's length. -/
namespace Go.Proofs.YtnfihjebbhjgjaaDoor.TreeX
open Go Go.RowKit Go.Proofs.YtnfihjebbhjgjaaDoor.PTt Go.Proofs.YtnfihjebbhjgjaaDoorW.PrintWords Go.Proofs.YtnfihjebbhjgjaaDoorW.PrintMore Go.Proofs.YtnfihjebbhjgjaaDoor.Arith Go.Proofs.YtnfihjebbhjgjaaDoor.Lib Go.Proofs.YtnfihjebbhjgjaaDoor.Parts Go.Proofs.YtnfihjebbhjgjaaDoor.Paths Go.Proofs.YtnfihjebbhjgjaaDoor.Nodes Go.Proofs.YtnfihjebbhjgjaaDoor.Tree
set_option linter.unusedSimpArgs false
set_option linter.unusedVariables false

def upTo (t : Nat → Bool) : Nat → Nat → Bool
  | 0, _ => true
  | d + 1, i => t i && upTo t d (i + 1)
theorem upTo_iff (t : Nat → Bool) : ∀ d i, upTo t d i = true ↔ ∀ j, i ≤ j → j < i + d → t j = true
  | 0, i => ⟨fun _ j h1 h2 => by omega, fun _ => rfl⟩
  | d + 1, i => by
    simp only [upTo, Bool.and_eq_true]
    rw [upTo_iff t d (i + 1)]
    constructor
    · rintro ⟨h1, h2⟩ j h3 h4
      by_cases e : j = i
      · subst e; exact h1
      · exact h2 j (by omega) (by omega)
    · exact fun h => ⟨h i (by omega) (by omega), fun j h1 h2 => h j (by omega) (by omega)⟩
theorem elI (l : List S41) (i : Nat) : impl_TreeOk.el l i = el l i := rd_el l i
def path (l : List S41) (i : Nat) : List UInt8 := (el l i).f0.toList
def prevOk (l : List S41) (i : Nat) : Bool := decide (i = 0) || Op.bytesLess (path l (i - 1)) (path l i)
theorem prev_eq (l : List S41) (i : Nat) : impl_TreeOk.prev l i = prevOk l i := by unfold impl_TreeOk.prev prevOk path; rw [elI, elI]
def par (l : List S41) (i : Nat) : ByteArray := Pure.parent (el l i).f0
def isDir (l : List S41) (p : ByteArray) : Bool := decide (p.toList = []) || (decide (0 ≤ idxI l p) && decide ((el l (idxI l p).toNat).f1 = 0))
def key (x y : S41) : Bool := decide (x.f2 = y.f2) && (decide (x.f3 = y.f3) && decide (x.f4.toList = y.f4.toList))
def mate (l : List S41) (i k : Nat) : Bool := !decide ((el l k).f6 = (el l i).f6) || key (el l k) (el l i)
abbrev cnt := impl_TreeOk.cnt
theorem cnt_succ (l : List S41) (g : Int) (i : Nat) : cnt l g (i + 1) = if (el l i).f6 = g then cnt l g i + 1 else cnt l g i := by
  show impl_TreeOk.cnt l g (i + 1) = _
  rw [impl_TreeOk.cnt, elI]
def grp (l : List S41) (i : Nat) : Bool := decide ((el l i).f6 = 0) || (upTo (mate l i) l.length 0 && decide (2 ≤ cnt l (el l i).f6 l.length))
def sumTo (l : List S41) : Nat → Nat
  | 0 => 0
  | i + 1 => sumTo l i + (el l i).f4.size
def testS (l : List S41) (i : Nat) : Bool := okN (el l i) && (prevOk l i && isDir l (par l i))
theorem data_le {x : S41} (h : okN x = true) : x.f4.size ≤ 20000 := by
  have h4 : kinds x.f1 x.f2 x.f4 x.f5 x.f6 = true := by
    unfold okN nodeOk at h
    simp only [Bool.and_eq_true] at h
    exact h.2.2.2
  unfold kinds at h4
  split at h4
  · simp only [Bool.and_eq_true] at h4
    have := (toList_nil x.f4).mp (of_decide_eq_true h4.1)
    omega
  · split at h4
    · simp only [Bool.and_eq_true, decide_eq_true_eq] at h4; omega
    · split at h4
      · simp only [Bool.and_eq_true] at h4
        have := (toList_nil x.f4).mp (of_decide_eq_true h4.1)
        omega
      · cases h4
theorem sum_le (l : List S41) : ∀ i, (∀ j, j < i → (el l j).f4.size ≤ 20000) → sumTo l i ≤ 20000 * i
  | 0, _ => Nat.le_refl _
  | i + 1, h => by
    simp only [sumTo]
    have := sum_le l i (fun j hj => h j (by omega))
    have := h i (by omega)
    omega
end Go.Proofs.YtnfihjebbhjgjaaDoor.TreeX
end

section
/- Trees: what the two tests come to, in plain words. No condition but the list's length. -/
namespace Go.Proofs.YtnfihjebbhjgjaaDoor.TreeX
open Go Go.RowKit Go.Proofs.YtnfihjebbhjgjaaDoor.PTt Go.Proofs.YtnfihjebbhjgjaaDoorW.PrintWords Go.Proofs.YtnfihjebbhjgjaaDoorW.PrintMore Go.Proofs.YtnfihjebbhjgjaaDoor.Arith Go.Proofs.YtnfihjebbhjgjaaDoor.Lib Go.Proofs.YtnfihjebbhjgjaaDoor.Parts Go.Proofs.YtnfihjebbhjgjaaDoor.Paths Go.Proofs.YtnfihjebbhjgjaaDoor.Nodes Go.Proofs.YtnfihjebbhjgjaaDoor.Tree
set_option linter.unusedSimpArgs false
set_option linter.unusedVariables false

theorem l2_ev (l : List S41) (hl : l.length ≤ 200) (i : Nat) (hi : i < l.length) (s : Int) (R : Bool) (hR : Ev (fun k => spec_TreeOk.l1 k l s ((i + 1 : Nat) : Int)) R) (d : Nat) :
    ∀ m : Nat, m + d = l.length → Ev (fun k => spec_TreeOk.l2 k l s (i : Int) (cnt l (el l i).f6 m : Int) (m : Int)) (upTo (mate l i) d m && (decide (2 ≤ cnt l (el l i).f6 l.length) && R)) := by
  induction d with
  | zero =>
    intro m h
    obtain rfl : m = l.length := by omega
    simp only [upTo, Bool.true_and]
    by_cases h2 : 2 ≤ cnt l (el l i).f6 l.length
    · rw [decide_eq_true h2, Bool.true_and]
      refine Ev.step (fun k => ?_) hR
      simp only [spec_TreeOk.l2]
      rw [if_neg (by omega), if_neg (by omega), w64s i (by omega)]
    · rw [decide_eq_false h2, Bool.false_and]
      refine ev_at fun k => ?_
      simp only [spec_TreeOk.l2]
      rw [if_neg (by omega), if_pos (by omega)]
  | succ d ih =>
    intro m h
    have hm : m < l.length := by omega
    have ihm := ih (m + 1) (by omega)
    rw [cnt_succ] at ihm
    have hc := impl_TreeOk.cnt_le l (el l i).f6 m
    simp only [upTo]
    by_cases hg : (el l m).f6 = (el l i).f6
    · rw [if_pos hg] at ihm
      have hstep : ∀ k, spec_TreeOk.l2 (k + 1) l s (i : Int) (cnt l (el l i).f6 m : Int) (m : Int) = (if (el l m).f2 = (el l i).f2 then (if (el l m).f3 = (el l i).f3 then (if (el l m).f4.toList = (el l i).f4.toList then spec_TreeOk.l2 k l s (i : Int) ((cnt l (el l i).f6 m + 1 : Nat) : Int) ((m + 1 : Nat) : Int) else some false) else some false) else some false) := fun k => by
        simp only [spec_TreeOk.l2]
        rw [if_pos (by omega), if_pos (by omega), if_pos (by omega), if_pos (by omega), rd_el, rd_el, if_pos hg, w64s m (by omega), w64s (cnt l (el l i).f6 m) (by show impl_TreeOk.cnt _ _ _ + 1 < _; omega)]
      by_cases h2 : (el l m).f2 = (el l i).f2
      · by_cases h3 : (el l m).f3 = (el l i).f3
        · by_cases h4 : (el l m).f4.toList = (el l i).f4.toList
          · have hmate : mate l i m = true := by unfold mate key; simp [hg, h2, h3, h4]
            rw [hmate, Bool.true_and]
            exact Ev.step (fun k => by rw [hstep, if_pos h2, if_pos h3, if_pos h4]) ihm
          · have hmate : mate l i m = false := by unfold mate key; simp [hg, h2, h3, h4]
            rw [hmate, Bool.false_and, Bool.false_and]
            exact ev_at fun k => by rw [hstep, if_pos h2, if_pos h3, if_neg h4]
        · have hmate : mate l i m = false := by unfold mate key; simp [hg, h2, h3]
          rw [hmate, Bool.false_and, Bool.false_and]
          exact ev_at fun k => by rw [hstep, if_pos h2, if_neg h3]
      · have hmate : mate l i m = false := by unfold mate key; simp [hg, h2]
        rw [hmate, Bool.false_and, Bool.false_and]
        exact ev_at fun k => by rw [hstep, if_neg h2]
    · rw [if_neg hg] at ihm
      have hmate : mate l i m = true := by unfold mate; simp [hg]
      rw [hmate, Bool.true_and]
      refine Ev.step (fun k => ?_) ihm
      simp only [spec_TreeOk.l2]
      rw [if_pos (by omega), if_pos (by omega), if_pos (by omega), if_pos (by omega), rd_el, rd_el, if_neg hg, w64s m (by omega)]
theorem l1_ev (l : List S41) (hl : l.length ≤ 200) (s : Int) (d : Nat) : ∀ i : Nat, i + d = l.length → Ev (fun k => spec_TreeOk.l1 k l s (i : Int)) (upTo (grp l) d i && decide (s ≤ 20000)) := by
  induction d with
  | zero =>
    intro i h
    simp only [upTo, Bool.true_and]
    refine ev_at fun k => ?_
    simp only [spec_TreeOk.l1]
    rw [if_neg (by omega)]
  | succ d ih =>
    intro i h
    simp only [upTo]
    by_cases hg : (el l i).f6 = 0
    · have hgr : grp l i = true := by unfold grp; simp [hg]
      rw [hgr, Bool.true_and]
      refine Ev.step (fun k => ?_) (ih (i + 1) (by omega))
      simp only [spec_TreeOk.l1]
      rw [if_pos (by omega), if_pos (by omega), rd_el, if_pos hg, w64s i (by omega)]
    · have hgr : grp l i = (upTo (mate l i) l.length 0 && decide (2 ≤ cnt l (el l i).f6 l.length)) := by unfold grp; rw [decide_eq_false hg, Bool.false_or]
      rw [hgr, Bool.and_assoc, Bool.and_assoc]
      refine Ev.step (fun k => ?_) (l2_ev l hl i (by omega) s _ (ih (i + 1) (by omega)) l.length 0 (by omega))
      simp only [spec_TreeOk.l1]
      rw [if_pos (by omega), if_pos (by omega), rd_el, if_neg hg]
      rfl
end Go.Proofs.YtnfihjebbhjgjaaDoor.TreeX
end

section
/- Trees: the search for a path in a list that is in order; a path's parent comes before it. -/
namespace Go.Proofs.YtnfihjebbhjgjaaDoor.TreeX
open Go Go.RowKit Go.Proofs.YtnfihjebbhjgjaaDoor.PTt Go.Proofs.YtnfihjebbhjgjaaDoorW.PrintWords Go.Proofs.YtnfihjebbhjgjaaDoorW.PrintMore Go.Proofs.YtnfihjebbhjgjaaDoor.Arith Go.Proofs.YtnfihjebbhjgjaaDoor.Lib Go.Proofs.YtnfihjebbhjgjaaDoor.Parts Go.Proofs.YtnfihjebbhjgjaaDoor.Paths Go.Proofs.YtnfihjebbhjgjaaDoor.Nodes Go.Proofs.YtnfihjebbhjgjaaDoor.Tree
set_option linter.unusedSimpArgs false
set_option linter.unusedVariables false

theorem tl (s : ByteArray) : s.toList = s.data.toList := Go.Lib.toList_data s
theorem path_ok {x : S41} (h : okN x = true) : pathOk x.f0 = true := by
  unfold okN nodeOk at h
  simp only [Bool.and_eq_true] at h
  exact h.1
theorem par_less {s : ByteArray} (h : pathOk s = true) (hne : (Pure.parent s).toList ≠ []) : Op.bytesLess (Pure.parent s).toList s.toList = true := by
  have e : names s = namesB s := by unfold names; rw [if_pos h]
  have hn : 0 < (namesB s).length := List.length_pos_iff.2 (namesB_ne s)
  have e1 : Pure.parent s = joinB ((namesB s).take ((namesB s).length - 1)) := by unfold Pure.parent; rw [e]
  obtain ⟨m, hm⟩ : ∃ m, (namesB s).length = m + 1 := ⟨(namesB s).length - 1, by omega⟩
  have e2 : (namesB s).length - 1 = m := by omega
  rw [e2] at e1
  have hj := Pure.take_join (namesB s) m (by omega)
  rw [← hm, List.take_length, joinB_names, ← e1] at hj
  by_cases h0 : m = 0
  · subst h0
    exact absurd (by rw [e1, List.take_zero]; exact (toList_nil _).mpr rfl) hne
  · rw [if_neg h0] at hj
    generalize Pure.parent s = p at hj hne ⊢
    generalize (namesB s)[m] = q at hj
    have hL : s.toList = p.toList ++ 47 :: q.toList := by rw [tl, tl, tl, hj]; simp
    rw [hL]
    exact Ord.prefixLess _ _ _
def Sorted (l : List S41) (n : Nat) : Prop := ∀ i j, i < j → j < n → Op.bytesLess (path l i) (path l j) = true
theorem sorted_of (l : List S41) : ∀ n, (∀ j, j < n → prevOk l j = true) → Sorted l n
  | 0, _ => fun i j _ h => by omega
  | n + 1, h => fun i j hij hj => by
    have ih := sorted_of l n (fun q hq => h q (by omega))
    by_cases e : j = n
    · subst e
      have hp := h j (by omega)
      unfold prevOk at hp
      rw [decide_eq_false (show ¬ j = 0 by omega), Bool.false_or] at hp
      by_cases e2 : i = j - 1
      · subst e2; exact hp
      · exact Ord.trans (ih i (j - 1) (by omega) (by omega)) hp
    · exact ih i j hij (by omega)
theorem cmp_eq (x : S41) (p : ByteArray) : impl_place.cmp x p = some (Go.Lib.compareBytes x.f0.toList p.toList) := by rw [tl, tl]; rfl
theorem place_l0 (l : List S41) (p : ByteArray) (hl : l.length ≤ 200) (hs : Sorted l l.length) (d : Nat) : ∀ i j : Nat, j ≤ i + d → i ≤ j → j ≤ l.length → (∀ q, q < i → Op.bytesLess (path l q) p.toList = true) → (∀ q, j ≤ q → q < l.length → Op.bytesLess (path l q) p.toList = false) →
    ∃ r : Nat, Ev (fun k => impl_place.l0 k l p (i : Int) (j : Int)) (r : Int) ∧ r ≤ l.length ∧ (∀ q, q < r → Op.bytesLess (path l q) p.toList = true) ∧ (∀ q, r ≤ q → q < l.length → Op.bytesLess (path l q) p.toList = false) := by
  induction d with
  | zero =>
    intro i j h0 h1 h2 h3 h4
    obtain rfl : i = j := by omega
    exact ⟨i, ev_at fun k => by simp only [impl_place.l0]; rw [if_neg (by omega)], h2, h3, h4⟩
  | succ d ih =>
    intro i j h0 h1 h2 h3 h4
    by_cases hij : i < j
    · have eh : ((i : Int) + (j : Int)) / 2 = (((i + j) / 2 : Nat) : Int) := by omega
      obtain ⟨m, hm⟩ : ∃ m, m = (i + j) / 2 := ⟨_, rfl⟩
      rw [← hm] at eh
      have hstep : ∀ k, impl_place.l0 (k + 1) l p (i : Int) (j : Int) = (if Go.Lib.compareBytes (path l m) p.toList < 0 then impl_place.l0 k l p ((m + 1 : Nat) : Int) (j : Int) else impl_place.l0 k l p (i : Int) (m : Int)) := fun k => by
        simp only [impl_place.l0]
        rw [if_pos (by omega), if_pos (by omega), cmp_eq, Option.bind_some, eh, rd_el]
        rfl
      rcases Ord.cmp_spec (path l m) p.toList with ⟨c1, c2⟩ | hc
      · obtain ⟨r, g1, g2, g3, g4⟩ := ih (m + 1) j (by omega) (by omega) h2 (fun q hq => by
          by_cases e : q = m
          · subst e; exact c2
          · exact Ord.trans (hs q m (by omega) (by omega)) c2) h4
        exact ⟨r, Ev.step (fun k => by rw [hstep, if_pos c1]) g1, g2, g3, g4⟩
      · have c1 : ¬ Go.Lib.compareBytes (path l m) p.toList < 0 := by rcases hc with ⟨h, _⟩ | ⟨h, _⟩ <;> omega
        have c2 : Op.bytesLess (path l m) p.toList = false := by
          rcases hc with ⟨_, h⟩ | ⟨_, h⟩
          · rw [h]; exact Ord.irr _
          · exact Ord.asym h
        obtain ⟨r, g1, g2, g3, g4⟩ := ih i m (by omega) (by omega) (by omega) h3 (fun q hq hq2 => by
          by_cases e : q = m
          · subst e; exact c2
          · cases hb : Op.bytesLess (path l q) p.toList with
            | false => rfl
            | true => rw [Ord.trans (hs m q (by omega) hq2) hb] at c2; cases c2)
        exact ⟨r, Ev.step (fun k => by rw [hstep, if_neg c1]) g1, g2, g3, g4⟩
    · obtain rfl : i = j := by omega
      exact ⟨i, ev_at fun k => by simp only [impl_place.l0]; rw [if_neg (by omega)], h2, h3, h4⟩
theorem place_ev (l : List S41) (p : ByteArray) (hl : l.length ≤ 200) (hs : Sorted l l.length) : ∃ (r : Nat) (b : Bool), Ev (fun k => impl_place.f k l p) ((r : Int), b) ∧ (b = true → idxI l p = (r : Int) ∧ r < l.length) ∧ (b = false → idxI l p = -1) := by
  obtain ⟨r, g1, g2, g3, g4⟩ := place_l0 l p hl hs l.length 0 l.length (by omega) (by omega) (by omega) (fun q hq => by omega) (fun q h1 h2 => by omega)
  have hat : ∀ j, j < l.length → path l j = p.toList → j = r := fun j hj e => by
    rcases Nat.lt_trichotomy j r with h | h | h
    · have := g3 j h; rw [e, Ord.irr] at this; cases this
    · exact h
    · have h1 := hs r j h hj
      rw [e, g4 r (by omega) (by omega)] at h1; cases h1
  by_cases hr : r < l.length
  · refine ⟨r, (Go.Lib.compareBytes (path l r) p.toList == 0), ?_, fun hb => ?_, fun hb => ?_⟩
    · unfold impl_place.f
      refine Ev.bind g1 ?_
      rw [if_pos (by omega), if_pos (by omega), cmp_eq, Option.bind_some, rd_el]
      exact Ev.now _
    · have e : path l r = p.toList := by
        have h0 : Go.Lib.compareBytes (path l r) p.toList = 0 := by simpa using hb
        rcases Ord.cmp_spec (path l r) p.toList with ⟨c, _⟩ | ⟨_, c⟩ | ⟨c, _⟩
        · omega
        · exact c
        · omega
      rcases idx_spec l p with ⟨_, h2⟩ | ⟨j, h1, h2, h3⟩
      · exact absurd e (h2 r hr)
      · obtain rfl := hat j h1 h3
        exact ⟨h2, hr⟩
    · rcases idx_spec l p with ⟨h1, _⟩ | ⟨j, h1, h2, h3⟩
      · exact h1
      · obtain rfl := hat j h1 h3
        have h0 : ¬ Go.Lib.compareBytes (path l j) p.toList = 0 := by simpa using hb
        rcases Ord.cmp_spec (path l j) p.toList with ⟨_, c⟩ | ⟨c, _⟩ | ⟨_, c⟩
        · exact absurd h3 (Ord.ne c)
        · exact absurd c h0
        · exact absurd h3.symm (Ord.ne c)
  · refine ⟨r, false, ?_, fun hb => (by cases hb), fun _ => ?_⟩
    · unfold impl_place.f
      refine Ev.bind g1 ?_
      rw [if_neg (by omega)]
      exact Ev.now _
    · rcases idx_spec l p with ⟨h1, _⟩ | ⟨j, h1, h2, h3⟩
      · exact h1
      · have := hat j h1 h3; omega
theorem isDir_ev (l : List S41) (p : ByteArray) (hl : l.length ≤ 200) (hs : Sorted l l.length) : Ev (fun k => impl_isDirIn.f k l p) (isDir l p) := by
  obtain ⟨r, b, g1, g2, g3⟩ := place_ev l p hl hs
  unfold impl_isDirIn.f
  refine Ev.bind g1 ?_
  unfold isDir
  by_cases hp : p.toList = []
  · rw [if_pos hp, decide_eq_true hp]; exact Ev.now _
  · rw [if_neg hp, decide_eq_false hp, Bool.false_or]
    cases b with
    | false =>
      rw [g3 rfl, if_neg (by simp)]
      exact Ev.now _
    | true =>
      obtain ⟨h1, h2⟩ := g2 rfl
      rw [h1, if_pos rfl]
      simp only []
      rw [if_pos (by omega), if_pos (by omega), rd_el, decide_eq_true (show (0 : Int) ≤ (r : Int) by omega), Bool.true_and, Int.toNat_natCast]
      exact Ev.now _
theorem el_take (l : List S41) (i j : Nat) (h : j < i) : el (l.take i) j = el l j := by
  unfold el
  rw [List.getD_eq_getElem?_getD, List.getD_eq_getElem?_getD, List.getElem?_take, if_pos h]
theorem sorted_take {l : List S41} {i : Nat} (hi : i ≤ l.length) (hs : Sorted l i) : Sorted (l.take i) (l.take i).length := fun a b h1 h2 => by
  rw [List.length_take] at h2
  have := hs a b h1 (by omega)
  unfold path at this ⊢
  rw [el_take l i a (by omega), el_take l i b (by omega)]
  exact this
theorem isDir_take {l : List S41} (hs : Sorted l l.length) {i : Nat} (hi : i < l.length) {p : ByteArray} (hp : p.toList ≠ [] → Op.bytesLess p.toList (path l i) = true) : isDir (l.take i) p = isDir l p := by
  unfold isDir
  by_cases h0 : p.toList = []
  · rw [decide_eq_true h0]; rfl
  · have hlen : (l.take i).length = i := by rw [List.length_take]; omega
    have hlt : ∀ j, j < l.length → path l j = p.toList → j < i := fun j hj e => by
      rcases Nat.lt_trichotomy j i with h | h | h
      · exact h
      · subst h; have := hp h0; rw [e, Ord.irr] at this; cases this
      · have h1 := hs i j h hj
        rw [e] at h1
        have := Ord.trans h1 (hp h0)
        rw [Ord.irr] at this; cases this
    rw [decide_eq_false h0, Bool.false_or, Bool.false_or]
    rcases idx_spec l p with ⟨a1, a2⟩ | ⟨j, a1, a2, a3⟩
    · rcases idx_spec (l.take i) p with ⟨b1, b2⟩ | ⟨j', b1, b2, b3⟩
      · rw [a1, b1]; rfl
      · rw [hlen] at b1
        rw [el_take l i j' b1] at b3
        exact absurd b3 (a2 j' (by omega))
    · have hji := hlt j a1 a3
      rcases idx_spec (l.take i) p with ⟨b1, b2⟩ | ⟨j', b1, b2, b3⟩
      · exact absurd (by rw [el_take l i j hji]; exact a3) (b2 j (by omega))
      · rw [hlen] at b1
        have b3' := b3
        rw [el_take l i j' b1] at b3'
        have e : j' = j := by
          rcases Nat.lt_trichotomy j' j with h | h | h
          · exact absurd (show path l j' = path l j from b3'.trans a3.symm) (Ord.ne (hs j' j h a1))
          · exact h
          · exact absurd (show path l j = path l j' from a3.trans b3'.symm) (Ord.ne (hs j j' h (by omega)))
        subst e
        rw [a2, b2, Int.toNat_natCast, el_take l i j' hji]
end Go.Proofs.YtnfihjebbhjgjaaDoor.TreeX
end

section
/- Trees: what the program's test comes to, and that the reference's comes to the same. -/
namespace Go.Proofs.YtnfihjebbhjgjaaDoor.TreeX
open Go Go.RowKit Go.Proofs.YtnfihjebbhjgjaaDoor.PTt Go.Proofs.YtnfihjebbhjgjaaDoorW.PrintWords Go.Proofs.YtnfihjebbhjgjaaDoorW.PrintMore Go.Proofs.YtnfihjebbhjgjaaDoor.Arith Go.Proofs.YtnfihjebbhjgjaaDoor.Lib Go.Proofs.YtnfihjebbhjgjaaDoor.Parts Go.Proofs.YtnfihjebbhjgjaaDoor.Paths Go.Proofs.YtnfihjebbhjgjaaDoor.Nodes Go.Proofs.YtnfihjebbhjgjaaDoor.Tree
set_option linter.unusedSimpArgs false
set_option linter.unusedVariables false

theorem last_succ (l : List S41) (g : Int) (i : Nat) : impl_TreeOk.last l g (i + 1) = if (el l i).f6 = g then some (el l i) else impl_TreeOk.last l g i := by
  rw [impl_TreeOk.last, elI]
def alikeB (l : List S41) (i : Nat) : Bool := match impl_TreeOk.last l (el l i).f6 i with
  | none => true
  | some f => key f (el l i)
theorem isAlike_eq (f x : S41) : impl_isAlike.f f.f0 f.f1 f.f2 f.f3 f.f4 f.f5 f.f6 x.f0 x.f1 x.f2 x.f3 x.f4 x.f5 x.f6 = some (key f x) := by
  unfold impl_isAlike.f key
  by_cases h2 : f.f2 = x.f2 <;> by_cases h3 : f.f3 = x.f3 <;> by_cases h4 : f.f4.toList = x.f4.toList <;> simp [h2, h3, h4]
theorem alike_eq (l : List S41) (i : Nat) : impl_TreeOk.alike l (el l i) i = some (alikeB l i) := by
  unfold impl_TreeOk.alike alikeB
  cases impl_TreeOk.last l (el l i).f6 i with
  | none => rfl
  | some f => exact isAlike_eq _ _
def testI (l : List S41) (i : Nat) : Bool := okN (el l i) && (prevOk l i && (isDir (l.take i) (par l i) && (decide ((el l i).f6 = 0) || alikeB l i)))
theorem small_loop (l : List S41) (hl : l.length ≤ 200) (hz : ∀ j, j < l.length → (el l j).f4.size ≤ 20000) (d : Nat) : ∀ i : Nat, i + d = l.length → Ev (fun k => impl_areSmall.l0 k l (sumTo l i : Int) l (l.length : Int) (i : Int)) (decide ((sumTo l l.length : Int) ≤ 20000)) := by
  induction d with
  | zero =>
    intro i h
    obtain rfl : i = l.length := by omega
    refine ev_at fun k => ?_
    simp only [impl_areSmall.l0]
    rw [if_neg (by omega), if_pos (by omega)]
  | succ d ih =>
    intro i h
    have hs := sum_le l i (fun j hj => hz j (by omega))
    have hi := hz i (by omega)
    refine Ev.step (fun k => ?_) (ih (i + 1) (by omega))
    simp only [impl_areSmall.l0, sumTo]
    rw [if_pos (by omega), if_pos (by omega), if_pos (by omega), rd_el, w64s i (by omega), w64 (by omega) (by omega)]
    rfl
theorem small_ev (l : List S41) (hl : l.length ≤ 200) (hz : ∀ j, j < l.length → (el l j).f4.size ≤ 20000) : Ev (fun k => impl_areSmall.f k l) (decide ((sumTo l l.length : Int) ≤ 20000)) := by
  unfold impl_areSmall.f
  exact small_loop l hl hz l.length 0 (by omega)
theorem impl_l0 (l : List S41) (hl : l.length ≤ 200) (d : Nat) : ∀ i : Nat, i + d = l.length → (∀ j, j < i → okN (el l j) = true ∧ prevOk l j = true) →
    Ev (fun k => impl_TreeOk.l0 k l i) (upTo (testI l) d i && (!impl_TreeOk.lone l && decide ((sumTo l l.length : Int) ≤ 20000))) := by
  induction d with
  | zero =>
    intro i h hA
    obtain rfl : i = l.length := by omega
    simp only [upTo, Bool.true_and]
    cases hL : impl_TreeOk.lone l with
    | true =>
      refine ev_at fun k => ?_
      simp only [impl_TreeOk.l0]
      rw [if_neg (by omega), if_pos hL]
      rfl
    | false =>
      rw [Bool.not_false, Bool.true_and]
      refine Ev.step (fun k => ?_) (small_ev l hl (fun j hj => data_le (hA j hj).1))
      simp only [impl_TreeOk.l0]
      rw [if_neg (by omega), hL, if_neg (by simp)]
  | succ d ih =>
    intro i h hA
    have hi : i < l.length := by omega
    simp only [upTo]
    refine Ev.step (f := fun k => (impl_NodeOk.f k (el l i).f0 (el l i).f1 (el l i).f2 (el l i).f3 (el l i).f4 (el l i).f5 (el l i).f6).bind fun b => (if b = true then (if prevOk l i = true then ((impl_ParentOf.f k (el l i).f0).bind fun p => ((impl_isDirIn.f k (l.take i) p).bind fun dd => (if dd = true then (if (el l i).f6 = 0 then impl_TreeOk.l0 k l (i + 1) else ((some (alikeB l i)).bind fun a => (if a = true then impl_TreeOk.l0 k l (i + 1) else some false))) else some false))) else some false) else some false)) (fun k => by simp only [impl_TreeOk.l0, elI, prev_eq, alike_eq]; rw [if_pos hi]) ?_
    refine Ev.bind (impl_node _ _ _ _ _ _ _) ?_
    have e : nodeOk (el l i).f0 (el l i).f1 (el l i).f2 (el l i).f3 (el l i).f4 (el l i).f5 (el l i).f6 = okN (el l i) := rfl
    rw [e]
    cases hok : okN (el l i) with
    | false =>
      have ht : testI l i = false := by unfold testI; rw [hok]; rfl
      rw [ht]
      exact Ev.now _
    | true =>
      cases hpr : prevOk l i with
      | false =>
        have ht : testI l i = false := by unfold testI; rw [hok, hpr]; rfl
        rw [ht]
        exact Ev.now _
      | true =>
        have ht : testI l i = (isDir (l.take i) (par l i) && (decide ((el l i).f6 = 0) || alikeB l i)) := by unfold testI; rw [hok, hpr]; rfl
        have ihi := ih (i + 1) (by omega) (fun j hj => by
          by_cases ej : j = i
          · subst ej; exact ⟨hok, hpr⟩
          · exact hA j (by omega))
        simp only [↓reduceIte]
        rw [ht]
        refine Ev.bind (Pure.impl_parent _) ?_
        refine Ev.bind (isDir_ev (l.take i) (par l i) (by rw [List.length_take]; omega) (sorted_take (by omega) (sorted_of l i (fun j hj => (hA j hj).2)))) ?_
        cases hd : isDir (l.take i) (par l i) with
        | false => exact Ev.now _
        | true =>
          simp only [↓reduceIte]
          rw [Bool.true_and]
          by_cases h0 : (el l i).f6 = 0
          · simp only [if_pos h0]; rw [decide_eq_true h0, Bool.true_or, Bool.true_and]; exact ihi
          · simp only [if_neg h0]
            rw [decide_eq_false h0, Bool.false_or]
            cases ha : alikeB l i with
            | false => exact Ev.now _
            | true => rw [Bool.true_and]; exact ihi
theorem impl_ev (l : List S41) (hl : l.length ≤ 200) : Ev (fun k => impl_TreeOk.f k l) (upTo (testI l) l.length 0 && (!impl_TreeOk.lone l && decide ((sumTo l l.length : Int) ≤ 20000))) := by
  unfold impl_TreeOk.f
  simp only [if_neg (show ¬ (l.length : Int) > 200 by omega)]
  exact impl_l0 l hl l.length 0 (by omega) (fun j hj => by omega)
theorem key_iff (x y : S41) : key x y = true ↔ x.f2 = y.f2 ∧ x.f3 = y.f3 ∧ x.f4.toList = y.f4.toList := by unfold key; simp
theorem last_mem (l : List S41) (g : Int) (f : S41) : ∀ m, impl_TreeOk.last l g m = some f → ∃ k, k < m ∧ f = el l k ∧ (el l k).f6 = g
  | 0, h => by cases h
  | m + 1, h => by
    rw [last_succ] at h
    by_cases e : (el l m).f6 = g
    · rw [if_pos e] at h
      exact ⟨m, by omega, (Option.some.inj h).symm, e⟩
    · rw [if_neg e] at h
      obtain ⟨k, h1, h2⟩ := last_mem l g f m h
      exact ⟨k, by omega, h2⟩
theorem last_some (l : List S41) (g : Int) (k : Nat) (hk : (el l k).f6 = g) : ∀ m, k < m → ∃ f, impl_TreeOk.last l g m = some f
  | 0, h => by omega
  | m + 1, h => by
    rw [last_succ]
    by_cases e : (el l m).f6 = g
    · exact ⟨_, if_pos e⟩
    · rw [if_neg e]
      have : k ≠ m := fun e2 => e (e2 ▸ hk)
      exact last_some l g k hk m (by omega)
theorem chain (l : List S41) (g : Int) (hg : g ≠ 0) (H : ∀ j, j < l.length → (el l j).f6 = 0 ∨ alikeB l j = true) : ∀ m, m ≤ l.length → ∀ f, impl_TreeOk.last l g m = some f → ∀ k, k < m → (el l k).f6 = g → key (el l k) f = true
  | 0, _, _, _, k, h, _ => by omega
  | m + 1, hm, f, hf, k, hk, e => by
    rw [last_succ] at hf
    by_cases em : (el l m).f6 = g
    · rw [if_pos em] at hf
      obtain rfl := Option.some.inj hf
      by_cases ek : k = m
      · subst ek; rw [key_iff]; exact ⟨rfl, rfl, rfl⟩
      · obtain ⟨f', hf'⟩ := last_some l g k e m (by omega)
        have h1 := chain l g hg H m (by omega) f' hf' k (by omega) e
        have h2 : alikeB l m = true := (H m (by omega)).resolve_left (by rw [em]; exact hg)
        unfold alikeB at h2
        rw [em, hf'] at h2
        rw [key_iff] at h1 h2 ⊢
        exact ⟨h1.1.trans h2.1, h1.2.1.trans h2.2.1, h1.2.2.trans h2.2.2⟩
    · rw [if_neg em] at hf
      have : k ≠ m := fun e2 => em (e2 ▸ e)
      exact chain l g hg H m (by omega) f hf k (by omega) e
theorem lone_iff (l : List S41) : impl_TreeOk.lone l = false ↔ ∀ j, j < l.length → (el l j).f6 ≠ 0 → 2 ≤ cnt l (el l j).f6 l.length := by
  unfold impl_TreeOk.lone
  rw [List.any_eq_false]
  simp only [elI, List.mem_range, decide_eq_true_eq]
  constructor
  · intro h j hj h0
    have := h j hj
    show 2 ≤ impl_TreeOk.cnt l (el l j).f6 l.length
    omega
  · rintro h j hj ⟨h1, h2⟩
    have : 2 ≤ impl_TreeOk.cnt l (el l j).f6 l.length := h j hj h1
    omega
theorem groups (l : List S41) : ((∀ j, j < l.length → (el l j).f6 = 0 ∨ alikeB l j = true) ∧ impl_TreeOk.lone l = false) ↔ ∀ j, j < l.length → grp l j = true := by
  rw [lone_iff]
  constructor
  · rintro ⟨H, L⟩ j hj
    unfold grp
    by_cases h0 : (el l j).f6 = 0
    · rw [decide_eq_true h0]; rfl
    · rw [decide_eq_false h0, Bool.false_or, Bool.and_eq_true, decide_eq_true_eq, upTo_iff]
      refine ⟨fun k _ hk => ?_, L j hj h0⟩
      unfold mate
      by_cases e : (el l k).f6 = (el l j).f6
      · rw [decide_eq_true e, Bool.not_true, Bool.false_or]
        obtain ⟨f, hf⟩ := last_some l _ j rfl l.length hj
        have h1 := chain l _ h0 H l.length (Nat.le_refl _) f hf k (by omega) e
        have h2 := chain l _ h0 H l.length (Nat.le_refl _) f hf j hj rfl
        rw [key_iff] at h1 h2 ⊢
        exact ⟨h1.1.trans h2.1.symm, h1.2.1.trans h2.2.1.symm, h1.2.2.trans h2.2.2.symm⟩
      · rw [decide_eq_false e]; rfl
  · intro G
    have hg : ∀ j, j < l.length → (el l j).f6 ≠ 0 → (∀ k, k < l.length → mate l j k = true) ∧ 2 ≤ cnt l (el l j).f6 l.length := fun j hj h0 => by
      have := G j hj
      unfold grp at this
      rw [decide_eq_false h0, Bool.false_or, Bool.and_eq_true, decide_eq_true_eq, upTo_iff] at this
      exact ⟨fun k hk => this.1 k (by omega) (by omega), this.2⟩
    refine ⟨fun j hj => ?_, fun j hj h0 => (hg j hj h0).2⟩
    by_cases h0 : (el l j).f6 = 0
    · exact .inl h0
    · refine .inr ?_
      unfold alikeB
      cases hf : impl_TreeOk.last l (el l j).f6 j with
      | none => rfl
      | some f =>
        obtain ⟨k, h1, rfl, h3⟩ := last_mem l _ f j hf
        have := (hg j hj h0).1 k (by omega)
        unfold mate at this
        rw [decide_eq_true h3, Bool.not_true, Bool.false_or] at this
        exact this
theorem same (l : List S41) (S : Bool) : (upTo (testI l) l.length 0 && (!impl_TreeOk.lone l && S)) = (upTo (testS l) l.length 0 && (upTo (grp l) l.length 0 && S)) := by
  rw [Bool.eq_iff_iff]
  simp only [Bool.and_eq_true, Bool.not_eq_true', upTo_iff]
  have hgr := groups l
  constructor
  · rintro ⟨h1, h2, h3⟩
    have hp : ∀ j, j < l.length → okN (el l j) = true ∧ prevOk l j = true ∧ isDir (l.take j) (par l j) = true ∧ ((el l j).f6 = 0 ∨ alikeB l j = true) := fun j hj => by
      have := h1 j (by omega) (by omega)
      unfold testI at this
      simp only [Bool.and_eq_true, Bool.or_eq_true, decide_eq_true_eq] at this
      exact this
    have hs := sorted_of l l.length (fun j hj => (hp j hj).2.1)
    refine ⟨fun j _ hj => ?_, fun j _ hj => hgr.mp ⟨fun j hj => (hp j hj).2.2.2, h2⟩ j (by omega), h3⟩
    obtain ⟨a, b, c, _⟩ := hp j (by omega)
    rw [isDir_take (p := par l j) hs (by omega) (fun h => par_less (path_ok a) h)] at c
    unfold testS
    rw [a, b, c]; rfl
  · rintro ⟨h1, h2, h3⟩
    have hp : ∀ j, j < l.length → okN (el l j) = true ∧ prevOk l j = true ∧ isDir l (par l j) = true := fun j hj => by
      have := h1 j (by omega) (by omega)
      unfold testS at this
      simp only [Bool.and_eq_true] at this
      exact this
    have hs := sorted_of l l.length (fun j hj => (hp j hj).2.1)
    obtain ⟨g1, g2⟩ := hgr.mpr (fun j hj => h2 j (by omega) (by omega))
    refine ⟨fun j _ hj => ?_, g2, h3⟩
    obtain ⟨a, b, c⟩ := hp j (by omega)
    rw [← isDir_take (p := par l j) hs (by omega) (fun h => par_less (path_ok a) h)] at c
    unfold testI
    rw [a, b, c]
    rcases g1 j (by omega) with h | h
    · rw [decide_eq_true h]; rfl
    · rw [h]; simp
end Go.Proofs.YtnfihjebbhjgjaaDoor.TreeX
end

section
/- Nodes handed in: copied into the program's own type they are equal again; their size is small or the law says true at once. No condition but the length. -/
namespace Go.Proofs.YtnfihjebbhjgjaaDoor.TreeRec
open Go Go.RowKit Go.Proofs.YtnfihjebbhjgjaaDoor.PTt Go.Proofs.YtnfihjebbhjgjaaDoorW.PrintWords Go.Proofs.YtnfihjebbhjgjaaDoorW.PrintMore Go.Proofs.YtnfihjebbhjgjaaDoor.Arith Go.Proofs.YtnfihjebbhjgjaaDoor.Lib
set_option linter.unusedSimpArgs false
set_option linter.unusedVariables false

theorem getD_at {α : Type} (z : α) (l : List α) (i : Nat) (h : i < l.length) : l.getD i z = l[i] := by
  simp [List.getD_eq_getElem?_getD, List.getElem?_eq_getElem h]
def nd (x : S38) : S41 := ⟨x.f0, x.f1, x.f2, x.f3, x.f4, x.f5, x.f6⟩
def nds (l : List S38) : List S41 := l.map nd
theorem nds_length (l : List S38) : (nds l).length = l.length := by simp [nds]
theorem rdL (l : List S38) (i : Nat) (h : i < l.length) : rd_T38 l (i : Int) = l[i] := by
  unfold rd_T38; rw [Int.toNat_natCast]; exact getD_at _ _ _ h
theorem rdT (l : List S41) (i : Nat) (h : i < l.length) : rd_T41 l (i : Int) = l[i] := by
  unfold rd_T41; rw [Int.toNat_natCast]; exact getD_at _ _ _ h
theorem to_loop (l : List S38) (hl : l.length ≤ 2097152) (d : Nat) : ∀ (i : Nat) (x : List S41), i + d = l.length → x.length = l.length → x.take i = (nds l).take i → Ev (fun k => laws_toNodeS.l0 k l x i) (nds l) := by
  induction d with
  | zero =>
    intro i x h hx ht
    refine ev_at fun k => ?_
    simp only [laws_toNodeS.l0]
    rw [if_neg (by omega)]
    rw [List.take_of_length_le (by omega), List.take_of_length_le (by rw [nds_length]; omega)] at ht
    rw [ht]
  | succ d ih =>
    intro i x h hx ht
    have hi : i < l.length := by omega
    refine Ev.step (f := fun k => laws_toNodeS.l0 k l (x.set i (nd l[i])) ((i + 1 : Nat) : Int)) (fun k => ?_) (ih (i + 1) (x.set i (nd l[i])) (by omega) (by rw [List.length_set]; exact hx) ?_)
    · simp only [laws_toNodeS.l0, laws_toNode.f, Option.bind_some]
      rw [if_pos (by omega), if_pos (by omega), if_pos (by omega), w64s i (by omega), rdL l i hi, Int.toNat_natCast]
      rfl
    · have h1 : i < (x.set i (nd l[i])).length := by rw [List.length_set]; omega
      have h2 : i < (nds l).length := by rw [nds_length]; exact hi
      rw [List.take_succ_eq_append_getElem h1, List.getElem_set_self, List.take_set_of_le (Nat.le_refl i), ht, List.take_succ_eq_append_getElem h2]
      simp [nds]
theorem to_ev (l : List S38) (hl : l.length ≤ 2097152) : Ev (fun k => laws_toNodeS.f k l) (nds l) := by
  unfold laws_toNodeS.f
  simp only [if_pos (show (0 : Int) ≤ (l.length : Int) by omega), Int.toNat_natCast, if_pos (show l.length ≤ 3518437208883 by omega)]
  exact to_loop l hl l.length 0 _ (by omega) (by simp) (by simp)
theorem sz_loop (l : List S38) (hl : l.length ≤ 2097152) (d : Nat) : ∀ (i : Nat) (a : Int), i + d = l.length → ∃ t, Ev (fun k => laws_szNodeS.l0 k l a i) t := by
  induction d with
  | zero =>
    intro i a h
    refine ⟨a, ev_at fun k => ?_⟩
    simp only [laws_szNodeS.l0]
    rw [if_neg (by omega)]
  | succ d ih =>
    intro i a h
    obtain ⟨q, hq⟩ : ∃ q, laws_szNode.f (rd_T38 l i).f0 (rd_T38 l i).f1 (rd_T38 l i).f2 (rd_T38 l i).f3 (rd_T38 l i).f4 (rd_T38 l i).f5 (rd_T38 l i).f6 a = some q := by
      unfold laws_szNode.f; repeat' split
      all_goals exact ⟨_, rfl⟩
    by_cases h0 : q < 0
    · refine ⟨-1, ev_at fun k => ?_⟩
      simp only [laws_szNodeS.l0]
      rw [if_pos (by omega), if_pos (by omega), hq, Option.bind_some, if_pos h0]
    · obtain ⟨t, ht⟩ := ih (i + 1) q (by omega)
      refine ⟨t, Ev.step (fun k => ?_) ht⟩
      simp only [laws_szNodeS.l0]
      rw [if_pos (by omega), if_pos (by omega), hq, Option.bind_some, if_neg h0, w64s i (by omega)]
theorem sz_ev (l : List S38) (hl : l.length ≤ 9223372036854775807) : ∃ t, Ev (fun k => laws_szNodeS.f k l 1048576) t ∧ (t < 0 ∨ l.length ≤ 1048576) := by
  unfold laws_szNodeS.f
  rw [w64 (by omega) (by omega)]
  by_cases h : (1048576 : Int) - (l.length : Int) < 0
  · simp only [if_pos h]; exact ⟨-1, Ev.now _, Or.inl (by omega)⟩
  · simp only [if_neg h]
    obtain ⟨t, ht⟩ := sz_loop l (by omega) l.length 0 (1048576 - (l.length : Int)) (by omega)
    exact ⟨t, ht, Or.inr (by omega)⟩
theorem eq_loop (l : List S41) (hl : l.length ≤ 2097152) (d : Nat) : ∀ i : Nat, i + d = l.length → Ev (fun k => laws_eqNodeS.l0 k l l i) true := by
  induction d with
  | zero =>
    intro i h
    refine ev_at fun k => ?_
    simp only [laws_eqNodeS.l0]
    rw [if_neg (by omega)]
  | succ d ih =>
    intro i h
    refine Ev.step (f := fun k => laws_eqNodeS.l0 k l l ((i + 1 : Nat) : Int)) (fun k => ?_) (ih (i + 1) (by omega))
    simp only [laws_eqNodeS.l0, laws_eqNode.f, if_true, Option.bind_some]
    rw [if_pos (by omega), if_pos (by omega), w64s i (by omega)]
    simp
    omega
theorem eq_ev (l : List S41) (hl : l.length ≤ 2097152) : Ev (fun k => laws_eqNodeS.f k l l) true := by
  unfold laws_eqNodeS.f
  simp only [if_true]
  exact eq_loop l hl l.length 0 (by omega)
theorem op38 {H : Type} {enc : TypeId × Value → H} : Opens.Op enc Tryd.prog 38 k38 (fun _ => True) := fun w spare held fuel cs x h => by
  obtain ⟨⟨a, b, c, d, s, t, g⟩, hK, _⟩ := Opens.op_node w spare held fuel cs x h
  have hc := Opens.kNode_open hK
  exact ⟨⟨a, b, c, d, s, t, g⟩, by rw [hc]; exact k38_mk w _, trivial⟩
theorem op_nodes {H : Type} {enc : TypeId × Value → H} : Opens.Op enc Tryd.prog 22 (Kd.slice 38 k38) (fun xs => xs.length ≤ maxLen ∧ ∀ x ∈ xs, True) :=
  Opens.op_slice z38 Tryd.underlying22 (by kernel_rfl) op38
end Go.Proofs.YtnfihjebbhjgjaaDoor.TreeRec
end

section
/- Trees: what the reference's test comes to; the laws on TreeOk and Find return true at every argument: their plain statements and their walks. No condition. -/
namespace Go.Proofs.YtnfihjebbhjgjaaDoor.TreeX
open Go Go.RowKit Go.Proofs.YtnfihjebbhjgjaaDoor.PTt Go.Proofs.YtnfihjebbhjgjaaDoorW.PrintWords Go.Proofs.YtnfihjebbhjgjaaDoorW.PrintMore Go.Proofs.YtnfihjebbhjgjaaDoor.Arith Go.Proofs.YtnfihjebbhjgjaaDoor.Lib Go.Proofs.YtnfihjebbhjgjaaDoor.Parts Go.Proofs.YtnfihjebbhjgjaaDoor.Paths Go.Proofs.YtnfihjebbhjgjaaDoor.Nodes Go.Proofs.YtnfihjebbhjgjaaDoor.Tree Go.Proofs.YtnfihjebbhjgjaaDoor.TreeRec
set_option linter.unusedSimpArgs false
set_option linter.unusedVariables false

theorem j1_ev (l : List S41) (hl : l.length ≤ 200) (i : Nat) (hi : i < l.length) (s : Int) (R : Bool) (b : Bool) (hR : b = false → Ev (fun k => spec_TreeOk.l0 k l (wrap64 (s + ((el l i).f4.size : Int))) ((i + 1 : Nat) : Int)) R) :
    Ev (fun k => spec_TreeOk.j1 k l s (i : Int) b (el l i).f0 (el l i).f1 (el l i).f2 (el l i).f3 (el l i).f4 (el l i).f5 (el l i).f6) (!b && (isDir l (par l i) && R)) := by
  cases b with
  | true => exact ev_at fun k => by simp only [spec_TreeOk.j1]; rfl
  | false =>
    have hR := hR rfl
    rw [Bool.not_false, Bool.true_and]
    refine Ev.step (f := fun k => (spec_ParentOf.f k (el l i).f0).bind fun p => ((spec_l10At.f k l p).bind fun t => (if p.toList = ([] : List UInt8) then spec_TreeOk.l0 k l (wrap64 (s + ((el l i).f4.size : Int))) ((i + 1 : Nat) : Int) else (if t < 0 then some false else (if 0 ≤ t then (if t < (l.length : Int) then (if (rd_T41 l t).f1 = 0 then spec_TreeOk.l0 k l (wrap64 (s + ((el l i).f4.size : Int))) ((i + 1 : Nat) : Int) else some false) else none) else none))))) (fun k => by simp only [spec_TreeOk.j1, w64s i (by omega)]; rfl) ?_
    refine Ev.bind (Pure.spec_parent _) (Ev.bind (l10_ev l _ (by omega)) ?_)
    show Ev _ (isDir l (par l i) && R)
    unfold isDir par
    by_cases hp : (Pure.parent (el l i).f0).toList = []
    · simp only [if_pos hp]
      rw [decide_eq_true hp, Bool.true_or, Bool.true_and]; exact hR
    · simp only [if_neg hp]
      rw [decide_eq_false hp, Bool.false_or]
      rcases idx_spec l (Pure.parent (el l i).f0) with ⟨h1, _⟩ | ⟨j, h1, h2, _⟩
      · rw [h1]
        exact Ev.now _
      · rw [h2]
        simp only [if_neg (show ¬ (j : Int) < 0 by omega), if_pos (show (0 : Int) ≤ (j : Int) by omega), if_pos (show (j : Int) < (l.length : Int) by omega), rd_el]
        rw [decide_eq_true (show (0 : Int) ≤ (j : Int) by omega), Bool.true_and, Int.toNat_natCast]
        by_cases hk : (el l j).f1 = 0
        · simp only [if_pos hk]; rw [decide_eq_true hk, Bool.true_and]; exact hR
        · simp only [if_neg hk]; rw [decide_eq_false hk, Bool.false_and]; exact Ev.now _
theorem spec_l0 (l : List S41) (hl : l.length ≤ 200) (d : Nat) : ∀ i : Nat, i + d = l.length → sumTo l i ≤ 20000 * i →
    Ev (fun k => spec_TreeOk.l0 k l (sumTo l i : Int) (i : Int)) (upTo (testS l) d i && (upTo (grp l) l.length 0 && decide ((sumTo l l.length : Int) ≤ 20000))) := by
  induction d with
  | zero =>
    intro i h hs
    obtain rfl : i = l.length := by omega
    simp only [upTo, Bool.true_and]
    refine Ev.step (fun k => ?_) (l1_ev l hl (sumTo l l.length : Int) l.length 0 (by omega))
    simp only [spec_TreeOk.l0]
    rw [if_neg (by omega)]
    rfl
  | succ d ih =>
    intro i h hs
    have hi : i < l.length := by omega
    simp only [upTo]
    have hstep : ∀ k, spec_TreeOk.l0 (k + 1) l (sumTo l i : Int) (i : Int) = (spec_NodeOk.f k (el l i).f0 (el l i).f1 (el l i).f2 (el l i).f3 (el l i).f4 (el l i).f5 (el l i).f6).bind fun t => (if t = true then spec_TreeOk.j1 k l (sumTo l i : Int) (i : Int) (!prevOk l i) (el l i).f0 (el l i).f1 (el l i).f2 (el l i).f3 (el l i).f4 (el l i).f5 (el l i).f6 else spec_TreeOk.j1 k l (sumTo l i : Int) (i : Int) true (el l i).f0 (el l i).f1 (el l i).f2 (el l i).f3 (el l i).f4 (el l i).f5 (el l i).f6) := fun k => by
      simp only [spec_TreeOk.l0, rd_el, if_pos (show (i : Int) < (l.length : Int) by omega), if_pos (show (0 : Int) ≤ (i : Int) by omega)]
      by_cases h0 : i = 0
      · subst h0
        have e : prevOk l 0 = true := rfl
        simp only [if_neg (show ¬ ((0 : Nat) : Int) > 0 by omega), e, Bool.not_true]
      · have e : wrap64 ((i : Int) - 1) = ((i - 1 : Nat) : Int) := by rw [w64 (by omega) (by omega)]; omega
        have e2 : prevOk l i = Op.bytesLess (el l (i - 1)).f0.toList (el l i).f0.toList := by unfold prevOk path; rw [decide_eq_false h0, Bool.false_or]
        simp only [if_pos (show (i : Int) > 0 by omega), e, if_pos (show (0 : Int) ≤ ((i - 1 : Nat) : Int) by omega), if_pos (show ((i - 1 : Nat) : Int) < (l.length : Int) by omega), rd_el, e2]
    refine Ev.step hstep ?_
    refine Ev.bind (spec_node _ _ _ _ _ _ _) ?_
    have e : nodeOk (el l i).f0 (el l i).f1 (el l i).f2 (el l i).f3 (el l i).f4 (el l i).f5 (el l i).f6 = okN (el l i) := rfl
    rw [e]
    cases hok : okN (el l i) with
    | false =>
      have ht : testS l i = false := by unfold testS; rw [hok]; rfl
      rw [ht]
      exact j1_ev l hl i hi _ false true (fun h => by cases h)
    | true =>
      have hz := data_le hok
      have ht : testS l i = (prevOk l i && isDir l (par l i)) := by unfold testS; rw [hok]; rfl
      have ihi := ih (i + 1) (by omega) (by simp only [sumTo]; omega)
      simp only [↓reduceIte]
      rw [ht, Bool.and_assoc, Bool.and_assoc]
      have := j1_ev l hl i hi (sumTo l i : Int) _ (!prevOk l i) (fun _ => by
        rw [w64 (by omega) (by omega)]
        exact ihi)
      rw [Bool.not_not] at this
      exact this
theorem spec_ev (l : List S41) (hl : l.length ≤ 200) : Ev (fun k => spec_TreeOk.f k l) (upTo (testS l) l.length 0 && (upTo (grp l) l.length 0 && decide ((sumTo l l.length : Int) ≤ 20000))) := by
  unfold spec_TreeOk.f
  simp only [if_neg (show ¬ (l.length : Int) > 200 by omega)]
  exact spec_l0 l hl l.length 0 (by omega) (by simp [sumTo])
/-- Whether a list of nodes is a tree. -/
def tree (l : List S41) : Bool := decide (l.length ≤ 200) && (upTo (testS l) l.length 0 && (upTo (grp l) l.length 0 && decide ((sumTo l l.length : Int) ≤ 20000)))
theorem tree_spec (l : List S41) : Ev (fun k => spec_TreeOk.f k l) (tree l) := by
  unfold tree
  by_cases h : l.length ≤ 200
  · rw [decide_eq_true h, Bool.true_and]; exact spec_ev l h
  · rw [decide_eq_false h]
    unfold spec_TreeOk.f
    simp only [if_pos (show (l.length : Int) > 200 by omega)]
    exact Ev.now _
theorem tree_impl (l : List S41) : Ev (fun k => impl_TreeOk.f k l) (tree l) := by
  unfold tree
  by_cases h : l.length ≤ 200
  · rw [decide_eq_true h, Bool.true_and, ← same]; exact impl_ev l h
  · rw [decide_eq_false h]
    unfold impl_TreeOk.f
    simp only [if_pos (show (l.length : Int) > 200 by omega)]
    exact Ev.now _
theorem tree_sorted {l : List S41} (h : tree l = true) : l.length ≤ 200 ∧ Sorted l l.length := by
  unfold tree at h
  simp only [Bool.and_eq_true, decide_eq_true_eq, upTo_iff] at h
  obtain ⟨h1, h2, _⟩ := h
  refine ⟨h1, sorted_of l l.length (fun j hj => ?_)⟩
  have := h2 j (by omega) (by omega)
  unfold testS at this
  simp only [Bool.and_eq_true] at this
  exact this.2.1
def find (l : List S41) (p : ByteArray) : Int := if tree l = true then idxI l p else -1
theorem find_spec (l : List S41) (p : ByteArray) : Ev (fun k => spec_Find.f k l p) (find l p) := by
  unfold spec_Find.f find
  refine Ev.bind (tree_spec l) ?_
  cases h : tree l with
  | false => exact Ev.now _
  | true =>
    simp only [↓reduceIte]
    exact Ev.bind (l10_ev l p (by have := (tree_sorted h).1; omega)) (Ev.now _)
theorem find_impl (l : List S41) (p : ByteArray) : Ev (fun k => impl_Find.f k l p) (find l p) := by
  unfold impl_Find.f find
  refine Ev.bind (tree_impl l) ?_
  cases h : tree l with
  | false => exact Ev.now _
  | true =>
    simp only [↓reduceIte]
    obtain ⟨hl, hs⟩ := tree_sorted h
    obtain ⟨r, b, g1, g2, g3⟩ := place_ev l p hl hs
    refine Ev.bind g1 ?_
    cases b with
    | false => rw [g3 rfl]; exact Ev.now _
    | true => rw [(g2 rfl).1]; exact Ev.now _
theorem pure_tree (l : List S38) (hl : l.length ≤ 9223372036854775807) : Ev (fun k => laws_FnExactTreeOk.f k l) true := by
  unfold laws_FnExactTreeOk.f
  obtain ⟨t, ht, h⟩ := sz_ev l hl
  refine Ev.bind ht ?_
  by_cases h0 : t < 0
  · simp only [if_pos h0]; exact Ev.now _
  simp only [if_neg h0]
  have h1 : l.length ≤ 2097152 := by omega
  have h2 : (nds l).length ≤ 2097152 := by rw [nds_length]; exact h1
  refine Ev.bind (to_ev l h1) (Ev.bind (tree_spec _) (Ev.bind (to_ev l h1) (Ev.bind (tree_impl _) ?_)))
  simp only [bne_self_eq_false, Bool.false_eq_true, if_false]
  refine Ev.bind (to_ev l h1) (Ev.bind (eq_ev _ h2) ?_)
  simp only [if_true]
  exact Ev.now _
theorem pure_find (l : List S38) (p : ByteArray) (hl : l.length ≤ 9223372036854775807) : Ev (fun k => laws_FnExactFind.f k l p) true := by
  unfold laws_FnExactFind.f
  by_cases hp : (p.size : Int) > 1048576
  · simp only [if_pos hp]; exact Ev.now _
  simp only [if_neg hp]
  obtain ⟨t, ht, h⟩ := sz_ev l hl
  refine Ev.bind ht ?_
  by_cases h0 : t < 0
  · simp only [if_pos h0]; exact Ev.now _
  simp only [if_neg h0]
  have h1 : l.length ≤ 2097152 := by omega
  have h2 : (nds l).length ≤ 2097152 := by rw [nds_length]; exact h1
  refine Ev.bind (to_ev l h1) (Ev.bind (find_spec _ _) (Ev.bind (to_ev l h1) (Ev.bind (find_impl _ _) ?_)))
  simp only [if_true]
  refine Ev.bind (to_ev l h1) (Ev.bind (eq_ev _ h2) ?_)
  simp only [if_true]
  exact Ev.now _
theorem walk_tree {P : Prop} {H : Type} {enc : TypeId × Value → H} (W : World) (_ : P) (hsh : W.ShapedOpen Tryd.prog) (ad : Option Addr) (len cap : Nat) {fuel : Nat} {x : DataW H × List MemPlace} (f : DataW.trod enc Tryd.prog W 0 (fun _ => true) true fuel 22 [.slice ad len cap] = some x) :
    Calls Tryd.prog 13 #[.slice ad len cap] W fun e w' => e = .returned (.bool true) ∧ Below W.heap.size W w' := by
  obtain ⟨l, ⟨A, c, hc, hl, hr⟩, hm, _⟩ := op_nodes W _ _ _ _ _ f
  obtain ⟨rfl, rfl, rfl⟩ : ad = A ∧ len = l.length ∧ cap = c := by simpa using hc
  obtain ⟨k, hk⟩ := pure_tree l (by unfold maxLen at hm; omega)
  exact laws_FnExactTreeOk.calls k ad cap l true W (Tab.of_shaped hsh) hr hl (hk k (Nat.le_refl k))
theorem walk_find {P : Prop} {H : Type} {enc : TypeId × Value → H} (W : World) (_ : P) (hsh : W.ShapedOpen Tryd.prog) (ad : Option Addr) (len cap : Nat) {fuel : Nat} {x : DataW H × List MemPlace} (f : DataW.trod enc Tryd.prog W 0 (fun _ => true) true fuel 22 [.slice ad len cap] = some x) (p : ByteArray) (hp : p.size ≤ 140737488351232) :
    Calls Tryd.prog 14 #[.slice ad len cap, .string p] W fun e w' => e = .returned (.bool true) ∧ Below W.heap.size W w' := by
  obtain ⟨l, ⟨A, c, hc, hl, hr⟩, hm, _⟩ := op_nodes W _ _ _ _ _ f
  obtain ⟨rfl, rfl, rfl⟩ : ad = A ∧ len = l.length ∧ cap = c := by simpa using hc
  obtain ⟨k, hk⟩ := pure_find l p (by unfold maxLen at hm; omega)
  exact laws_FnExactFind.calls k ad cap l p true W (Tab.of_shaped hsh) hr hl (hk k (Nat.le_refl k))
end Go.Proofs.YtnfihjebbhjgjaaDoor.TreeX
end
