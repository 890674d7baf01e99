/- The program's WeakAll and the reference's give the same words for every text and every int, and the answer is the caller's own. No condition. -/
import Derived.Test.YtbkodnhnadkhdaaPAllx1
import Derived.Test.YtbkodnhnadkhdaaPAllx2
import Derived.Test.YtbkodnhnadkhdaaPAllx4
import Derived.Test.YtbkodnhnadkhdaaPAllx5
import Derived.Test.YtbkodnhnadkhdaaPAllx6
import Derived.Test.YtbkodnhnadkhdaaWeak
import Derived.Test.YtbkodnhnadkhdaaMark
namespace Go.Proofs.Ytbkodnhnadkhdaa.Pure
open Go Go.RowKit Go.Proofs.Ytbkodnhnadkhdaa.PAll Go.Proofs.YtbkodnhnadkhdaaW.PrintWords Go.Proofs.YtbkodnhnadkhdaaW.PrintMore Go.Proofs.Ytbkodnhnadkhdaa.Arith Go.Proofs.Ytbkodnhnadkhdaa.Lib Go.Proofs.Ytbkodnhnadkhdaa.Sums
set_option linter.unusedSimpArgs false
set_option linter.unusedVariables false

theorem ext_size (s : ByteArray) (n : Nat) (h : n ≤ s.size) : (s.extract 0 n).size = n := by
  rw [ByteArray.size_extract]; omega
/-- Both go on from the same words to the same words. -/
theorem roll_loop (s : ByteArray) (n : Nat) (hn : 1 ≤ n ∧ n ≤ 20000) (hs : s.size ≤ 20000) (d : Nat) : ∀ (i : Nat) (out : List Int) (w : Int), i + d = s.size → n ≤ i → out.length = i - n + 1 → rd out ((i - n : Nat) : Int) = w → 0 ≤ w → w < 4294967296 →
    ∃ r, Ev (fun k => spec_WeakAll.l0 k s n out w i) r ∧ Ev (fun k => impl_weakAll.l0 k s n out i) r ∧ r.length ≤ 20001 := by
  induction d with
  | zero =>
    intro i out w h hi ho hw w0 w1
    refine ⟨out, ev_at fun k => ?_, ev_at fun k => ?_, by omega⟩
    · simp only [spec_WeakAll.l0]; rw [if_neg (by omega)]
    · simp only [impl_weakAll.l0]; rw [if_neg (by omega)]
  | succ d ih =>
    intro i out w h hi ho hw w0 w1
    have e : wrap64 ((i : Int) - (n : Int)) = ((i - n : Nat) : Int) := by rw [w64 (by omega) (by omega)]; omega
    have b1 := bt_range s ((i - n : Nat) : Int)
    have b2 := bt_range s (i : Int)
    obtain ⟨v, hv1, hv2, v0, v1⟩ := roll_eq w n (bt s ((i - n : Nat) : Int)) (bt s i) w0 w1 (by omega) (by omega) (by omega)
    have hr : rd (out ++ [v]) ((i + 1 - n : Nat) : Int) = v := by
      rw [rd_lt _ _ (by simp; omega), List.getElem_append_right (by omega)]; simp
    obtain ⟨r, h1, h2, h3⟩ := ih (i + 1) (out ++ [v]) v (by omega) (by omega) (by simp; omega) hr v0 v1
    refine ⟨r, Ev.step (fun k => ?_) h1, Ev.step (fun k => ?_) h2, h3⟩
    · simp only [spec_WeakAll.l0]
      rw [e, if_pos (by omega), if_pos (by omega), if_pos (by omega), if_pos (by omega), w64b, w64b, hv1]
      simp only [Option.bind_some]
      rw [if_pos (by omega), w64s i (by omega)]
    · simp only [impl_weakAll.l0]
      rw [e, if_pos (by omega), if_pos (by omega), if_pos (by omega), if_pos (by omega), if_pos (by omega), hw, w64b, w64b, hv2]
      simp only [Option.bind_some]
      rw [if_pos (by omega), w64s i (by omega)]

theorem all_eq (s : ByteArray) (a : Int) : ∃ r, Ev (fun k => spec_WeakAll.f k s a) r ∧ Ev (fun k => impl_WeakAll.f k s a) r ∧ r.length ≤ 20001 := by
  unfold spec_WeakAll.f impl_WeakAll.f
  simp only [Option.bind_some]
  rw [in_eq, within_eq]
  simp only [Option.bind_some]
  have hnil : Ev (fun k => spec_WeakAll.j0 k s a [] true) [] := ev_at fun k => by simp [spec_WeakAll.j0]
  by_cases h1 : 1 ≤ a ∧ a ≤ 20000
  · simp only [decide_eq_true h1, if_true]
    by_cases h2 : (s.size : Int) > 20000
    · simp only [if_pos h2]
      exact ⟨[], hnil, Ev.now _, by simp⟩
    · simp only [if_neg h2]
      unfold impl_weakAll.f
      simp only [if_neg (show ¬ a < 1 by omega)]
      by_cases h3 : (s.size : Int) < a
      · rw [decide_eq_true h3]
        refine ⟨[], hnil, Ev.bind (a := []) (ev_at fun k => by simp [impl_weakAll.j0]) (Ev.now _), by simp⟩
      · rw [decide_eq_false h3]
        obtain ⟨n, rfl⟩ := Int.eq_ofNat_of_zero_le (show 0 ≤ a by omega)
        have hz := ext_size s n (by omega)
        have hsp : Ev (fun k => spec_WeakOf.f k (s.extract 0 n)) (Weak.weakOf (s.extract 0 n)) := by
          unfold spec_WeakOf.f
          simp only [if_neg (show ¬ ((s.extract 0 n).size : Int) > 20000 by omega)]
          exact Weak.spec_ev _ (by omega)
        have him := Weak.impl_ev (s.extract 0 n) (by omega)
        have hw := pair_range (Weak.wa (bytesOf (s.extract 0 n))) (Weak.wb (bytesOf (s.extract 0 n)))
        obtain ⟨r, r1, r2, r3⟩ := roll_loop s n (by omega) (by omega) (s.size - n) n [Weak.weakOf (s.extract 0 n)] (Weak.weakOf (s.extract 0 n)) (by omega) (by omega) (by simp) (by simp [rd]) hw.1 hw.2
        refine ⟨r, ?_, ?_, r3⟩
        · refine Ev.step (f := fun k => (spec_WeakOf.f k (s.extract 0 n)).bind fun t => spec_WeakAll.l0 k s n [t] t n) (fun k => ?_) (Ev.bind hsp r1)
          simp only [spec_WeakAll.j0]
          rw [if_neg (by simp), if_pos (by omega), if_pos (by omega), Int.toNat_natCast]
          congr 1
        · refine Ev.bind (a := r) ?_ (Ev.now _)
          refine Ev.step (f := fun k => (impl_weakOf.f k (s.extract 0 n)).bind fun t => impl_weakAll.l0 k s n [t] n) (fun k => ?_) (Ev.bind him r2)
          simp only [impl_weakAll.j0]
          rw [if_neg (by simp), if_pos (by omega), if_pos (by omega), Int.toNat_natCast]
  · simp only [decide_eq_false h1, Bool.false_eq_true, if_false]
    exact ⟨[], hnil, Ev.now _, by simp⟩

theorem FnExactWeakAll : laws_FnExactWeakAll.Pure := by
  intro s a _ _
  apply Ev.rounds
  unfold laws_FnExactWeakAll.f
  by_cases h : (s.size : Int) > 1048576
  · simp only [if_pos h]; exact Ev.now _
  simp only [if_neg h]
  obtain ⟨r, h1, h2, h3⟩ := all_eq s a
  refine Ev.bind h1 (Ev.bind h2 (Ev.bind (Mark.eq_evUint32S r (by omega)) ?_))
  simp only [if_true]
  refine Ev.bind (Mark.mark_evUint32S r (by omega)) (Ev.bind (Mark.held_evUint32S r.length (by omega)) ?_)
  simp only [if_neg (show ¬ ((r.length + 1 : Nat) : Int) < 0 by omega), if_true]
  refine Ev.bind h2 (Ev.bind (Mark.eq_evUint32S r (by omega)) ?_)
  simp only [if_true]
  refine Ev.bind (Mark.held_evUint32S r.length (by omega)) ?_
  simp only [if_neg (show ¬ ((r.length + 1 : Nat) : Int) < 0 by omega), if_true]
  exact Ev.now _

end Go.Proofs.Ytbkodnhnadkhdaa.Pure
