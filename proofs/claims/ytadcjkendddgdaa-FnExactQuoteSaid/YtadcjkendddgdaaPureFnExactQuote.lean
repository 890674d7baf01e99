/- The program's Quote and the reference's give the same text for every text. No condition. -/
import Derived.Test.YtadcjkendddgdaaPQtx1
import Derived.Test.YtadcjkendddgdaaPQtx4
import Derived.Test.YtadcjkendddgdaaPQtx5
import Derived.Test.YtadcjkendddgdaaLib
namespace Go.Proofs.Ytadcjkendddgdaa.Pure
open Go Go.RowKit Go.Proofs.Ytadcjkendddgdaa.PQt Go.Proofs.YtadcjkendddgdaaW.PrintWords Go.Proofs.YtadcjkendddgdaaW.PrintMore Go.Proofs.Ytadcjkendddgdaa.Arith Go.Proofs.Ytadcjkendddgdaa.Lib
set_option linter.unusedSimpArgs false
set_option linter.unusedVariables false

def mark (c : Int) : Bool := decide (c = 42) || decide (c = 63) || decide (c = 91) || decide (c = 92)
theorem mark_all : ∀ n : Fin 256, decide (impl_Quote.wild (n.val : Int) ≥ 0) = mark (n.val : Int) := of_decide_eq_true (by kernel_rfl)
theorem mark_eq (s : ByteArray) (i : Int) : decide (impl_Quote.wild (bt s i) ≥ 0) = mark (bt s i) := by
  have hr := bt_range s i
  have := mark_all ⟨(bt s i).toNat, by omega⟩
  rwa [show (((⟨(bt s i).toNat, by omega⟩ : Fin 256).val : Nat) : Int) = bt s i from by simp; omega] at this
/-- The quoted bytes. -/
def quo : List Int → List Int
  | [] => []
  | c :: l => if mark c then 92 :: c :: quo l else c :: quo l
theorem impl_loop (s : ByteArray) (hs : s.size ≤ 1048576) (d : Nat) : ∀ (i : Nat) (acc : List Int), i + d = s.size → acc.length ≤ 2 * i → impl_Quote.l0 (d + 1) s i acc = some (strOfNums (acc ++ quo ((bytesOf s).drop i))) := by
  induction d with
  | zero =>
    intro i acc h ha
    rw [impl_Quote.l0, if_neg (by omega), drop_end s i (by omega)]
    simp [quo]
  | succ d ih =>
    intro i acc h ha
    have hm := mark_eq s i
    rw [impl_Quote.l0, if_pos (by omega), if_pos (by omega), if_pos (by omega), w64s i (by omega), drop_bt s i (by omega)]
    by_cases hc : impl_Quote.wild (bt s i) ≥ 0
    · rw [decide_eq_true hc] at hm
      rw [if_pos hc, ih (i + 1) _ (by omega) (by simp; omega), quo, ← hm]
      simp
    · rw [decide_eq_false hc] at hm
      rw [if_neg hc, ih (i + 1) _ (by omega) (by simp; omega), quo, ← hm]
      simp
theorem spec_loop (s : ByteArray) (hs : s.size ≤ 1048576) (d : Nat) : ∀ (i : Nat) (acc : List Int), i + d = s.size → acc.length ≤ 2 * i → Ev (fun k => spec_Quote.l0 k s acc i) (strOfNums (acc ++ quo ((bytesOf s).drop i))) := by
  induction d with
  | zero =>
    intro i acc h ha
    refine ev_at fun k => ?_
    simp only [spec_Quote.l0]
    rw [if_neg (by omega), drop_end s i (by omega)]
    simp [quo]
  | succ d ih =>
    intro i acc h ha
    rw [drop_bt s i (by omega)]
    have hS : ∀ k, spec_Quote.l0 (k + 1) s acc i = if mark (bt s i) then spec_Quote.l0 k s ((acc ++ [92]) ++ [bt s i]) ((i + 1 : Nat) : Int) else spec_Quote.l0 k s (acc ++ [bt s i]) ((i + 1 : Nat) : Int) := by
      intro k
      have h1 : acc.length < 140737488355328 := by omega
      have h2 : (acc ++ [(92 : Int)]).length < 140737488355328 := by simp; omega
      simp only [spec_Quote.l0, Option.bind_some]
      rw [if_pos (by omega), if_pos (by omega), w64s i (by omega)]
      simp only [if_pos h1, if_pos h2]
      unfold mark
      by_cases c1 : bt s i = 42
      · simp [c1]
      by_cases c2 : bt s i = 63
      · simp [c2]
      by_cases c3 : bt s i = 91
      · simp [c3]
      by_cases c4 : bt s i = 92
      · simp [c4]
      simp [c1, c2, c3, c4]
    cases hm : mark (bt s i) with
    | true =>
      have e : acc ++ quo (bt s i :: (bytesOf s).drop (i + 1)) = ((acc ++ [92]) ++ [bt s i]) ++ quo ((bytesOf s).drop (i + 1)) := by simp [quo, hm]
      rw [e]
      exact Ev.step (fun k => by rw [hS, hm, if_pos rfl]) (ih (i + 1) _ (by omega) (by simp; omega))
    | false =>
      have e : acc ++ quo (bt s i :: (bytesOf s).drop (i + 1)) = (acc ++ [bt s i]) ++ quo ((bytesOf s).drop (i + 1)) := by simp [quo, hm]
      rw [e]
      exact Ev.step (fun k => by rw [hS, hm, if_neg (by decide)]) (ih (i + 1) _ (by omega) (by simp; omega))
theorem FnExactQuote : laws_FnExactQuote.Pure := by
  intro s _
  apply Ev.rounds
  unfold laws_FnExactQuote.f
  by_cases h : (s.size : Int) > 1048576
  · simp only [if_pos h]; exact Ev.now _
  simp only [if_neg h]
  have h1 := spec_loop s (by omega) s.size 0 [] (by omega) (by simp)
  have h2 := impl_loop s (by omega) s.size 0 [] (by omega) (by simp)
  rw [show ((0 : Nat) : Int) = 0 from rfl] at h2
  refine Ev.bind (g := fun k => spec_Quote.f k s) h1 ?_
  unfold impl_Quote.f
  rw [h2]
  simp only [Option.bind_some, if_true]
  exact Ev.now _

end Go.Proofs.Ytadcjkendddgdaa.Pure
