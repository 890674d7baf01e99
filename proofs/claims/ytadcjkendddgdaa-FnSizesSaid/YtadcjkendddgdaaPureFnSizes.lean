/- A block's size is a multiple of 8 from 8 to 256, grows with the file, and its square is at least the file's length while the bound lets it: for every drawn length. No condition. -/
import Derived.Test.YtadcjkendddgdaaPAllx1
import Derived.Test.YtadcjkendddgdaaPAllx7
import Derived.Test.YtadcjkendddgdaaPAllx9
import Derived.Test.YtadcjkendddgdaaDraw
namespace Go.Proofs.Ytadcjkendddgdaa.Pure
open Go Go.RowKit Go.Proofs.Ytadcjkendddgdaa.PAll Go.Proofs.YtadcjkendddgdaaW.PrintWords Go.Proofs.Ytadcjkendddgdaa.Arith Go.Proofs.Ytadcjkendddgdaa.Lib
set_option linter.unusedSimpArgs false
set_option linter.unusedVariables false

/-- What is known of the size of n. -/
def Size (n r : Int) : Prop := 8 ≤ r ∧ r ≤ 256 ∧ r % 8 = 0 ∧ (r = 256 ∨ n ≤ r * r) ∧ (r = 8 ∨ (r - 8) * (r - 8) < n)
theorem size_loop (n : Int) (d : Nat) : ∀ (s : Int), 8 ≤ s → s % 8 = 0 → s + 8 * d = 256 → (s = 8 ∨ (s - 8) * (s - 8) < n) → ∃ r, Ev (fun k => impl_BlockSize.l0 k n s) r ∧ Size n r := by
  induction d with
  | zero =>
    intro s h0 h1 h2 h3
    refine ⟨s, ev_at fun k => ?_, by omega, by omega, h1, .inl (by omega), h3⟩
    simp only [impl_BlockSize.l0]
    rw [if_neg (by omega)]
  | succ d ih =>
    intro s h0 h1 h2 h3
    have hs0 : 0 ≤ s * s := Int.mul_nonneg (by omega) (by omega)
    have hs1 : s * s ≤ 256 * 256 := Int.mul_le_mul (by omega) (by omega) (by omega) (by omega)
    by_cases hn : s * s < n
    · obtain ⟨r, hr, hz⟩ := ih (s + 8) (by omega) (by omega) (by omega) (.inr (by rw [Int.add_sub_cancel]; exact hn))
      refine ⟨r, Ev.step (fun k => ?_) hr, hz⟩
      simp only [impl_BlockSize.l0]
      rw [if_pos (by omega), w64 (x := s * s) (by omega) (by omega), if_pos hn, w64 (by omega) (by omega)]
    · refine ⟨s, ev_at fun k => ?_, by omega, by omega, h1, .inr (by omega), h3⟩
      simp only [impl_BlockSize.l0]
      rw [if_pos (by omega), w64 (x := s * s) (by omega) (by omega), if_neg hn]
theorem size_ev (n : Int) : ∃ r, Ev (fun k => impl_BlockSize.f k n) r ∧ Size n r := size_loop n 31 8 (by omega) (by omega) (by omega) (.inl rfl)
theorem sq_mono {a b : Int} (h0 : 0 ≤ a) (h : a ≤ b) : a * a ≤ b * b := Int.mul_le_mul h h h0 (by omega)
theorem size_half {n r q : Int} (hn : n ≤ 65536) (hr : Size n r) (hq : Size (Int.tdiv n 2) q) : q ≤ r := by
  obtain ⟨r0, r1, r2, r3, _⟩ := hr
  obtain ⟨q0, q1, q2, _, q4⟩ := hq
  by_cases h : q ≤ r
  · exact h
  exfalso
  have hs := sq_mono (a := r) (b := q - 8) (by omega) (by omega)
  have hnn : 0 ≤ r * r := Int.mul_nonneg (by omega) (by omega)
  have h4 : (q - 8) * (q - 8) < Int.tdiv n 2 := by
    rcases q4 with h | h
    · omega
    · exact h
  have h3 : n ≤ r * r := by
    rcases r3 with h | h
    · subst h; omega
    · exact h
  rcases Int.le_total 0 n with h0 | h0
  · rw [Int.tdiv_eq_ediv_of_nonneg h0] at h4; omega
  · have : Int.tdiv n 2 ≤ 0 := by
      have := Int.tdiv_nonneg (a := -n) (b := 2) (by omega) (by omega)
      rw [Int.neg_tdiv] at this; omega
    omega
theorem half_wrap (n : Int) (h0 : -9223372036854775808 ≤ n) (h1 : n < 9223372036854775808) : wrap64 (Int.tdiv n 2) = Int.tdiv n 2 := by
  rcases Int.le_total 0 n with h | h
  · rw [Int.tdiv_eq_ediv_of_nonneg h]; exact w64 (by omega) (by omega)
  · have e : Int.tdiv n 2 = - ((-n) / 2) := by
      rw [← Int.tdiv_eq_ediv_of_nonneg (a := -n) (by omega), Int.neg_tdiv]; omega
    rw [e]; exact w64 (by omega) (by omega)

theorem law_tail (n r : Int) (hr : Size n r) (h0 : -9223372036854775808 ≤ n) (h1 : n < 9223372036854775808) : Ev (fun k => laws_FnSizes.j0 k n r false) true := by
  obtain ⟨r0, r1, r2, r3, r4⟩ := hr
  have hs0 : 0 ≤ r * r := Int.mul_nonneg (by omega) (by omega)
  have hs1 : r * r ≤ 256 * 256 := Int.mul_le_mul (by omega) (by omega) (by omega) (by omega)
  by_cases hn : n > 65536
  · have : r = 256 := by
      rcases r3 with h | h
      · exact h
      · omega
    subst this
    refine ev_at fun k => ?_
    simp only [laws_FnSizes.j0]
    rw [if_neg (by simp), if_pos hn]; rfl
  · obtain ⟨q, hq, hz⟩ := size_ev (Int.tdiv n 2)
    have hle := size_half (by omega) ⟨r0, r1, r2, r3, r4⟩ hz
    have h3 : n ≤ r * r := by
      rcases r3 with h | h
      · subst h; omega
      · exact h
    refine Ev.step (f := fun k => (impl_BlockSize.f k (Int.tdiv n 2)).bind fun t => some (decide (t ≤ r))) (fun k => ?_) ?_
    · simp only [laws_FnSizes.j0]
      rw [if_neg (by simp), if_neg hn, w64 (x := r * r) (by omega) (by omega), if_pos (by omega), half_wrap n h0 h1]
      by_cases h8 : r = 8
      · rw [if_pos h8]
      · rw [if_neg h8]
        have h5 : (r - 8) * (r - 8) < n := by
          rcases r4 with h | h
          · exact absurd h h8
          · exact h
        have h6 : 0 ≤ (r - 8) * (r - 8) := Int.mul_nonneg (by omega) (by omega)
        rw [w64 (x := r - 8) (by omega) (by omega), w64 (x := (r - 8) * (r - 8)) (by omega) (by omega), if_pos h5]
    · refine Ev.bind hq ?_
      rw [decide_eq_true hle]
      exact Ev.now _

theorem FnSizes : laws_FnSizes.Pure := by
  intro l _ _ _
  apply Ev.rounds
  unfold laws_FnSizes.f laws_big.f
  simp only [Option.bind_some]
  by_cases h : (l.length : Int) > 1048576
  · simp only [decide_eq_true h, if_true]; exact Ev.now _
  simp only [decide_eq_false h, Bool.false_eq_true, if_false]
  have hl : l.length ≤ 1048576 := by omega
  obtain ⟨h', hnew⟩ := Draw.new_ev l hl
  obtain ⟨b, i1, h1, e1, c1⟩ := Draw.once_some h' 4 (Draw.cur_new l hl)
  have hdraw : ∃ n, Ev (fun k => spec_DrawBlockSize.f k l) n ∧ -9223372036854775808 ≤ n ∧ n < 9223372036854775808 := by
    unfold spec_DrawBlockSize.f
    cases b with
    | true =>
      obtain ⟨j, i2, h2, j0, j1, e2, c2⟩ := Draw.pickInt_some h1 c1 ([(-5), 0, 64, 65, 256, 257, 65536, 65537, 9223372036854775807] : List Int) (by simp)
      refine ⟨rd ([(-5), 0, 64, 65, 256, 257, 65536, 65537, 9223372036854775807] : List Int) j, Ev.bind hnew (Ev.bind (ev_const e1) ?_), ?_⟩
      · simp only [if_true]
        exact Ev.bind (ev_const e2) (Ev.now _)
      · have : j = 0 ∨ j = 1 ∨ j = 2 ∨ j = 3 ∨ j = 4 ∨ j = 5 ∨ j = 6 ∨ j = 7 ∨ j = 8 := by simp at j1; omega
        rcases this with h | h | h | h | h | h | h | h | h <;> subst h <;> decide
    | false =>
      obtain ⟨r, i2, h2, e2, r0, r1, _, c2⟩ := Draw.below_some h1 20001 c1
      refine ⟨r, Ev.bind hnew (Ev.bind (ev_const e1) ?_), by omega, by have := r1 (by omega); omega⟩
      simp only [Bool.false_eq_true, if_false]
      exact Ev.bind (ev_const e2) (Ev.now _)
  obtain ⟨n, hn, n0, n1⟩ := hdraw
  obtain ⟨r, hr, hz⟩ := size_ev n
  refine Ev.bind hn (Ev.bind hr ?_)
  have hz' := hz
  obtain ⟨r0, r1, r2, _, _⟩ := hz'
  simp only [if_pos (show Int.tmod r 8 = 0 by rw [Int.tmod_eq_emod_of_nonneg (by omega)]; exact r2), if_neg (show ¬ r < 8 by omega), decide_eq_false (show ¬ r > 256 by omega)]
  exact law_tail n r hz n0 n1

end Go.Proofs.Ytadcjkendddgdaa.Pure
