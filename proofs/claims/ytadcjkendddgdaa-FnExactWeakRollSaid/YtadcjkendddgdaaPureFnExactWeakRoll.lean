/- The program's WeakRoll and the reference's give the same word, for every word and every three ints. No condition. -/
import Derived.Test.YtadcjkendddgdaaPAllx2
import Derived.Test.YtadcjkendddgdaaSums
namespace Go.Proofs.Ytadcjkendddgdaa.Pure
open Go Go.RowKit Go.Proofs.Ytadcjkendddgdaa.PAll Go.Proofs.YtadcjkendddgdaaW.PrintWords Go.Proofs.Ytadcjkendddgdaa.Arith Go.Proofs.Ytadcjkendddgdaa.Lib Go.Proofs.Ytadcjkendddgdaa.Sums
set_option linter.unusedSimpArgs false
set_option linter.unusedVariables false

theorem FnExactWeakRoll : laws_FnExactWeakRoll.Pure := by
  intro u n o i hu hn ho hi
  obtain ⟨u0, u1⟩ := u32_bounds hu
  unfold laws_FnExactWeakRoll.f spec_WeakRoll.f impl_WeakRoll.f
  rw [in_eq, in_eq, in_eq, within_eq, within_eq, within_eq]
  simp only [Option.bind_some]
  by_cases h1 : 1 ≤ n ∧ n ≤ 20000
  · by_cases h2 : 0 ≤ o ∧ o ≤ 255
    · by_cases h3 : 0 ≤ i ∧ i ≤ 255
      · rw [decide_eq_true h1, decide_eq_true h2, decide_eq_true h3]
        simp only [if_true]
        unfold impl_roll.f
        rw [pair_eq, halves_eq u u0 u1]
        simp only [Option.bind_some]
        rw [weak_eq]
        simp only [Option.bind_some]
        rw [if_pos]
        have e1 : Int.tmod u 65536 = u % 65536 := Int.tmod_eq_emod_of_nonneg u0
        have e3 : Int.tdiv u 65536 = u / 65536 := Int.tdiv_eq_ediv_of_nonneg u0
        rw [e1, e3, w64 (x := u % 65536) (by omega) (by omega)]
        rw [Int.emod_eq_of_lt (a := u / 65536) (by omega) (by omega)]
        rw [w64 (x := i - o) (by omega) (by omega), w64 (x := u % 65536 - o) (by omega) (by omega)]
        rw [show u % 65536 - o + i = u % 65536 + (i - o) from by omega]
      · simp [h1, h2, h3]
    · simp [h1, h2]
  · simp [h1]

end Go.Proofs.Ytadcjkendddgdaa.Pure
