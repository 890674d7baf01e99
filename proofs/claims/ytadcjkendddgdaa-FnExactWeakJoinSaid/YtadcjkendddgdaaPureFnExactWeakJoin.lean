/- The program's WeakJoin and the reference's give the same word, for every two words and every int. No condition. -/
import Derived.Test.YtadcjkendddgdaaPAllx1
import Derived.Test.YtadcjkendddgdaaPAllx2
import Derived.Test.YtadcjkendddgdaaSums
namespace Go.Proofs.Ytadcjkendddgdaa.Pure
open Go Go.RowKit Go.Proofs.Ytadcjkendddgdaa.PAll Go.Proofs.YtadcjkendddgdaaW.PrintWords Go.Proofs.Ytadcjkendddgdaa.Arith Go.Proofs.Ytadcjkendddgdaa.Lib Go.Proofs.Ytadcjkendddgdaa.Sums
set_option linter.unusedSimpArgs false
set_option linter.unusedVariables false

theorem FnExactWeakJoin : laws_FnExactWeakJoin.Pure := by
  intro u v n hu hv hn
  obtain ⟨u0, u1⟩ := u32_bounds hu
  obtain ⟨v0, v1⟩ := u32_bounds hv
  unfold laws_FnExactWeakJoin.f spec_WeakJoin.f impl_WeakJoin.f
  rw [in_eq, within_eq]
  simp only [Option.bind_some]
  by_cases h : 0 ≤ n ∧ n ≤ 20000
  · rw [decide_eq_true h, if_pos rfl, if_pos rfl, pair_eq, halves_eq u u0 u1, halves_eq v v0 v1]
    simp only [Option.bind_some]
    rw [weak_eq]
    simp only [Option.bind_some]
    rw [if_pos]
    have e1 : Int.tmod u 65536 = u % 65536 := Int.tmod_eq_emod_of_nonneg u0
    have e2 : Int.tmod v 65536 = v % 65536 := Int.tmod_eq_emod_of_nonneg v0
    have e3 : Int.tdiv u 65536 = u / 65536 := Int.tdiv_eq_ediv_of_nonneg u0
    have e4 : Int.tdiv v 65536 = v / 65536 := Int.tdiv_eq_ediv_of_nonneg v0
    rw [e1, e2, e3, e4, w64 (x := u % 65536) (by omega) (by omega), w64 (x := v % 65536) (by omega) (by omega)]
    rw [Int.emod_eq_of_lt (a := u / 65536) (by omega) (by omega), Int.emod_eq_of_lt (a := v / 65536) (by omega) (by omega)]
    rw [w64 (x := u / 65536 + v / 65536) (by omega) (by omega)]
  · rw [decide_eq_false h]
    simp

end Go.Proofs.Ytadcjkendddgdaa.Pure
