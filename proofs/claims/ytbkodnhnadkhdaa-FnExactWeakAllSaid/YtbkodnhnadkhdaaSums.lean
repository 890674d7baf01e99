/- What the weak sum's small functions come to, over plain numbers. Condition: the sums handed in are words. -/
import Derived.Test.YtbkodnhnadkhdaaPAllx1
import Derived.Test.YtbkodnhnadkhdaaPAllx2
import Derived.Test.YtbkodnhnadkhdaaPAllx3
import Derived.Test.YtbkodnhnadkhdaaLib
namespace Go.Proofs.Ytbkodnhnadkhdaa.Sums
open Go Go.RowKit Go.Proofs.Ytbkodnhnadkhdaa.PAll Go.Proofs.YtbkodnhnadkhdaaW.PrintWords Go.Proofs.Ytbkodnhnadkhdaa.Arith Go.Proofs.Ytbkodnhnadkhdaa.Lib
set_option linter.unusedSimpArgs false
set_option linter.unusedVariables false

theorem in_eq (a b c : Int) : spec_l01In.f a b c = some (decide (b ≤ a ∧ a ≤ c)) := by
  unfold spec_l01In.f
  by_cases h : b ≤ a <;> by_cases h' : a ≤ c <;> simp [h, h']
theorem within_eq (a b c : Int) : impl_within.f a b c = some (decide (b ≤ a ∧ a ≤ c)) := by
  unfold impl_within.f
  by_cases h : b ≤ a <;> by_cases h' : a ≤ c <;> simp [h, h']
theorem pair_eq (a b : Int) : spec_l03Pair.f a b = some (pair a b) := by
  unfold spec_l03Pair.f; rw [pair_spec]
theorem weak_eq (a b : Int) : impl_weak.f a b = some (pair a b) := by
  unfold impl_weak.f; rw [pair_impl]
theorem halves_eq (u : Int) (h0 : 0 ≤ u) (h1 : u < 4294967296) : impl_halves.f u = some (u % 65536, u / 65536) := by
  unfold impl_halves.f
  rw [and65535u, w64 (x := u % 65536) (by omega) (by omega), w64 (x := u / 65536) (by omega) (by omega)]
theorem u32_bounds {u : Int} (h : (Lit.int .u32 u).wf = true) : 0 ≤ u ∧ u < 4294967296 := by
  simp [Lit.wf, IntKind.min, IntKind.max, IntKind.signed, IntKind.bits] at h; omega

theorem roll_eq (u n o i : Int) (u0 : 0 ≤ u) (u1 : u < 4294967296) (h1 : 1 ≤ n ∧ n ≤ 20000) (h2 : 0 ≤ o ∧ o ≤ 255) (h3 : 0 ≤ i ∧ i ≤ 255) :
    ∃ v, spec_WeakRoll.f u n o i = some v ∧ impl_roll.f u n o i = some v ∧ 0 ≤ v ∧ v < 4294967296 := by
  refine ⟨pair (wrap64 (u % 65536 + (i - o))) (wrap64 (wrap64 (u / 65536 - wrap64 (n * o)) + wrap64 (u % 65536 + (i - o)))), ?_, ?_, pair_range _ _⟩
  · unfold spec_WeakRoll.f
    rw [in_eq, in_eq, in_eq]
    simp only [Option.bind_some]
    rw [decide_eq_true h1, decide_eq_true h2, decide_eq_true h3]
    simp only [if_true]
    rw [pair_eq]
    simp only [Option.bind_some]
    have e1 : Int.tmod u 65536 = u % 65536 := Int.tmod_eq_emod_of_nonneg u0
    have e3 : Int.tdiv u 65536 = u / 65536 := Int.tdiv_eq_ediv_of_nonneg u0
    rw [e1, e3, w64 (x := u % 65536) (by omega) (by omega)]
    rw [Int.emod_eq_of_lt (a := u / 65536) (by omega) (by omega)]
    rw [w64 (x := u % 65536 - o) (by omega) (by omega)]
    rw [show u % 65536 - o + i = u % 65536 + (i - o) from by omega]
  · unfold impl_roll.f
    rw [halves_eq u u0 u1]
    simp only [Option.bind_some]
    rw [weak_eq]
    simp only [Option.bind_some]
    rw [w64 (x := i - o) (by omega) (by omega)]

end Go.Proofs.Ytbkodnhnadkhdaa.Sums
