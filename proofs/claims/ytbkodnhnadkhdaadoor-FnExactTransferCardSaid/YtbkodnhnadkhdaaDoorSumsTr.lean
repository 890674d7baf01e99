/- What the weak sum's small functions come to, over plain numbers. Condition: the sums handed in are words. -/
import Derived.Test.YtbkodnhnadkhdaaDoorPTrx1
import Derived.Test.YtbkodnhnadkhdaaDoorPTrx3
import Derived.Test.YtbkodnhnadkhdaaDoorPTrx9
import Derived.Test.YtbkodnhnadkhdaaDoorPTrx12
import Derived.Test.YtbkodnhnadkhdaaDoorLib
namespace Go.Proofs.YtbkodnhnadkhdaaDoor.Sums
open Go Go.RowKit Go.Proofs.YtbkodnhnadkhdaaDoor.PTr Go.Proofs.YtbkodnhnadkhdaaDoorW.PrintWords Go.Proofs.YtbkodnhnadkhdaaDoor.Arith Go.Proofs.YtbkodnhnadkhdaaDoor.Lib
set_option linter.unusedSimpArgs false
set_option linter.unusedVariables false

theorem in_eq (a b c : Int) : spec_l01In.f a b c = some (decide (b ≤ a ∧ a ≤ c)) := by
  unfold spec_l01In.f
  by_cases h : b ≤ a <;> by_cases h' : a ≤ c <;> simp [h, h']
theorem within_eq (a b c : Int) : impl_within.f a b c = some (decide (b ≤ a ∧ a ≤ c)) := by
  unfold impl_within.f
  by_cases h : b ≤ a <;> by_cases h' : a ≤ c <;> simp [h, h']
theorem pair_eq (a b : Int) : spec_l03Pair.f a b = some (pair a b) := by
  unfold spec_l03Pair.f; rw [pair_spec]
theorem weak_eq (a b : Int) : impl_weak.f a b = some (pair a b) := by
  unfold impl_weak.f; rw [pair_impl]
theorem halves_eq (u : Int) (h0 : 0 ≤ u) (h1 : u < 4294967296) : impl_halves.f u = some (u % 65536, u / 65536) := by
  unfold impl_halves.f
  rw [and65535u, w64 (x := u % 65536) (by omega) (by omega), w64 (x := u / 65536) (by omega) (by omega)]
end Go.Proofs.YtbkodnhnadkhdaaDoor.Sums
