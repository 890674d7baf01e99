/- What the weak sum's small functions come to, over plain numbers. Condition: the sums handed in are words. -/
import Derived.Test.YtbkodnhnadkhdaaDoorPFtx2
import Derived.Test.YtbkodnhnadkhdaaDoorPFtx4
import Derived.Test.YtbkodnhnadkhdaaDoorLib
namespace Go.Proofs.YtbkodnhnadkhdaaDoor.Sums
open Go Go.RowKit Go.Proofs.YtbkodnhnadkhdaaDoor.PFt Go.Proofs.YtbkodnhnadkhdaaDoorW.PrintWords Go.Proofs.YtbkodnhnadkhdaaDoor.Arith Go.Proofs.YtbkodnhnadkhdaaDoor.Lib
set_option linter.unusedSimpArgs false
set_option linter.unusedVariables false

theorem within_eq (a b c : Int) : impl_within.f a b c = some (decide (b ≤ a ∧ a ≤ c)) := by
  unfold impl_within.f
  by_cases h : b ≤ a <;> by_cases h' : a ≤ c <;> simp [h, h']
theorem weak_eq (a b : Int) : impl_weak.f a b = some (pair a b) := by
  unfold impl_weak.f; rw [pair_impl]
theorem halves_eq (u : Int) (h0 : 0 ≤ u) (h1 : u < 4294967296) : impl_halves.f u = some (u % 65536, u / 65536) := by
  unfold impl_halves.f
  rw [and65535u, w64 (x := u % 65536) (by omega) (by omega), w64 (x := u / 65536) (by omega) (by omega)]
theorem u32_bounds {u : Int} (h : (Lit.int .u32 u).wf = true) : 0 ≤ u ∧ u < 4294967296 := by
  simp [Lit.wf, IntKind.min, IntKind.max, IntKind.signed, IntKind.bits] at h; omega


end Go.Proofs.YtbkodnhnadkhdaaDoor.Sums
