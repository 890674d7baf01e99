/- Plain arithmetic for all texts of this seat: wrap-around, remainders, bits. No condition; nothing of the program is named. -/
import Derived.Laws.BitsLemmas
import Derived.RowKit
namespace Go.Proofs.YtnfihjebbhjgjaaDoor.Arith
open Go Go.RowKit

theorem w64 {x : Int} (h0 : -9223372036854775808 ≤ x) (h1 : x < 9223372036854775808) : wrap64 x = x := by
  unfold wrap64; omega
theorem wrap_u32 (n : Int) (h₀ : 0 ≤ n) (h₁ : n < 2 ^ 32) : IntKind.u32.wrap n = n := by rw [IntKind.wrap_u32]; omega
def pair (a b : Int) : Int := b % 65536 * 65536 + a % 65536
end Go.Proofs.YtnfihjebbhjgjaaDoor.Arith
