/- The law on SeedStrong returns true at every seed and text: its walk. No condition. -/
import Derived.Test.YtbkodnhnadkhdaaDoorStrL
namespace Go.Proofs.YtbkodnhnadkhdaaDoor.WalkFnExactSeedStrong
open Go Go.RowKit Go.Proofs.YtbkodnhnadkhdaaDoor.Str
set_option linter.unusedVariables false
theorem walk {P : Prop} (W : World) (hL : laidMetH Tryd.prog Rows.fnExactSeedStrongRow.laid W) (_ : P) (a : Int) (ha : (Lit.int .u32 a).wf = true) (s : ByteArray) (_ : s.size ≤ 140737488351232) :
    Calls Tryd.prog 5 #[.int .u32 a, .string s] W fun e w' => e = .returned (.bool true) ∧ Below W.heap.size W w' :=
  lawSeedStrong a (by simp [Lit.wf, IntKind.min, IntKind.max, IntKind.signed, IntKind.bits] at ha; omega) s W (Tab.of_laid hL)
end Go.Proofs.YtbkodnhnadkhdaaDoor.WalkFnExactSeedStrong
