-- The printed words (laid by the kit's print), cut to what this claim names.
import Derived.Test.YtnfihjebbhjgjaaDoorWWords
import Derived.Laws.StructEq
namespace Go.Proofs.YtnfihjebbhjgjaaDoorW.PrintWords
open Go.RowKit
section
variable {P : Program} {d : Nat} {xs ys : Array Value} {f : Field} {fs : List Field} {a b : Value} {r s : Bool} {w : World}
end
end Go.Proofs.YtnfihjebbhjgjaaDoorW.PrintWords
