-- The printed words (laid by the kit's print), cut to what this claim names.
import Derived.Test.YtnfihjebbhjgjaaDoorWLast
import Derived.Test.YtnfihjebbhjgjaaDoorWWords
namespace Go.Proofs.YtnfihjebbhjgjaaDoorW.PrintLast
open Go.Proofs.YtnfihjebbhjgjaaDoorW.PrintWords (Aside0)
section
variable {md : Region.Mode} {ops : Array Oper} {T : Bool × List (List Nat × List Nat)} {l l' li lj lk : Array Bool} {ds : List Nat} {i j k : Nat}
end
end Go.Proofs.YtnfihjebbhjgjaaDoorW.PrintLast
