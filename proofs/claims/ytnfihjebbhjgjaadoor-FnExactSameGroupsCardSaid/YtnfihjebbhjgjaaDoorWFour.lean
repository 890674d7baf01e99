-- The printed words (laid by the kit's print), cut to what this claim names.
import Derived.Test.YtnfihjebbhjgjaaDoorWTab
namespace Go.Proofs.YtnfihjebbhjgjaaDoorW.PrintLast
section
variable {P : Program} {ops : Array Oper} {Q : Exit → Act → World → Prop} {md : Region.Mode} {S : World → Prop} {ds : List Nat} {T : Bool × List (List Nat × List Nat)}
end
end Go.Proofs.YtnfihjebbhjgjaaDoorW.PrintLast
