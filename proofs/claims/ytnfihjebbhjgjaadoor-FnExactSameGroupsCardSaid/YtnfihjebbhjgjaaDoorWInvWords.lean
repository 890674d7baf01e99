-- The printed words (laid by the kit's print), cut to what this claim names.
import Derived.Test.YtnfihjebbhjgjaaDoorWInv
import Derived.Test.YtnfihjebbhjgjaaDoorWFootNe
namespace Go.Proofs.YtnfihjebbhjgjaaDoorW.PrintWords
open Go.RowKit
end Go.Proofs.YtnfihjebbhjgjaaDoorW.PrintWords
namespace Go.Proofs.YtnfihjebbhjgjaaDoorW.PrintLast
section
variable {ops : Array Oper} {a : Act} {o og : Oper} {g : Nat} {t : Tmp} {u : Bool}
end
end Go.Proofs.YtnfihjebbhjgjaaDoorW.PrintLast
