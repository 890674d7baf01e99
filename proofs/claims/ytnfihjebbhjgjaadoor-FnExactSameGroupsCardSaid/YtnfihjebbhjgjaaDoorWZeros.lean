-- The printed words (laid by the kit's print), cut to what this claim names.
import Derived.Test.YtnfihjebbhjgjaaDoorWApart
import Derived.Test.YtnfihjebbhjgjaaDoorWArr
namespace Go.Proofs.YtnfihjebbhjgjaaDoorW.PrintWords
open Go.RowKit
section
variable {P : Program}
end
namespace Kd
section
variable {P : Program} {ops : Array Oper} {rest : List Oper} {o : Oper} {a : Act} {Q : Exit → Act → World → Prop} {Kc : Act → World → Prop} {α : Type}
end
section
variable {α : Type} {d : Kd α} {e : Nat} {w : World} {base : Nat} {ok : Nat → Prop} {v : Value} {xs : List α}
end
section
variable {P : Program} {ops : Array Oper} {rest : List Oper} {o : Oper} {a : Act} {Q : Exit → Act → World → Prop} {Kc : Act → World → Prop} {α : Type}
end
end Kd
end Go.Proofs.YtnfihjebbhjgjaaDoorW.PrintWords
