/- What SigOk gives, in the program and in the reference. Condition: at most 2^21 texts. -/
import Derived.Test.YtbkodnhnadkhdaaDoorRecSigFt
namespace Go.Proofs.YtbkodnhnadkhdaaDoor.SigOk
open Go Go.RowKit Go.Proofs.YtbkodnhnadkhdaaDoor.PFt Go.Proofs.YtbkodnhnadkhdaaDoorW.PrintWords Go.Proofs.YtbkodnhnadkhdaaDoorW.PrintMore Go.Proofs.YtbkodnhnadkhdaaDoor.Arith Go.Proofs.YtbkodnhnadkhdaaDoor.Lib Go.Proofs.YtbkodnhnadkhdaaDoor.RecSig
set_option linter.unusedSimpArgs false
set_option linter.unusedVariables false

def four (s : ByteArray) : Bool := decide ((s.size : Int) = 4)
theorem all_step (l : List ByteArray) (i : Nat) (h : i < l.length) : (l.drop i).all four = (four l[i] && (l.drop (i + 1)).all four) := by
  rw [List.drop_eq_getElem_cons h]; rfl
/-- A signature that can be one. -/
def sigOk (a b : Int) (l : List Int) (m : List ByteArray) : Bool := isCut a b l.length && decide (l.length = m.length) && m.all four && decide (b = 0 ∨ 0 < l.length) && decide (slen a b l.length ≤ 20000)
end Go.Proofs.YtbkodnhnadkhdaaDoor.SigOk
