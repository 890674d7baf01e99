/- Short names for what the printed walks say often. No condition. -/
import Derived.Test.YtbkodnhnadkhdaaDoorWWords
namespace Go.Proofs.YtbkodnhnadkhdaaDoorW.PrintMore
open Go Go.RowKit Go.Proofs.YtbkodnhnadkhdaaDoorW.PrintWords Go.Proofs.YtbkodnhnadkhdaaDoorW.PrintLast
/-- n marks, by a number's bits. -/
def bm (n m : Nat) : Array Bool := ((List.range n).map fun i => m / 2 ^ i % 2 == 1).toArray
theorem q1 {α : Type} (l : List α) (i : Nat) (a : α) : l.toArray.setIfInBounds i a = (l.set i a).toArray := List.setIfInBounds_toArray ..
theorem q2 {α : Type} (l : List α) (x a : α) : (x :: l).set 0 a = a :: l := List.set_cons_zero ..
theorem q3 {α : Type} (l : List α) (x a : α) (n : Nat) : (x :: l).set (n + 1) a = x :: l.set n a := List.set_cons_succ ..
theorem q4 (n : Int) : IntKind.i64.wrap n = wrap64 n := i64_w n
theorem q5 (n : Int) : IntKind.i32.wrap n = Go.RowKit.wrap32 n := i32_w n
theorem q6 (n : Int) : IntKind.u8.wrap n = n % 256 := IntKind.wrap_u8 n
theorem q7 (n : Int) : IntKind.u32.wrap n = n % 4294967296 := IntKind.wrap_u32 n
theorem geq_str {P : Program} (t : TypeId) (w : World) (x y : ByteArray) : (binOp .geq t (.string x) (.string y)).run P w = .ok (.bool (!(Op.bytesLess x.toList y.toList))) w := by
  simp [binOp, Op.stringOp]
end Go.Proofs.YtbkodnhnadkhdaaDoorW.PrintMore
