/- The law on NodeOk returns true at every node: its plain statement, and its walk. No condition. -/
import Derived.Test.YtnfihjebbhjgjaaDoorPPax13
import Derived.Test.YtnfihjebbhjgjaaDoorPPax15
import Derived.Test.YtnfihjebbhjgjaaDoorPPax18
import Derived.Test.YtnfihjebbhjgjaaDoorOpNode
import Derived.Test.YtnfihjebbhjgjaaDoorNode
import Derived.Test.YtnfihjebbhjgjaaDoorTabM
namespace Go.Proofs.YtnfihjebbhjgjaaDoor.WalkFnExactNodeOk
open Go Go.RowKit Go.Proofs.YtnfihjebbhjgjaaDoor.PPa Go.Proofs.YtnfihjebbhjgjaaDoorW.PrintWords Go.Proofs.YtnfihjebbhjgjaaDoorW.PrintMore Go.Proofs.YtnfihjebbhjgjaaDoor.Arith Go.Proofs.YtnfihjebbhjgjaaDoor.Lib Go.Proofs.YtnfihjebbhjgjaaDoor.Nodes
set_option linter.unusedSimpArgs false
set_option linter.unusedVariables false

theorem sz_some (a : ByteArray) (b c d : Int) (s t : ByteArray) (g : Int) (n : Int) : ∃ r, laws_szNode.f a b c d s t g n = some r := by
  unfold laws_szNode.f
  repeat' split
  all_goals exact ⟨_, rfl⟩
theorem pure_ (a : ByteArray) (b c d : Int) (s t : ByteArray) (g : Int) : Ev (fun k => laws_FnExactNodeOk.f k a b c d s t g) true := by
  unfold laws_FnExactNodeOk.f
  obtain ⟨r, hr⟩ := sz_some a b c d s t g 1048576
  rw [hr]
  simp only [Option.bind_some]
  by_cases h0 : r < 0
  · simp only [if_pos h0]; exact Ev.now _
  simp only [if_neg h0, laws_toNode.f, Option.bind_some]
  refine Ev.bind (spec_node a b c d s t g) (Ev.bind (impl_node a b c d s t g) ?_)
  simp only [bne_self_eq_false, Bool.false_eq_true, if_false]
  exact Ev.now _
theorem walk {P : Prop} {H : Type} {enc : TypeId × Value → H} (W : World) (_ : P) (hsh : W.ShapedOpen Tryd.prog) (cs : Array Value) {fuel : Nat} {x : DataW H × List MemPlace} (f : DataW.trod enc Tryd.prog W 0 (fun _ => true) true fuel 38 cs.toList = some x) :
    Calls Tryd.prog 10 #[.agg cs] W fun e w' => e = .returned (.bool true) ∧ Below W.heap.size W w' := by
  obtain ⟨⟨a, b, c, d, s, t, g⟩, hK, _⟩ := Opens.op_node W _ _ _ _ _ f
  have hc := Opens.kNode_open hK
  obtain rfl : cs = #[.string a, .int .i64 b, .int .i64 c, .int .i64 d, .string s, .string t, .int .i64 g] := by
    obtain ⟨q⟩ := cs
    simp at hc ⊢
    exact hc
  obtain ⟨k, hk⟩ := pure_ a b c d s t g
  exact laws_FnExactNodeOk.calls k a b c d s t g true W (Tab.of_shaped hsh) (hk k (Nat.le_refl k))

end Go.Proofs.YtnfihjebbhjgjaaDoor.WalkFnExactNodeOk
