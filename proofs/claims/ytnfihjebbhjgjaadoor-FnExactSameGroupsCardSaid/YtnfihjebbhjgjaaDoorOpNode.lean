/- How a node of the laws' own type, handed in by value, reads. No condition. -/
import Derived.Test.YtnfihjebbhjgjaaDoorOpen
import Derived.Test.YtnfihjebbhjgjaaDoorProg
import Derived.KernelRfl
namespace Go.Proofs.YtnfihjebbhjgjaaDoor.Opens
open Go Go.RowKit Go.Proofs.YtnfihjebbhjgjaaDoorW.PrintWords
set_option linter.unusedSimpArgs false
set_option linter.unusedVariables false

def kNode : Kd (ByteArray × Int × Int × Int × ByteArray × ByteArray × Int) := Kd.pair Kd.string (Kd.pair (Kd.int .i64) (Kd.pair (Kd.int .i64) (Kd.pair (Kd.int .i64) (Kd.pair Kd.string (Kd.pair Kd.string (Kd.int .i64))))))
def okNode (x : ByteArray × Int × Int × Int × ByteArray × ByteArray × Int) : Prop := x.1.size ≤ maxLen ∧ (Lit.int .i64 x.2.1).wf = true ∧ (Lit.int .i64 x.2.2.1).wf = true ∧ (Lit.int .i64 x.2.2.2.1).wf = true ∧ x.2.2.2.2.1.size ≤ maxLen ∧ x.2.2.2.2.2.1.size ≤ maxLen ∧ (Lit.int .i64 x.2.2.2.2.2.2).wf = true
theorem kNode_open {w : World} {x : ByteArray × Int × Int × Int × ByteArray × ByteArray × Int} {cs : List Value} (h : kNode.K w x cs) : cs = [.string x.1, .int .i64 x.2.1, .int .i64 x.2.2.1, .int .i64 x.2.2.2.1, .string x.2.2.2.2.1, .string x.2.2.2.2.2.1, .int .i64 x.2.2.2.2.2.2] := by
 obtain ⟨_, _, rfl, rfl, ⟨_, _, rfl, rfl, ⟨_, _, rfl, rfl, ⟨_, _, rfl, rfl, ⟨_, _, rfl, rfl, ⟨_, _, rfl, rfl, rfl⟩⟩⟩⟩⟩⟩ := h
 exact rfl
set_option maxRecDepth 100000 in
theorem op_node {H : Type} {enc : TypeId × Value → H} : Op enc Tryd.prog 38 kNode okNode :=
 op_of Tryd.underlying38 (fun w spare held n cs hl hf => by
  have c0 : Tryd.prog.cellsOf 38 = 7 := by kernel_rfl
  have c1 : Tryd.prog.cellsOf 3 = 1 := by kernel_rfl
  have c2 : Tryd.prog.cellsOf 9 = 1 := by kernel_rfl
  rw [c0] at hl
  match cs, hl with
  | [u0, u1, u2, u3, u4, u5, u6], _ =>
   obtain ⟨y0, h0⟩ := hf 0 _ rfl
   obtain ⟨y1, h1⟩ := hf 1 _ rfl
   obtain ⟨y2, h2⟩ := hf 2 _ rfl
   obtain ⟨y3, h3⟩ := hf 3 _ rfl
   obtain ⟨y4, h4⟩ := hf 4 _ rfl
   obtain ⟨y5, h5⟩ := hf 5 _ rfl
   obtain ⟨y6, h6⟩ := hf 6 _ rfl
   obtain ⟨p, e0, _, wp⟩ := DataW.trod_string Tryd.underlying9 (show DataW.trod enc Tryd.prog w 0 spare held n 9 [u0] = some y0 by simpa [c2] using h0)
   obtain ⟨a, e1, _, wa⟩ := DataW.trod_int Tryd.underlying3 (show DataW.trod enc Tryd.prog w 0 spare held n 3 [u1] = some y1 by simpa [c1] using h1)
   obtain ⟨b, e2, _, wb⟩ := DataW.trod_int Tryd.underlying3 (show DataW.trod enc Tryd.prog w 0 spare held n 3 [u2] = some y2 by simpa [c1] using h2)
   obtain ⟨c, e3, _, wc⟩ := DataW.trod_int Tryd.underlying3 (show DataW.trod enc Tryd.prog w 0 spare held n 3 [u3] = some y3 by simpa [c1] using h3)
   obtain ⟨s, e4, _, ws⟩ := DataW.trod_string Tryd.underlying9 (show DataW.trod enc Tryd.prog w 0 spare held n 9 [u4] = some y4 by simpa [c2] using h4)
   obtain ⟨t, e5, _, wt⟩ := DataW.trod_string Tryd.underlying9 (show DataW.trod enc Tryd.prog w 0 spare held n 9 [u5] = some y5 by simpa [c2] using h5)
   obtain ⟨d, e6, _, wd⟩ := DataW.trod_int Tryd.underlying3 (show DataW.trod enc Tryd.prog w 0 spare held n 3 [u6] = some y6 by simpa [c1] using h6)
   cases e0; cases e1; cases e2; cases e3; cases e4; cases e5; cases e6
   exact ⟨(p, a, b, c, s, t, d), ⟨[_], [_, _, _, _, _, _], rfl, rfl, ⟨[_], [_, _, _, _, _], rfl, rfl, ⟨[_], [_, _, _, _], rfl, rfl, ⟨[_], [_, _, _], rfl, rfl, ⟨[_], [_, _], rfl, rfl, ⟨[_], [_], rfl, rfl, rfl⟩⟩⟩⟩⟩⟩, wp, wa, wb, wc, ws, wt, wd⟩)

end Go.Proofs.YtnfihjebbhjgjaaDoor.Opens
