/- How a token of the laws' own type, handed in by value, reads. No condition. -/
import Derived.Test.YtbkodnhnadkhdaaOpen
import Derived.Test.YtbkodnhnadkhdaaProg
import Derived.KernelRfl
namespace Go.Proofs.Ytbkodnhnadkhdaa.Opens
open Go Go.RowKit Go.Proofs.YtbkodnhnadkhdaaW.PrintWords
set_option linter.unusedSimpArgs false
set_option linter.unusedVariables false

def kTok : Kd (Int × ByteArray × Int × Int) := Kd.pair (Kd.int .i64) (Kd.pair Kd.string (Kd.pair (Kd.int .i64) (Kd.int .i64)))
def okTok (x : Int × ByteArray × Int × Int) : Prop := (Lit.int .i64 x.1).wf = true ∧ x.2.1.size ≤ maxLen ∧ (Lit.int .i64 x.2.2.1).wf = true ∧ (Lit.int .i64 x.2.2.2).wf = true
theorem kTok_open {w : World} {x : Int × ByteArray × Int × Int} {cs : List Value} (h : kTok.K w x cs) : cs = [.int .i64 x.1, .string x.2.1, .int .i64 x.2.2.1, .int .i64 x.2.2.2] := by
  obtain ⟨_, _, rfl, rfl, ⟨_, _, rfl, rfl, ⟨_, _, rfl, rfl, rfl⟩⟩⟩ := h
  exact rfl
set_option maxRecDepth 100000 in
theorem op_tok {H : Type} {enc : TypeId × Value → H} : Op enc Try.prog 71 kTok okTok :=
  op_of Try.underlying71 (fun w spare held n cs hl hf => by
    have c0 : Try.prog.cellsOf 71 = 4 := by kernel_rfl
    have c1 : Try.prog.cellsOf 3 = 1 := by kernel_rfl
    have c2 : Try.prog.cellsOf 9 = 1 := by kernel_rfl
    rw [c0] at hl
    match cs, hl with
    | [u0, u1, u2, u3], _ =>
      obtain ⟨y0, h0⟩ := hf 0 _ rfl
      obtain ⟨y1, h1⟩ := hf 1 _ rfl
      obtain ⟨y2, h2⟩ := hf 2 _ rfl
      obtain ⟨y3, h3⟩ := hf 3 _ rfl
      obtain ⟨a, e0, _, wa⟩ := DataW.trod_int Try.underlying3 (show DataW.trod enc Try.prog w 0 spare held n 3 [u0] = some y0 by simpa [c1] using h0)
      obtain ⟨s, e1, _, ws⟩ := DataW.trod_string Try.underlying9 (show DataW.trod enc Try.prog w 0 spare held n 9 [u1] = some y1 by simpa [c2] using h1)
      obtain ⟨b, e2, _, wb⟩ := DataW.trod_int Try.underlying3 (show DataW.trod enc Try.prog w 0 spare held n 3 [u2] = some y2 by simpa [c1] using h2)
      obtain ⟨c, e3, _, wc⟩ := DataW.trod_int Try.underlying3 (show DataW.trod enc Try.prog w 0 spare held n 3 [u3] = some y3 by simpa [c1] using h3)
      cases e0; cases e1; cases e2; cases e3
      exact ⟨(a, s, b, c), ⟨[_], [_, _, _], rfl, rfl, ⟨[_], [_, _], rfl, rfl, ⟨[_], [_], rfl, rfl, rfl⟩⟩⟩, wa, ws, wb, wc⟩)

end Go.Proofs.Ytbkodnhnadkhdaa.Opens
