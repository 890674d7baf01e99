/- How a signature of the laws' own type, handed in by value, reads. No condition. -/
import Derived.Test.YtbkodnhnadkhdaaDoorOpen
import Derived.Test.YtbkodnhnadkhdaaDoorProg
import Derived.KernelRfl
namespace Go.Proofs.YtbkodnhnadkhdaaDoor.OpensW
open Go Go.RowKit Go.Proofs.YtbkodnhnadkhdaaDoor.Opens Go.Proofs.YtbkodnhnadkhdaaDoorW.PrintWords
set_option linter.unusedSimpArgs false
set_option linter.unusedVariables false

abbrev Sg := Int × Int × List Int × List ByteArray
def kSig : Kd Sg := Kd.pair (Kd.int .i64) (Kd.pair (Kd.int .i64) (Kd.pair (Kd.slice 22 (Kd.int .u32)) (Kd.slice 9 Kd.string)))
def okSig (x : Sg) : Prop := (Lit.int .i64 x.1).wf = true ∧ (Lit.int .i64 x.2.1).wf = true ∧ x.2.2.1.length ≤ maxLen ∧ x.2.2.2.length ≤ maxLen ∧ ∀ y ∈ x.2.2.1, (Lit.int .u32 y).wf = true
theorem kSig_open {w : World} {x : Sg} {cs : List Value} (h : kSig.K w x cs) : ∃ A c B d, cs = [.int .i64 x.1, .int .i64 x.2.1, .slice A x.2.2.1.length c, .slice B x.2.2.2.length d] ∧ x.2.2.1.length ≤ c ∧ Kd.C (Kd.int .u32) w A x.2.2.1.length x.2.2.1 ∧ x.2.2.2.length ≤ d ∧ Kd.C Kd.string w B x.2.2.2.length x.2.2.2 := by
  obtain ⟨_, _, rfl, rfl, ⟨_, _, rfl, rfl, ⟨_, _, rfl, ⟨A, c, rfl, h1, h2⟩, ⟨B, d, rfl, h3, h4⟩⟩⟩⟩ := h
  exact ⟨A, c, B, d, rfl, h1, h2, h3, h4⟩
set_option maxRecDepth 100000 in
theorem op_sig {H : Type} {enc : TypeId × Value → H} : Opens.Op enc Tryd.prog 45 kSig okSig :=
  op_of Tryd.underlying45 (fun w spare held n cs hl hf => by
    have c0 : Tryd.prog.cellsOf 45 = 4 := by kernel_rfl
    have c1 : Tryd.prog.cellsOf 3 = 1 := by kernel_rfl
    have c2 : Tryd.prog.cellsOf 36 = 1 := by kernel_rfl
    have c3 : Tryd.prog.cellsOf 37 = 1 := by kernel_rfl
    rw [c0] at hl
    match cs, hl with
    | [u0, u1, u2, u3], _ =>
      obtain ⟨y0, h0⟩ := hf 0 _ rfl
      obtain ⟨y1, h1⟩ := hf 1 _ rfl
      obtain ⟨y2, h2⟩ := hf 2 _ rfl
      obtain ⟨y3, h3⟩ := hf 3 _ rfl
      obtain ⟨a, e0, _, wa⟩ := DataW.trod_int Tryd.underlying3 (show DataW.trod enc Tryd.prog w 0 spare held n 3 [u0] = some y0 by simpa [c1] using h0)
      obtain ⟨b, e1, _, wb⟩ := DataW.trod_int Tryd.underlying3 (show DataW.trod enc Tryd.prog w 0 spare held n 3 [u1] = some y1 by simpa [c1] using h1)
      obtain ⟨l2, k2, g2, g4⟩ := op_slice (0 : Int) Tryd.underlying36 (by kernel_rfl) (op_int (enc := enc) Tryd.underlying22) w _ _ _ _ _ (show DataW.trod enc Tryd.prog w 0 spare held n 36 [u2] = some y2 by simpa [c2] using h2)
      obtain ⟨l3, k3, g3, _⟩ := op_slice ByteArray.empty Tryd.underlying37 (by kernel_rfl) (op_string (enc := enc) Tryd.underlying9) w _ _ _ _ _ (show DataW.trod enc Tryd.prog w 0 spare held n 37 [u3] = some y3 by simpa [c3] using h3)
      cases e0; cases e1
      exact ⟨(a, b, l2, l3), ⟨[_], [_, _, _], rfl, rfl, ⟨[_], [_, _], rfl, rfl, ⟨[_], [_], rfl, k2, k3⟩⟩⟩, wa, wb, g2, g3, g4⟩)

end Go.Proofs.YtbkodnhnadkhdaaDoor.OpensW
