/- The program's HexText and the reference's give the same text for every list of bytes, and the program writes nothing into it. No condition. -/
import Derived.Test.YtadcjkendddgdaaPB2x1
import Derived.Test.YtadcjkendddgdaaPB2x2
import Derived.Test.YtadcjkendddgdaaPB2x3
import Derived.Test.YtadcjkendddgdaaPB2x4
import Derived.Test.YtadcjkendddgdaaPB2x5
import Derived.Test.YtadcjkendddgdaaHex
import Derived.Test.YtadcjkendddgdaaToBytesB
namespace Go.Proofs.Ytadcjkendddgdaa.Pure
open Go Go.RowKit Go.Proofs.Ytadcjkendddgdaa.PB2 Go.Proofs.YtadcjkendddgdaaW.PrintWords Go.Proofs.YtadcjkendddgdaaW.PrintMore Go.Proofs.Ytadcjkendddgdaa.Arith Go.Proofs.Ytadcjkendddgdaa.Lib
set_option linter.unusedSimpArgs false
set_option linter.unusedVariables false

theorem hex_impl (l : List Int) (hb : Bytes l) (h : ¬ (l.length : Int) > 20000) : Ev (fun k => impl_HexText.f k l) (strOfNums (Hex.hexl l)) := by
  unfold impl_HexText.f
  simp only [if_neg h]
  have := Hex.impl_ev (strOfNums l) (by rw [strOfNums_size]; omega)
  rw [bytesOf_strOfNums hb] at this
  exact Ev.bind this (Ev.now _)
theorem tail_ev (l : List Int) (h : l.length ≤ 1048576) : Ev (fun k => (laws_toByteS.f k l).bind fun t => (laws_eqByteS.f k l t).bind fun t2 => if t2 = true then some true else some false) true :=
  Ev.bind (ToBytesB.to_ev l h) (Ev.bind (ToBytesB.eq_ev l (by omega)) (Ev.now _))
theorem FnExactHexText : laws_FnExactHexText.Pure := by
  intro l _ _ hwf
  have hb := bytes_of_wf hwf
  apply Ev.rounds
  unfold laws_FnExactHexText.f
  by_cases h : (l.length : Int) > 1048576
  · simp only [if_pos h]; exact Ev.now _
  simp only [if_neg h]
  refine Ev.bind (ToBytesB.to_ev l (by omega)) ?_
  by_cases h2 : (l.length : Int) > 20000
  · refine Ev.bind (a := ⟨#[]⟩) (by unfold spec_HexText.f; simp only [if_pos h2]; exact Ev.now _) ?_
    refine Ev.bind (ToBytesB.to_ev l (by omega)) ?_
    refine Ev.bind (a := ⟨#[]⟩) (by unfold impl_HexText.f; simp only [if_pos h2]; exact Ev.now _) ?_
    simp only [if_true]
    exact tail_ev l (by omega)
  · refine Ev.bind (Hex.spec_ev l hb (by omega)) ?_
    refine Ev.bind (ToBytesB.to_ev l (by omega)) ?_
    refine Ev.bind (hex_impl l hb h2) ?_
    simp only [if_true]
    exact tail_ev l (by omega)

end Go.Proofs.Ytadcjkendddgdaa.Pure
