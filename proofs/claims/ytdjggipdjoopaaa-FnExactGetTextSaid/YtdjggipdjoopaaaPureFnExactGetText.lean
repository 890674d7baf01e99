/- The program's GetText and the reference's agree on every list of bytes, and the program writes nothing into it. No condition. -/
import Derived.Test.YtdjggipdjoopaaaPAllx3
import Derived.Test.YtdjggipdjoopaaaPAllx4
import Derived.Test.YtdjggipdjoopaaaPAllx5
import Derived.Test.YtdjggipdjoopaaaVar
import Derived.Test.YtdjggipdjoopaaaToBytes
namespace Go.Proofs.Ytdjggipdjoopaaa.Pure
open Go Go.RowKit Go.Proofs.Ytdjggipdjoopaaa.PAll Go.Proofs.YtdjggipdjoopaaaW.PrintWords Go.Proofs.YtdjggipdjoopaaaW.PrintMore Go.Proofs.Ytdjggipdjoopaaa.Arith Go.Proofs.Ytdjggipdjoopaaa.Lib
set_option linter.unusedSimpArgs false
set_option linter.unusedVariables false

theorem gvr_range (l : List Int) : 0 ≤ (Var.gvr l).1 ∧ (Var.gvr l).1 < 9223372036854775808 ∧ 0 ≤ (Var.gvr l).2 ∧ (Var.gvr l).2 ≤ 9 ∧ (Var.gvr l).2 ≤ (l.length : Int) := by
  unfold Var.gvr
  cases h : Var.fs 9 l with
  | none => simp
  | some n =>
    obtain ⟨h1, h2⟩ := Var.fs_lt h
    simp only
    split
    · simp
    · have h3 := Var.val_take_range l (n + 1)
      have h4 := Var.pow128_le (i := n + 1) (by omega)
      refine ⟨h3.1, by omega, by omega, by omega, by omega⟩
def txt (l : List Int) : ByteArray × Int :=
  if (Var.gvr l).2 = 0 ∨ (Var.gvr l).1 > 20000 ∨ (Var.gvr l).1 > (l.length : Int) - (Var.gvr l).2 then (⟨#[]⟩, 0)
  else (strOfNums ((l.take ((Var.gvr l).2 + (Var.gvr l).1).toNat).drop (Var.gvr l).2.toNat), (Var.gvr l).2 + (Var.gvr l).1)
theorem spec_ev (l : List Int) (hb : Bytes l) (hl : l.length ≤ 1048576) : Ev (fun k => spec_GetText.f k l) (txt l) := by
  obtain ⟨g0, g1, g2, g3, g4⟩ := gvr_range l
  unfold spec_GetText.f
  refine Ev.bind (Var.get_ev l hb) ?_
  unfold txt
  generalize (Var.gvr l).1 = x at *
  generalize (Var.gvr l).2 = n at *
  by_cases h1 : n = 0
  · simp only [if_pos h1, h1, true_or, if_true]; exact Ev.now _
  simp only [if_neg h1, h1, false_or]
  by_cases h2 : x > 20000
  · simp only [if_pos h2, h2, true_or, if_true]; exact Ev.now _
  simp only [if_neg h2, h2, false_or]
  have e1 : wrap64 ((l.length : Int) - n) = (l.length : Int) - n := w64 (by omega) (by omega)
  have e2 : wrap64 (n + x) = n + x := w64 (by omega) (by omega)
  rw [e1, e2]
  by_cases h3 : x > (l.length : Int) - n
  · simp only [if_pos h3]; exact Ev.now _
  simp only [if_neg h3, if_pos g2, if_pos (show n ≤ n + x by omega), if_pos (show n + x ≤ (l.length : Int) by omega)]
  exact Ev.now _
theorem impl_ev (l : List Int) (hb : Bytes l) (hl : l.length ≤ 1048576) : Ev (fun k => impl_GetText.f k l) (txt l) := by
  obtain ⟨g0, g1, g2, g3, g4⟩ := gvr_range l
  unfold impl_GetText.f
  refine Ev.bind (a := txt l) ?_ (Ev.now _)
  unfold impl_readText.f
  have hr := Var.read_ev (strOfNums l)
  rw [bytesOf_strOfNums hb] at hr
  refine Ev.bind hr ?_
  unfold txt
  rw [strOfNums_size]
  generalize (Var.gvr l).1 = x at *
  generalize (Var.gvr l).2 = n at *
  by_cases h1 : n = 0
  · simp only [if_pos h1, h1, true_or, if_true]; exact Ev.now _
  simp only [if_neg h1, h1, false_or]
  by_cases h2 : x > 20000
  · simp only [if_pos h2, h2, true_or, if_true]; exact Ev.now _
  simp only [if_neg h2, h2, false_or]
  have e1 : wrap64 ((l.length : Int) - n) = (l.length : Int) - n := w64 (by omega) (by omega)
  have e2 : wrap64 (n + x) = n + x := w64 (by omega) (by omega)
  rw [e1, e2]
  by_cases h3 : x > (l.length : Int) - n
  · simp only [if_pos h3]; exact Ev.now _
  simp only [if_neg h3, if_pos g2, if_pos (show n ≤ n + x by omega), if_pos (show n + x ≤ (l.length : Int) by omega)]
  rw [extract_strOfNums]
  exact Ev.now _

theorem FnExactGetText : laws_FnExactGetText.Pure := by
  intro l _ _ hwf
  have hb := bytes_of_wf hwf
  apply Ev.rounds
  unfold laws_FnExactGetText.f
  by_cases h : (l.length : Int) > 1048576
  · simp only [if_pos h]; exact Ev.now _
  simp only [if_neg h]
  refine Ev.bind (ToBytes.to_ev l (by omega)) ?_
  refine Ev.bind (spec_ev l hb (by omega)) ?_
  refine Ev.bind (ToBytes.to_ev l (by omega)) ?_
  refine Ev.bind (impl_ev l hb (by omega)) ?_
  simp only [if_true]
  refine Ev.step (f := fun k => (laws_toByteS.f k l).bind fun t => (laws_eqByteS.f k l t).bind fun t2 => if t2 = true then some true else some false) (fun k => ?_) ?_
  · simp only [laws_FnExactGetText.j0]
    simp
  · refine Ev.bind (ToBytes.to_ev l (by omega)) ?_
    refine Ev.bind (ToBytes.eq_ev l (by omega)) ?_
    exact Ev.now _

end Go.Proofs.Ytdjggipdjoopaaa.Pure
