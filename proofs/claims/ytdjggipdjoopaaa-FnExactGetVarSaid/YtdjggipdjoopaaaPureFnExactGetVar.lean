/- The program's GetVar and the reference's agree on every list of bytes, and the program writes nothing into it. No condition. -/
import Derived.Test.YtdjggipdjoopaaaPAllx3
import Derived.Test.YtdjggipdjoopaaaPAllx4
import Derived.Test.YtdjggipdjoopaaaVar
import Derived.Test.YtdjggipdjoopaaaToBytes
namespace Go.Proofs.Ytdjggipdjoopaaa.Pure
open Go Go.RowKit Go.Proofs.Ytdjggipdjoopaaa.PAll Go.Proofs.YtdjggipdjoopaaaW.PrintWords Go.Proofs.YtdjggipdjoopaaaW.PrintMore Go.Proofs.Ytdjggipdjoopaaa.Arith Go.Proofs.Ytdjggipdjoopaaa.Lib
set_option linter.unusedSimpArgs false
set_option linter.unusedVariables false

theorem bytes_take {l : List Int} (h : Bytes l) (n : Nat) : Bytes (l.take n) := fun x hx => h x (List.mem_of_mem_take hx)
theorem getVar_ev (l : List Int) (hb : Bytes l) : Ev (fun k => impl_GetVar.f k l) (Var.gvr l) := by
  have hm : (mn (l.length : Int) 9).toNat = min l.length 9 := by unfold mn; split <;> omega
  have h0 : 0 ≤ mn (l.length : Int) 9 := by unfold mn; split <;> omega
  have h1 : mn (l.length : Int) 9 ≤ (l.length : Int) := by unfold mn; split <;> omega
  unfold impl_GetVar.f
  simp only [if_pos h0, if_pos h1, hm]
  have ht : l.take (min l.length 9) = l.take 9 := by
    rcases Nat.le_total l.length 9 with h | h
    · rw [Nat.min_eq_left h, List.take_of_length_le (Nat.le_refl _), List.take_of_length_le h]
    · rw [Nat.min_eq_right h]
  rw [ht]
  have := Var.read_ev (strOfNums (l.take 9))
  rw [bytesOf_strOfNums (bytes_take hb 9), Var.gvr_take] at this
  exact Ev.bind this (Ev.now _)

theorem FnExactGetVar : laws_FnExactGetVar.Pure := by
  intro l _ _ hwf
  have hb := bytes_of_wf hwf
  apply Ev.rounds
  unfold laws_FnExactGetVar.f
  by_cases h : (l.length : Int) > 1048576
  · simp only [if_pos h]; exact Ev.now _
  simp only [if_neg h]
  refine Ev.bind (ToBytes.to_ev l (by omega)) ?_
  refine Ev.bind (Var.get_ev l hb) ?_
  refine Ev.bind (ToBytes.to_ev l (by omega)) ?_
  refine Ev.bind (getVar_ev l hb) ?_
  simp only [if_true]
  refine Ev.step (f := fun k => (laws_toByteS.f k l).bind fun t => (laws_eqByteS.f k l t).bind fun t2 => if t2 = true then some true else some false) (fun k => ?_) ?_
  · simp only [laws_FnExactGetVar.j0]
    simp
  · refine Ev.bind (ToBytes.to_ev l (by omega)) ?_
    refine Ev.bind (ToBytes.eq_ev l (by omega)) ?_
    exact Ev.now _

end Go.Proofs.Ytdjggipdjoopaaa.Pure
