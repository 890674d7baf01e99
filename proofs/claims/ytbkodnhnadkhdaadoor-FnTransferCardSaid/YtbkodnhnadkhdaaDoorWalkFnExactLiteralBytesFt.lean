/- The law on LiteralBytes returns true at every list of tokens: its plain statement, and its walk. No condition. -/
import Derived.Test.YtbkodnhnadkhdaaDoorPFtx0
import Derived.Test.YtbkodnhnadkhdaaDoorPFtx7
import Derived.Test.YtbkodnhnadkhdaaDoorPFtx8
import Derived.Test.YtbkodnhnadkhdaaDoorPFtx9
import Derived.Test.YtbkodnhnadkhdaaDoorWalkFnExactPatchFt
namespace Go.Proofs.YtbkodnhnadkhdaaDoor.WalkFnExactLiteralBytes
open Go Go.RowKit Go.Proofs.YtbkodnhnadkhdaaDoor.PFt Go.Proofs.YtbkodnhnadkhdaaDoorW.PrintWords Go.Proofs.YtbkodnhnadkhdaaDoorW.PrintMore Go.Proofs.YtbkodnhnadkhdaaDoor.Arith Go.Proofs.YtbkodnhnadkhdaaDoor.Lib Go.Proofs.YtbkodnhnadkhdaaDoor.Rec
set_option linter.unusedSimpArgs false
set_option linter.unusedVariables false

def sum (a : Int) (l : List S94) : Int := l.foldl (fun a x => wrap64 (a + (x.f1.size : Int))) a
theorem sum_step (a : Int) (l : List S94) (i : Nat) (h : i < l.length) : sum a (l.drop i) = sum (wrap64 (a + (l[i].f1.size : Int))) (l.drop (i + 1)) := by
  rw [List.drop_eq_getElem_cons h]; rfl
theorem all_step (l : List S94) (i : Nat) (h : i < l.length) : (l.drop i).all ok = (ok l[i] && (l.drop (i + 1)).all ok) := by
  rw [List.drop_eq_getElem_cons h]; rfl
theorem impl_loop (l : List S94) (hl : l.length ≤ 2097152) (d : Nat) : ∀ (i : Nat) (a : Int), i + d = l.length → Ev (fun k => impl_LiteralBytes.l0 k a l (l.length : Int) i) (sum a (l.drop i)) := by
  induction d with
  | zero =>
    intro i a h
    rw [List.drop_eq_nil_of_le (by omega)]
    refine ev_at fun k => ?_
    simp only [impl_LiteralBytes.l0]
    rw [if_neg (by omega)]
    simp [sum]
  | succ d ih =>
    intro i a h
    have hi : i < l.length := by omega
    rw [sum_step a l i hi]
    refine Ev.step (fun k => ?_) (ih (i + 1) _ (by omega))
    simp only [impl_LiteralBytes.l0]
    rw [if_pos (by omega), if_pos (by omega), if_pos (by omega), rdT l i hi, w64s i (by omega)]
theorem any_loop (l : List S94) (hl : l.length ≤ 2097152) (d : Nat) : ∀ (i : Nat), i + d = l.length → ∃ t, any_impl_LiteralBytes_1.l0 (d + 1) l i = some t ∧ decide (t ≥ 0) = !(l.drop i).all ok := by
  induction d with
  | zero =>
    intro i h
    refine ⟨-1, ?_, ?_⟩
    · simp only [any_impl_LiteralBytes_1.l0]
      rw [if_neg (by omega)]
    · rw [List.drop_eq_nil_of_le (by omega)]; rfl
  | succ d ih =>
    intro i h
    have hi : i < l.length := by omega
    rw [all_step l i hi]
    have hr : any_impl_LiteralBytes_1.l0 (d + 1 + 1) l i = if ok l[i] = false then some (i : Int) else any_impl_LiteralBytes_1.l0 (d + 1) l ((i + 1 : Nat) : Int) := by
      rw [any_impl_LiteralBytes_1.l0, if_pos (by omega), if_pos (by omega), rdT l i hi, impl_LiteralBytes_1.f, tok_ok, w64s i (by omega)]
      cases ok l[i] <;> simp
    cases ho : ok l[i] with
    | false =>
      refine ⟨i, by rw [hr, ho]; rfl, ?_⟩
      simp
    | true =>
      obtain ⟨t, h1, h2⟩ := ih (i + 1) (by omega)
      refine ⟨t, by rw [hr, ho]; exact h1, ?_⟩
      rw [h2]; simp
def val (l : List S94) : Int := if l.length > 20000 then 0 else if l.all ok then sum 0 l else 0
theorem impl_ev (l : List S94) (hl : l.length ≤ 2097152) : Ev (fun k => impl_LiteralBytes.f k l) (val l) := by
  unfold impl_LiteralBytes.f val
  by_cases h : l.length > 20000
  · simp only [if_pos h, if_pos (show (l.length : Int) > 20000 by omega)]
    exact ev_at fun k => by simp [impl_LiteralBytes.j0]
  · simp only [if_neg h, if_neg (show ¬ (l.length : Int) > 20000 by omega)]
    obtain ⟨t, h1, h2⟩ := any_loop l hl l.length 0 (by omega)
    simp only [any_impl_LiteralBytes_1.f]
    rw [show ((0 : Nat) : Int) = 0 from rfl] at h1
    rw [h1]
    simp only [Option.bind_some]
    rw [h2, List.drop_zero]
    cases ha : l.all ok with
    | false => exact ev_at fun k => by simp [impl_LiteralBytes.j0]
    | true =>
      refine Ev.step (f := fun k => impl_LiteralBytes.l0 k 0 l (l.length : Int) 0) (fun k => by simp [impl_LiteralBytes.j0]) ?_
      have := impl_loop l hl l.length 0 0 (by omega)
      simpa using this
end Go.Proofs.YtbkodnhnadkhdaaDoor.WalkFnExactLiteralBytes
