/- The law on LiteralBytes returns true at every list of tokens: its plain statement, and its walk. No condition. -/
import Derived.Test.YtbkodnhnadkhdaaPClx0
import Derived.Test.YtbkodnhnadkhdaaPClx3
import Derived.Test.YtbkodnhnadkhdaaPClx4
import Derived.Test.YtbkodnhnadkhdaaPClx5
import Derived.Test.YtbkodnhnadkhdaaPClx6
import Derived.Test.YtbkodnhnadkhdaaOpRec
import Derived.Test.YtbkodnhnadkhdaaRec
namespace Go.Proofs.Ytbkodnhnadkhdaa.WalkFnExactLiteralBytes
open Go Go.RowKit Go.Proofs.Ytbkodnhnadkhdaa.PCl Go.Proofs.YtbkodnhnadkhdaaW.PrintWords Go.Proofs.YtbkodnhnadkhdaaW.PrintMore Go.Proofs.Ytbkodnhnadkhdaa.Arith Go.Proofs.Ytbkodnhnadkhdaa.Lib Go.Proofs.Ytbkodnhnadkhdaa.Rec
set_option linter.unusedSimpArgs false
set_option linter.unusedVariables false

def sum (a : Int) (l : List S67) : Int := l.foldl (fun a x => wrap64 (a + (x.f1.size : Int))) a
theorem sum_step (a : Int) (l : List S67) (i : Nat) (h : i < l.length) : sum a (l.drop i) = sum (wrap64 (a + (l[i].f1.size : Int))) (l.drop (i + 1)) := by
  rw [List.drop_eq_getElem_cons h]; rfl
theorem all_step (l : List S67) (i : Nat) (h : i < l.length) : (l.drop i).all ok = (ok l[i] && (l.drop (i + 1)).all ok) := by
  rw [List.drop_eq_getElem_cons h]; rfl
theorem spec_loop (l : List S67) (hl : l.length ≤ 2097152) (d : Nat) : ∀ (i : Nat) (a : Int), i + d = l.length → Ev (fun k => spec_LiteralBytes.l0 k l a i) (if (l.drop i).all ok then sum a (l.drop i) else 0) := by
  induction d with
  | zero =>
    intro i a h
    rw [List.drop_eq_nil_of_le (by omega)]
    refine ev_at fun k => ?_
    simp only [spec_LiteralBytes.l0]
    rw [if_neg (by omega)]
    simp [sum]
  | succ d ih =>
    intro i a h
    have hi : i < l.length := by omega
    rw [all_step l i hi, sum_step a l i hi]
    cases ho : ok l[i] with
    | false =>
      refine ev_at fun k => ?_
      simp only [spec_LiteralBytes.l0]
      rw [if_pos (by omega), if_pos (by omega), rdT l i hi, spec_tok, tok_ok, ho]
      simp
    | true =>
      simp only [Bool.true_and]
      refine Ev.step (fun k => ?_) (ih (i + 1) _ (by omega))
      simp only [spec_LiteralBytes.l0]
      rw [if_pos (by omega), if_pos (by omega), rdT l i hi, spec_tok, tok_ok, ho, w64s i (by omega)]
      simp
theorem impl_loop (l : List S67) (hl : l.length ≤ 2097152) (d : Nat) : ∀ (i : Nat) (a : Int), i + d = l.length → Ev (fun k => impl_LiteralBytes.l0 k a l (l.length : Int) i) (sum a (l.drop i)) := by
  induction d with
  | zero =>
    intro i a h
    rw [List.drop_eq_nil_of_le (by omega)]
    refine ev_at fun k => ?_
    simp only [impl_LiteralBytes.l0]
    rw [if_neg (by omega)]
    simp [sum]
  | succ d ih =>
    intro i a h
    have hi : i < l.length := by omega
    rw [sum_step a l i hi]
    refine Ev.step (fun k => ?_) (ih (i + 1) _ (by omega))
    simp only [impl_LiteralBytes.l0]
    rw [if_pos (by omega), if_pos (by omega), if_pos (by omega), rdT l i hi, w64s i (by omega)]
theorem any_loop (l : List S67) (hl : l.length ≤ 2097152) (d : Nat) : ∀ (i : Nat), i + d = l.length → ∃ t, any_impl_LiteralBytes_1.l0 (d + 1) l i = some t ∧ decide (t ≥ 0) = !(l.drop i).all ok := by
  induction d with
  | zero =>
    intro i h
    refine ⟨-1, ?_, ?_⟩
    · simp only [any_impl_LiteralBytes_1.l0]
      rw [if_neg (by omega)]
    · rw [List.drop_eq_nil_of_le (by omega)]; rfl
  | succ d ih =>
    intro i h
    have hi : i < l.length := by omega
    rw [all_step l i hi]
    have hr : any_impl_LiteralBytes_1.l0 (d + 1 + 1) l i = if ok l[i] = false then some (i : Int) else any_impl_LiteralBytes_1.l0 (d + 1) l ((i + 1 : Nat) : Int) := by
      rw [any_impl_LiteralBytes_1.l0, if_pos (by omega), if_pos (by omega), rdT l i hi, impl_LiteralBytes_1.f, tok_ok, w64s i (by omega)]
      cases ok l[i] <;> simp
    cases ho : ok l[i] with
    | false =>
      refine ⟨i, by rw [hr, ho]; rfl, ?_⟩
      simp
    | true =>
      obtain ⟨t, h1, h2⟩ := ih (i + 1) (by omega)
      refine ⟨t, by rw [hr, ho]; exact h1, ?_⟩
      rw [h2]; simp
def val (l : List S67) : Int := if l.length > 20000 then 0 else if l.all ok then sum 0 l else 0
theorem spec_ev (l : List S67) (hl : l.length ≤ 2097152) : Ev (fun k => spec_LiteralBytes.f k l) (val l) := by
  unfold spec_LiteralBytes.f val
  by_cases h : l.length > 20000
  · simp only [if_pos h, if_pos (show (l.length : Int) > 20000 by omega)]; exact Ev.now _
  · simp only [if_neg h, if_neg (show ¬ (l.length : Int) > 20000 by omega)]
    have := spec_loop l hl l.length 0 0 (by omega)
    simpa using this
theorem impl_ev (l : List S67) (hl : l.length ≤ 2097152) : Ev (fun k => impl_LiteralBytes.f k l) (val l) := by
  unfold impl_LiteralBytes.f val
  by_cases h : l.length > 20000
  · simp only [if_pos h, if_pos (show (l.length : Int) > 20000 by omega)]
    exact ev_at fun k => by simp [impl_LiteralBytes.j0]
  · simp only [if_neg h, if_neg (show ¬ (l.length : Int) > 20000 by omega)]
    obtain ⟨t, h1, h2⟩ := any_loop l hl l.length 0 (by omega)
    simp only [any_impl_LiteralBytes_1.f]
    rw [show ((0 : Nat) : Int) = 0 from rfl] at h1
    rw [h1]
    simp only [Option.bind_some]
    rw [h2, List.drop_zero]
    cases ha : l.all ok with
    | false => exact ev_at fun k => by simp [impl_LiteralBytes.j0]
    | true =>
      refine Ev.step (f := fun k => impl_LiteralBytes.l0 k 0 l (l.length : Int) 0) (fun k => by simp [impl_LiteralBytes.j0]) ?_
      have := impl_loop l hl l.length 0 0 (by omega)
      simpa using this
theorem pure_ (l : List S71) (hl : l.length ≤ 9223372036854775807) : Ev (fun k => laws_FnExactLiteralBytes.f k l) true := by
  unfold laws_FnExactLiteralBytes.f
  obtain ⟨t, ht, h⟩ := sz_ev l hl
  refine Ev.bind ht ?_
  by_cases h0 : t < 0
  · simp only [if_pos h0]; exact Ev.now _
  simp only [if_neg h0]
  have h1 : l.length ≤ 2097152 := by omega
  have h2 : (toks l).length ≤ 2097152 := by rw [toks_length]; exact h1
  refine Ev.bind (to_ev l h1) (Ev.bind (spec_ev _ h2) (Ev.bind (to_ev l h1) (Ev.bind (impl_ev _ h2) ?_)))
  simp only [if_true]
  refine Ev.bind (to_ev l h1) (Ev.bind (eq_ev _ h2) ?_)
  simp only [if_true]
  exact Ev.now _
theorem walk {H : Type} {enc : TypeId × Value → H} (W : World) (ad : Option Addr) (len cap : Nat) {fuel : Nat} {x : DataW H × List MemPlace} (f : DataW.trod enc Try.prog W 0 (fun _ => true) true fuel 36 [.slice ad len cap] = some x) :
    Calls Try.prog 6 #[.slice ad len cap] W fun e w' => e = .returned (.bool true) ∧ Below W.heap.size W w' := by
  obtain ⟨l, ⟨A, c, hc, hl, hr⟩, hm, _⟩ := Opens.op_toks W _ _ _ _ _ f
  obtain ⟨rfl, rfl, rfl⟩ : ad = A ∧ len = l.length ∧ cap = c := by simpa using hc
  obtain ⟨k, hk⟩ := pure_ l (by unfold maxLen at hm; omega)
  exact laws_FnExactLiteralBytes.calls k ad cap l true W hr hl (hk k (Nat.le_refl k))

end Go.Proofs.Ytbkodnhnadkhdaa.WalkFnExactLiteralBytes
