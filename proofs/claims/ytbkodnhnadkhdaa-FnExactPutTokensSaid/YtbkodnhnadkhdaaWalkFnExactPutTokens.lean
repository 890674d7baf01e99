/- The law on PutTokens returns true at every list of tokens: its plain statement, and its walk. No condition. -/
import Derived.Test.YtbkodnhnadkhdaaPTkx0
import Derived.Test.YtbkodnhnadkhdaaPTkx3
import Derived.Test.YtbkodnhnadkhdaaPTkx10
import Derived.Test.YtbkodnhnadkhdaaPTkx11
import Derived.Test.YtbkodnhnadkhdaaPTkx12
import Derived.Test.YtbkodnhnadkhdaaOpRecTk
import Derived.Test.YtbkodnhnadkhdaaTokens
import Derived.Test.YtbkodnhnadkhdaaMarkTk
import Derived.Test.YtbkodnhnadkhdaaMarkTokTk
namespace Go.Proofs.Ytbkodnhnadkhdaa.WalkFnExactPutTokens
open Go Go.RowKit Go.Proofs.Ytbkodnhnadkhdaa.PTk Go.Proofs.YtbkodnhnadkhdaaW.PrintWords Go.Proofs.YtbkodnhnadkhdaaW.PrintMore Go.Proofs.Ytbkodnhnadkhdaa.Arith Go.Proofs.Ytbkodnhnadkhdaa.Lib Go.Proofs.Ytbkodnhnadkhdaa.Rec Go.Proofs.Ytbkodnhnadkhdaa.Tokens
set_option linter.unusedSimpArgs false
set_option linter.unusedVariables false

theorem pure_ (l : List S71) (hl : l.length ≤ 9223372036854775807) : Ev (fun k => laws_FnExactPutTokens.f k l) true := by
  unfold laws_FnExactPutTokens.f
  obtain ⟨t, ht, h⟩ := sz_ev l hl
  refine Ev.bind ht ?_
  by_cases h0 : t < 0
  · simp only [if_pos h0]; exact Ev.now _
  simp only [if_neg h0]
  have h1 : l.length ≤ 2097152 := by omega
  have h2 : (toks l).length ≤ 2097152 := by rw [toks_length]; exact h1
  have hv := val_len (toks l)
  refine Ev.bind (to_ev l h1) (Ev.bind (spec_put _) (Ev.bind (to_ev l h1) ?_))
  simp only [impl_put _ h2, Option.bind_some]
  refine Ev.bind (Mark.eq_evByteS _ (by omega)) ?_
  simp only [if_true]
  refine Ev.bind (to_ev l h1) (Ev.bind (eq_ev _ h2) ?_)
  simp only [if_true]
  refine Ev.bind (MarkTok.mark_evT _ h2) ?_
  simp only [if_neg (show ¬ ((4 * (toks l).length + 1 : Nat) : Int) < 0 by omega)]
  refine Ev.bind (Mark.eq_evByteS _ (by omega)) ?_
  simp only [Bool.not_true]
  refine Ev.step (f := fun k => (laws_markByteS.f k (val (toks l)) 1).bind fun bt229 => ((laws_heldByteS.f k bt229.2 1).bind fun t231 => (if t231 < 0 then (some false) else (if t231 = bt229.1 then ((laws_toTokenS.f k l).bind fun t232 => ((impl_PutTokens.f t232).bind fun t235 => ((laws_eqByteS.f k t235 (val (toks l))).bind fun t238 => (if t238 = true then ((laws_heldByteS.f k bt229.2 1).bind fun t239 => (if t239 < 0 then (some false) else (if t239 = bt229.1 then (some true) else (some false)))) else (some false))))) else (some false))))) (fun k => by simp only [laws_FnExactPutTokens.j0, Bool.false_eq_true, if_false]) ?_
  refine Ev.bind (Mark.mark_evByteS _ (by omega)) (Ev.bind (Mark.held_evByteS _ (by omega)) ?_)
  simp only [if_neg (show ¬ (((val (toks l)).length + 1 : Nat) : Int) < 0 by omega), if_true]
  refine Ev.bind (to_ev l h1) ?_
  simp only [impl_put _ h2, Option.bind_some]
  refine Ev.bind (Mark.eq_evByteS _ (by omega)) ?_
  simp only [if_true]
  refine Ev.bind (Mark.held_evByteS _ (by omega)) ?_
  simp only [if_neg (show ¬ (((val (toks l)).length + 1 : Nat) : Int) < 0 by omega), if_true]
  exact Ev.now _
theorem walk {H : Type} {enc : TypeId × Value → H} (W : World) (ad : Option Addr) (len cap : Nat) {fuel : Nat} {x : DataW H × List MemPlace} (f : DataW.trod enc Try.prog W 0 (fun _ => true) true fuel 36 [.slice ad len cap] = some x) :
    Calls Try.prog 12 #[.slice ad len cap] W fun e w' => e = .returned (.bool true) ∧ Below W.heap.size W w' := by
  obtain ⟨l, ⟨A, c, hc, hl, hr⟩, hm, _⟩ := Opens.op_toks W _ _ _ _ _ f
  obtain ⟨rfl, rfl, rfl⟩ : ad = A ∧ len = l.length ∧ cap = c := by simpa using hc
  obtain ⟨k, hk⟩ := pure_ l (by unfold maxLen at hm; omega)
  exact laws_FnExactPutTokens.calls k ad cap l true W hr hl (hk k (Nat.le_refl k))

end Go.Proofs.Ytbkodnhnadkhdaa.WalkFnExactPutTokens
