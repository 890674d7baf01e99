/- The law on TokensLen returns true at every list of tokens: its plain statement, and its walk. No condition. -/
import Derived.Test.YtbkodnhnadkhdaaPTkx0
import Derived.Test.YtbkodnhnadkhdaaPTkx6
import Derived.Test.YtbkodnhnadkhdaaPTkx10
import Derived.Test.YtbkodnhnadkhdaaOpRecTk
import Derived.Test.YtbkodnhnadkhdaaTokens
namespace Go.Proofs.Ytbkodnhnadkhdaa.WalkFnExactTokensLen
open Go Go.RowKit Go.Proofs.Ytbkodnhnadkhdaa.PTk Go.Proofs.YtbkodnhnadkhdaaW.PrintWords Go.Proofs.YtbkodnhnadkhdaaW.PrintMore Go.Proofs.Ytbkodnhnadkhdaa.Arith Go.Proofs.Ytbkodnhnadkhdaa.Lib Go.Proofs.Ytbkodnhnadkhdaa.Rec Go.Proofs.Ytbkodnhnadkhdaa.Tokens
set_option linter.unusedSimpArgs false
set_option linter.unusedVariables false

theorem spec_ev (l : List S67) : Ev (fun k => spec_TokensLen.f k l) ((val l).length : Int) := by
  unfold spec_TokensLen.f
  exact Ev.bind (spec_put l) (Ev.now _)
theorem impl_eq (l : List S67) (hl : l.length ≤ 2097152) : impl_TokensLen.f l = some ((val l).length : Int) := by
  unfold impl_TokensLen.f
  rw [impl_put l hl, Option.bind_some]
theorem pure_ (l : List S71) (hl : l.length ≤ 9223372036854775807) : Ev (fun k => laws_FnExactTokensLen.f k l) true := by
  unfold laws_FnExactTokensLen.f
  obtain ⟨t, ht, h⟩ := sz_ev l hl
  refine Ev.bind ht ?_
  by_cases h0 : t < 0
  · simp only [if_pos h0]; exact Ev.now _
  simp only [if_neg h0]
  have h1 : l.length ≤ 2097152 := by omega
  have h2 : (toks l).length ≤ 2097152 := by rw [toks_length]; exact h1
  refine Ev.bind (to_ev l h1) (Ev.bind (spec_ev _) (Ev.bind (to_ev l h1) ?_))
  simp only [impl_eq _ h2, Option.bind_some, if_true]
  refine Ev.bind (to_ev l h1) (Ev.bind (eq_ev _ h2) ?_)
  simp only [if_true]
  exact Ev.now _
theorem walk {H : Type} {enc : TypeId × Value → H} (W : World) (ad : Option Addr) (len cap : Nat) {fuel : Nat} {x : DataW H × List MemPlace} (f : DataW.trod enc Try.prog W 0 (fun _ => true) true fuel 36 [.slice ad len cap] = some x) :
    Calls Try.prog 11 #[.slice ad len cap] W fun e w' => e = .returned (.bool true) ∧ Below W.heap.size W w' := by
  obtain ⟨l, ⟨A, c, hc, hl, hr⟩, hm, _⟩ := Opens.op_toks W _ _ _ _ _ f
  obtain ⟨rfl, rfl, rfl⟩ : ad = A ∧ len = l.length ∧ cap = c := by simpa using hc
  obtain ⟨k, hk⟩ := pure_ l (by unfold maxLen at hm; omega)
  exact laws_FnExactTokensLen.calls k ad cap l true W hr hl (hk k (Nat.le_refl k))

end Go.Proofs.Ytbkodnhnadkhdaa.WalkFnExactTokensLen
