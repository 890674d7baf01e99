/- The law on SigLen returns true at every signature: its plain statement, and its walk. No condition. -/
import Derived.Test.YtbkodnhnadkhdaaPCmx6
import Derived.Test.YtbkodnhnadkhdaaOpSig
import Derived.Test.YtbkodnhnadkhdaaRecSigM
namespace Go.Proofs.Ytbkodnhnadkhdaa.WalkFnExactSigLen
open Go Go.RowKit Go.Proofs.Ytbkodnhnadkhdaa.PCm Go.Proofs.YtbkodnhnadkhdaaW.PrintWords Go.Proofs.YtbkodnhnadkhdaaW.PrintMore Go.Proofs.Ytbkodnhnadkhdaa.Arith Go.Proofs.Ytbkodnhnadkhdaa.Lib Go.Proofs.Ytbkodnhnadkhdaa.RecSig
set_option linter.unusedSimpArgs false
set_option linter.unusedVariables false

theorem pure_ (a b : Int) (l : List Int) (m : List ByteArray) (hl : l.length ≤ 9223372036854775807) (hm : m.length ≤ 9223372036854775807) : Ev (fun k => laws_FnExactSigLen.f k a b l m) true := by
  unfold laws_FnExactSigLen.f
  obtain ⟨t, ht, h⟩ := sz_ev a b l m hl hm
  refine Ev.bind ht ?_
  by_cases h0 : t < 0
  · simp only [if_pos h0]; exact Ev.now _
  simp only [if_neg h0]
  have h1 : l.length ≤ 2097152 := by omega
  have h2 : m.length ≤ 2097152 := by omega
  refine Ev.bind (to_ev a b l m h1 h2) (Ev.bind (spec_len a b l m) (Ev.bind (to_ev a b l m h1 h2) (Ev.bind (impl_len a b l m) ?_)))
  simp only [if_true]
  refine Ev.bind (to_ev a b l m h1 h2) (Ev.bind (eq_ev a b l m h1 h2) ?_)
  simp only [if_true]
  exact Ev.now _
theorem walk {H : Type} {enc : TypeId × Value → H} (W : World) (cs : Array Value) {fuel : Nat} {x : DataW H × List MemPlace} (f : DataW.trod enc Try.prog W 0 (fun _ => true) true fuel 43 cs.toList = some x) :
    Calls Try.prog 7 #[.agg cs] W fun e w' => e = .returned (.bool true) ∧ Below W.heap.size W w' := by
  obtain ⟨⟨a, b, l, m⟩, hK, _, _, hl, hm⟩ := Opens.op_sig W _ _ _ _ _ f
  obtain ⟨A, c, B, d, hc, g1, g2, g3, g4⟩ := Opens.kSig_open hK
  obtain rfl : cs = #[.int .i64 a, .int .i64 b, .slice A l.length c, .slice B m.length d] := by
    obtain ⟨q⟩ := cs
    simp at hc ⊢
    exact hc
  obtain ⟨k, hk⟩ := pure_ a b l m  (by unfold maxLen at hl; exact hl) (by unfold maxLen at hm; exact hm)
  exact laws_FnExactSigLen.calls k a b A c l B d m  true W g2 g1 g4 g3 (hk k (Nat.le_refl k))

end Go.Proofs.Ytbkodnhnadkhdaa.WalkFnExactSigLen
