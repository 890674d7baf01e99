/- The law on PutSig returns true at every signature: its plain statement, and its walk. No condition. -/
import Derived.Test.YtbkodnhnadkhdaaPMsx1
import Derived.Test.YtbkodnhnadkhdaaPMsx3
import Derived.Test.YtbkodnhnadkhdaaPMsx13
import Derived.Test.YtbkodnhnadkhdaaPMsx14
import Derived.Test.YtbkodnhnadkhdaaOpSigW
import Derived.Test.YtbkodnhnadkhdaaMarkS
import Derived.Test.YtbkodnhnadkhdaaMarkSigS
import Derived.Test.YtbkodnhnadkhdaaSigBytesS
namespace Go.Proofs.Ytbkodnhnadkhdaa.WalkFnExactPutSig
open Go Go.RowKit Go.Proofs.Ytbkodnhnadkhdaa.PMs Go.Proofs.YtbkodnhnadkhdaaW.PrintWords Go.Proofs.YtbkodnhnadkhdaaW.PrintMore Go.Proofs.Ytbkodnhnadkhdaa.Arith Go.Proofs.Ytbkodnhnadkhdaa.Lib Go.Proofs.Ytbkodnhnadkhdaa.RecSig
set_option linter.unusedSimpArgs false
set_option linter.unusedVariables false

theorem pure_ (a b : Int) (l : List Int) (m : List ByteArray) (hl : l.length ≤ 9223372036854775807) (hm : m.length ≤ 9223372036854775807) (hw : ∀ x ∈ l, 0 ≤ x ∧ x < 4294967296) : Ev (fun k => laws_FnExactPutSig.f k a b l m) true := by
  unfold laws_FnExactPutSig.f
  obtain ⟨t, ht, h⟩ := sz_ev a b l m hl hm
  refine Ev.bind ht ?_
  by_cases h0 : t < 0
  · simp only [if_pos h0]; exact Ev.now _
  simp only [if_neg h0]
  have h1 : l.length ≤ 2097152 := by omega
  have h2 : m.length ≤ 2097152 := by omega
  have hs := SigBytes.sig_length a b l m
  obtain ⟨q, y, hq, hq0⟩ := MarkSig.sig a b l m h1 h2
  refine Ev.bind (to_ev a b l m h1 h2) (Ev.bind (SigBytes.spec_ev a b l m h2 hw) (Ev.bind (to_ev a b l m h1 h2) (Ev.bind (SigBytes.impl_ev a b l m h2) (Ev.bind (Mark.eq_evByteS _ (by omega)) ?_))))
  simp only [if_true]
  refine Ev.bind (to_ev a b l m h1 h2) (Ev.bind (eq_ev a b l m h1 h2) ?_)
  simp only [if_true]
  refine Ev.bind hq ?_
  simp only [if_neg (show ¬ q < 0 by omega)]
  refine Ev.bind (Mark.eq_evByteS _ (by omega)) ?_
  simp only [Bool.not_true]
  refine Ev.step (f := fun k => (laws_markByteS.f k (SigBytes.sig a b l m) 1).bind fun bt271 => ((laws_heldByteS.f k bt271.2 1).bind fun t273 => (if t273 < 0 then (some false) else (if t273 = bt271.1 then ((laws_toSig.f k a b l m).bind fun bt274 => ((impl_PutSig.f k bt274.1 bt274.2.1 bt274.2.2.1 bt274.2.2.2).bind fun t282 => ((laws_eqByteS.f k t282 (SigBytes.sig a b l m)).bind fun t285 => (if t285 = true then ((laws_heldByteS.f k bt271.2 1).bind fun t286 => (if t286 < 0 then (some false) else (if t286 = bt271.1 then (some true) else (some false)))) else (some false))))) else (some false))))) (fun k => by simp only [laws_FnExactPutSig.j0, Bool.false_eq_true, if_false]) ?_
  refine Ev.bind (Mark.mark_evByteS _ (by omega)) (Ev.bind (Mark.held_evByteS _ (by omega)) ?_)
  simp only [if_neg (show ¬ (((SigBytes.sig a b l m).length + 1 : Nat) : Int) < 0 by omega), if_true]
  refine Ev.bind (to_ev a b l m h1 h2) (Ev.bind (SigBytes.impl_ev a b l m h2) (Ev.bind (Mark.eq_evByteS _ (by omega)) ?_))
  simp only [if_true]
  refine Ev.bind (Mark.held_evByteS _ (by omega)) ?_
  simp only [if_neg (show ¬ (((SigBytes.sig a b l m).length + 1 : Nat) : Int) < 0 by omega), if_true]
  exact Ev.now _
theorem walk {H : Type} {enc : TypeId × Value → H} (W : World) (cs : Array Value) {fuel : Nat} {x : DataW H × List MemPlace} (f : DataW.trod enc Try.prog W 0 (fun _ => true) true fuel 43 cs.toList = some x) :
    Calls Try.prog 13 #[.agg cs] W fun e w' => e = .returned (.bool true) ∧ Below W.heap.size W w' := by
  obtain ⟨⟨a, b, l, m⟩, hK, _, _, hl, hm, hw⟩ := OpensW.op_sig W _ _ _ _ _ f
  obtain ⟨A, c, B, d, hc, g1, g2, g3, g4⟩ := OpensW.kSig_open hK
  obtain rfl : cs = #[.int .i64 a, .int .i64 b, .slice A l.length c, .slice B m.length d] := by
    obtain ⟨q⟩ := cs
    simp at hc ⊢
    exact hc
  obtain ⟨k, hk⟩ := pure_ a b l m (by unfold maxLen at hl; exact hl) (by unfold maxLen at hm; exact hm) (fun x hx => by
    have := hw x hx
    simp [Lit.wf, IntKind.min, IntKind.max, IntKind.signed, IntKind.bits] at this; omega)
  exact laws_FnExactPutSig.calls k a b A c l B d m true W g2 g1 g4 g3 (hk k (Nat.le_refl k))

end Go.Proofs.Ytbkodnhnadkhdaa.WalkFnExactPutSig
