/- The law on BlockAt returns true at every signature: its plain statement, and its walk. No condition. -/
import Derived.Test.YtbkodnhnadkhdaaPCmx3
import Derived.Test.YtbkodnhnadkhdaaPCmx5
import Derived.Test.YtbkodnhnadkhdaaPCmx8
import Derived.Test.YtbkodnhnadkhdaaPCmx10
import Derived.Test.YtbkodnhnadkhdaaPCmx11
import Derived.Test.YtbkodnhnadkhdaaOpSig
import Derived.Test.YtbkodnhnadkhdaaRecSigM
import Derived.Test.YtbkodnhnadkhdaaSigOkM
namespace Go.Proofs.Ytbkodnhnadkhdaa.WalkFnExactBlockAt
open Go Go.RowKit Go.Proofs.Ytbkodnhnadkhdaa.PCm Go.Proofs.YtbkodnhnadkhdaaW.PrintWords Go.Proofs.YtbkodnhnadkhdaaW.PrintMore Go.Proofs.Ytbkodnhnadkhdaa.Arith Go.Proofs.Ytbkodnhnadkhdaa.Lib Go.Proofs.Ytbkodnhnadkhdaa.RecSig
set_option linter.unusedSimpArgs false
set_option linter.unusedVariables false

/-- Where a block lies. -/
def at_ (a b : Int) (l : List Int) (m : List ByteArray) (q : Int) : Int × Int :=
  if (SigOk.sigOk a b l m && decide (0 ≤ q ∧ q ≤ wrap64 ((l.length : Int) - 1))) = true then (wrap64 (q * a), if b > 0 then (if q = wrap64 ((l.length : Int) - 1) then b else a) else a) else (0, 0)
theorem spec_at (a b : Int) (l : List Int) (m : List ByteArray) (q : Int) (h2 : m.length ≤ 2097152) : Ev (fun k => spec_BlockAt.f k a b l m q) (at_ a b l m q) := by
  unfold spec_BlockAt.f at_
  refine Ev.bind (SigOk.spec_ok a b l m h2) ?_
  cases SigOk.sigOk a b l m with
  | false => simp only [Bool.false_eq_true, if_false, Bool.false_and]; exact ev_at fun k => by simp [spec_BlockAt.j0]
  | true =>
    simp only [if_true, in_, Option.bind_some, Bool.true_and]
    refine ev_at fun k => ?_
    by_cases h : 0 ≤ q ∧ q ≤ wrap64 ((l.length : Int) - 1)
    · rw [decide_eq_true h]
      simp only [spec_BlockAt.j0, Bool.not_true, Bool.false_eq_true, if_false, if_true]
      by_cases h3 : q = wrap64 ((l.length : Int) - 1) <;> by_cases h4 : b > 0 <;> simp [h3, h4]
    · rw [decide_eq_false h]
      simp [spec_BlockAt.j0]
theorem impl_at (a b : Int) (l : List Int) (m : List ByteArray) (q : Int) (h2 : m.length ≤ 2097152) : Ev (fun k => impl_BlockAt.f k a b l m q) (at_ a b l m q) := by
  unfold impl_BlockAt.f impl_isBlock.f at_
  have h : Ev (fun k => (impl_SigOk.f k a b l m).bind fun t => if t = true then (impl_within.f q 0 (wrap64 ((l.length : Int) - 1))).bind fun u => some u else some false) (SigOk.sigOk a b l m && decide (0 ≤ q ∧ q ≤ wrap64 ((l.length : Int) - 1))) := by
    refine Ev.bind (SigOk.impl_ok a b l m h2) ?_
    cases SigOk.sigOk a b l m with
    | false => simp only [Bool.false_eq_true, if_false, Bool.false_and]; exact Ev.now _
    | true => simp only [if_true, within_, Option.bind_some, Bool.true_and]; exact Ev.now _
  refine Ev.bind h ?_
  cases SigOk.sigOk a b l m && decide (0 ≤ q ∧ q ≤ wrap64 ((l.length : Int) - 1)) with
  | false => simp only [Bool.false_eq_true, if_false]; exact Ev.now _
  | true =>
    simp only [if_true, impl_Sig_long.f]
    by_cases h4 : b > 0
    · simp only [if_pos h4]
      by_cases h3 : q = wrap64 ((l.length : Int) - 1)
      · simp only [if_pos h3, Option.bind_some]; exact Ev.now _
      · simp only [if_neg h3, Option.bind_some]; exact Ev.now _
    · simp only [if_neg h4, Option.bind_some]; exact Ev.now _
theorem pure_ (a b : Int) (l : List Int) (m : List ByteArray) (q : Int) (hl : l.length ≤ 9223372036854775807) (hm : m.length ≤ 9223372036854775807) : Ev (fun k => laws_FnExactBlockAt.f k a b l m q) true := by
  unfold laws_FnExactBlockAt.f
  obtain ⟨t, ht, h⟩ := sz_ev a b l m hl hm
  refine Ev.bind ht ?_
  by_cases h0 : t < 0
  · simp only [if_pos h0]; exact Ev.now _
  simp only [if_neg h0]
  have h1 : l.length ≤ 2097152 := by omega
  have h2 : m.length ≤ 2097152 := by omega
  refine Ev.bind (to_ev a b l m h1 h2) (Ev.bind (spec_at a b l m q h2) (Ev.bind (to_ev a b l m h1 h2) (Ev.bind (impl_at a b l m q h2) ?_)))
  simp only [if_true, bne_self_eq_false]
  refine Ev.step (f := fun k => (laws_toSig.f k a b l m).bind fun bt => (laws_eqSig.f k a b l m bt.1 bt.2.1 bt.2.2.1 bt.2.2.2).bind fun t => if t = true then some true else some false) (fun k => by simp only [laws_FnExactBlockAt.j0, Bool.false_eq_true, if_false]) ?_
  refine Ev.bind (to_ev a b l m h1 h2) (Ev.bind (eq_ev a b l m h1 h2) ?_)
  simp only [if_true]
  exact Ev.now _
theorem walk {H : Type} {enc : TypeId × Value → H} (W : World) (cs : Array Value) {fuel : Nat} {x : DataW H × List MemPlace} (f : DataW.trod enc Try.prog W 0 (fun _ => true) true fuel 43 cs.toList = some x) (q : Int) (hq : (Lit.int .i64 q).wf = true) :
    Calls Try.prog 10 #[.agg cs, .int .i64 q] W fun e w' => e = .returned (.bool true) ∧ Below W.heap.size W w' := by
  obtain ⟨⟨a, b, l, m⟩, hK, _, _, hl, hm⟩ := Opens.op_sig W _ _ _ _ _ f
  obtain ⟨A, c, B, d, hc, g1, g2, g3, g4⟩ := Opens.kSig_open hK
  obtain rfl : cs = #[.int .i64 a, .int .i64 b, .slice A l.length c, .slice B m.length d] := by
    obtain ⟨q⟩ := cs
    simp at hc ⊢
    exact hc
  obtain ⟨k, hk⟩ := pure_ a b l m  q (by unfold maxLen at hl; exact hl) (by unfold maxLen at hm; exact hm)
  exact laws_FnExactBlockAt.calls k a b A c l B d m  q true W g2 g1 g4 g3 (hk k (Nat.le_refl k))

end Go.Proofs.Ytbkodnhnadkhdaa.WalkFnExactBlockAt
