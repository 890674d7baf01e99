/- The law on TokenOk returns true at every token that is handed in: its plain statement, and its walk. No condition. -/
import Derived.Test.YtadcjkendddgdaaPAllx1
import Derived.Test.YtadcjkendddgdaaPAllx9
import Derived.Test.YtadcjkendddgdaaPAllx10
import Derived.Test.YtadcjkendddgdaaOpTok
import Derived.Test.YtadcjkendddgdaaLib
namespace Go.Proofs.Ytadcjkendddgdaa.WalkFnExactTokenOk
open Go Go.RowKit Go.Proofs.Ytadcjkendddgdaa.PAll Go.Proofs.YtadcjkendddgdaaW.PrintWords Go.Proofs.Ytadcjkendddgdaa.Arith Go.Proofs.Ytadcjkendddgdaa.Lib
set_option linter.unusedSimpArgs false
set_option linter.unusedVariables false

theorem pure_ (a : Int) (s : ByteArray) (b c : Int) : laws_FnExactTokenOk.f a s b c = some true := by
  unfold laws_FnExactTokenOk.f laws_szToken.f laws_toToken.f
  by_cases h : wrap64 (1048576 - (s.size : Int)) < 0
  · simp [h]
  simp only [if_neg h, Option.bind_some]
  have e : spec_TokenOk.f a s b c = impl_TokenOk.f a s b c := rfl
  rw [e]
  have hs : ∃ r, impl_TokenOk.f a s b c = some r := by
    have hw : ∃ q, impl_within.f (s.size : Int) 1 100 = some q := by unfold impl_within.f; split <;> exact ⟨_, rfl⟩
    obtain ⟨q, hq⟩ := hw
    unfold impl_TokenOk.f
    rw [hq]
    simp only [Option.bind_some]
    repeat' split
    all_goals exact ⟨_, rfl⟩
  obtain ⟨r, hr⟩ := hs
  rw [hr]
  simp
theorem walk {H : Type} {enc : TypeId × Value → H} (W : World) (cs : Array Value) {fuel : Nat} {x : DataW H × List MemPlace} (f : DataW.trod enc Try.prog W 0 (fun _ => true) true fuel 42 cs.toList = some x) :
    Calls Try.prog 11 #[.agg cs] W fun e w' => e = .returned (.bool true) ∧ Below W.heap.size W w' := by
  obtain ⟨⟨a, s, b, c⟩, hK, _⟩ := Opens.op_tok W _ _ _ _ _ f
  have := Opens.kTok_open hK
  obtain rfl : cs = #[.int .i64 a, .string s, .int .i64 b, .int .i64 c] := by
    obtain ⟨l⟩ := cs
    simp at this ⊢
    exact this
  exact laws_FnExactTokenOk.calls a s b c true W (pure_ a s b c)

end Go.Proofs.Ytadcjkendddgdaa.WalkFnExactTokenOk
