/- The law on MixStrong returns true at every state and block: its walk. No condition. -/
import Derived.Test.YtbkodnhnadkhdaaDoorMixL
namespace Go.Proofs.YtbkodnhnadkhdaaDoor.WalkFnExactMixStrong
open Go Go.RowKit Go.Proofs.YtbkodnhnadkhdaaDoor.Mix
set_option linter.unusedVariables false
theorem open4 {H : Type} {enc : TypeId × Value → H} {w : World} {base : Nat} {sp : Nat → Bool} {held : Bool} {fuel : Nat} {cs : List Value} {x : DataW H × List MemPlace} (h : DataW.trod enc Tryd.prog w base sp held fuel 23 cs = some x) : ∃ a b c d : Int, cs = [.int .u32 a, .int .u32 b, .int .u32 c, .int .u32 d] := by
  have c0 : Tryd.prog.cellsOf 23 = 4 := by kernel_rfl
  have c1 : Tryd.prog.cellsOf 22 = 1 := by kernel_rfl
  cases fuel with
  | zero => simp [DataW.trod] at h
  | succ fuel =>
    simp only [DataW.trod, Tryd.underlying23, c0, c1] at h
    split at h
    · rename_i hl
      obtain ⟨xs, hm, hx⟩ := Option.map_eq_some_iff.1 h
      match cs, hl with
      | [u0, u1, u2, u3], _ =>
        obtain ⟨y0, _, h0⟩ := Lib.mapM_at hm 0 0 (by simp)
        obtain ⟨y1, _, h1⟩ := Lib.mapM_at hm 1 1 (by simp)
        obtain ⟨y2, _, h2⟩ := Lib.mapM_at hm 2 2 (by simp)
        obtain ⟨y3, _, h3⟩ := Lib.mapM_at hm 3 3 (by simp)
        obtain ⟨a, e0, _, _⟩ := DataW.trod_int Tryd.underlying22 (show DataW.trod enc Tryd.prog w base sp held fuel 22 [u0] = some y0 from h0)
        obtain ⟨b, e1, _, _⟩ := DataW.trod_int Tryd.underlying22 (show DataW.trod enc Tryd.prog w base sp held fuel 22 [u1] = some y1 from h1)
        obtain ⟨c, e2, _, _⟩ := DataW.trod_int Tryd.underlying22 (show DataW.trod enc Tryd.prog w base sp held fuel 22 [u2] = some y2 from h2)
        obtain ⟨d, e3, _, _⟩ := DataW.trod_int Tryd.underlying22 (show DataW.trod enc Tryd.prog w base sp held fuel 22 [u3] = some y3 from h3)
        cases e0; cases e1; cases e2; cases e3
        exact ⟨a, b, c, d, rfl⟩
    · cases h
theorem walk {P : Prop} {H : Type} {enc : TypeId × Value → H} (W : World) (hL : laidMetH Tryd.prog Rows.fnExactMixStrongRow.laid W) (_ : P) (cs : Array Value) {fuel : Nat} {x : DataW H × List MemPlace} (f : DataW.trod enc Tryd.prog W 0 (fun _ => true) true fuel 23 cs.toList = some x) (s : ByteArray) (_ : s.size ≤ 140737488351232) :
    Calls Tryd.prog 3 #[.agg cs, .string s] W fun e w' => e = .returned (.bool true) ∧ Below W.heap.size W w' := by
  obtain ⟨a, b, c, d, hc⟩ := open4 f
  obtain rfl : cs = #[.int .u32 a, .int .u32 b, .int .u32 c, .int .u32 d] := by
    obtain ⟨q⟩ := cs
    simp at hc ⊢
    exact hc
  exact law_true a b c d s W (Tab.of_laid hL)
end Go.Proofs.YtbkodnhnadkhdaaDoor.WalkFnExactMixStrong
namespace Go.Proofs.YtbkodnhnadkhdaaDoor
open Go
theorem okWide_array {P : Program} {w : World} {r : Reach} {base : Nat} {t e n : Nat} {v : Value} (ht : P.underlying t = some (.array n e)) (h : Value.okWide P w r base t v) : ∃ cs, v = .agg cs ∧ cs.size = P.cellsOf t := by
  simp only [Value.okWide, ht] at h
  obtain ⟨cs, h1, h2, _⟩ := h
  exact ⟨cs, h1, h2⟩
end Go.Proofs.YtbkodnhnadkhdaaDoor
