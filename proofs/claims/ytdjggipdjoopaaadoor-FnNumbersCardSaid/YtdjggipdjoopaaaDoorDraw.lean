/- The draws' cursor: whatever the code's bytes are, a byte, a number below n and a choice come out, and the cursor stays in its list. Condition: the code is not longer than 2^20. -/
import Derived.Test.YtdjggipdjoopaaaDoorPFnx1
import Derived.Test.YtdjggipdjoopaaaDoorLib
namespace Go.Proofs.YtdjggipdjoopaaaDoor.Draw
open Go Go.RowKit Go.Proofs.YtdjggipdjoopaaaDoor.PFn Go.Proofs.YtdjggipdjoopaaaDoorW.PrintWords Go.Proofs.YtdjggipdjoopaaaDoor.Arith Go.Proofs.YtdjggipdjoopaaaDoor.Lib
set_option linter.unusedSimpArgs false
set_option linter.unusedVariables false

def Cur (l : List Int) (i : Int) : Prop := 0 ≤ i ∧ i ≤ l.length ∧ l.length ≤ 1048576
theorem byte_some {l : List Int} {i : Int} (h : Int) (hc : Cur l i) : ∃ b i' h', spec_l01Byte.f l i h = some (b, i', h') ∧ 0 ≤ b ∧ b ≤ 255 ∧ Cur l i' := by
  obtain ⟨h0, h1, h2⟩ := hc
  unfold spec_l01Byte.f
  by_cases hi : i < (l.length : Int)
  · rw [if_pos hi, if_pos h0]
    refine ⟨_, _, _, rfl, ?_, ?_, ?_⟩
    · rw [and255]; omega
    · rw [and255]; omega
    · rw [w64 (by omega) (by omega)]; exact ⟨by omega, by omega, h2⟩
  · rw [if_neg hi]
    refine ⟨_, _, _, rfl, ?_, ?_, ⟨h0, h1, h2⟩⟩
    · rw [and255]; omega
    · rw [and255]; omega
theorem below_some {l : List Int} {i : Int} (h n : Int) (hc : Cur l i) : ∃ r i' h', spec_l01Below.f l i h n = some (r, i', h') ∧ 0 ≤ r ∧ (0 < n → r < n) ∧ (n ≤ 0 → r = 0) ∧ Cur l i' := by
  unfold spec_l01Below.f
  by_cases h0 : n ≤ 0
  · rw [if_pos h0]; exact ⟨_, _, _, rfl, by omega, fun _ => by omega, fun _ => rfl, hc⟩
  rw [if_neg h0]
  by_cases h1 : n ≤ 256
  · rw [if_pos h1]
    obtain ⟨b, i', h', e, b0, b1, hc'⟩ := byte_some h hc
    rw [e]
    simp only [Option.bind_some]
    rw [if_neg (by omega)]
    refine ⟨_, _, _, rfl, ?_, fun _ => ?_, fun _ => by omega, hc'⟩
    · exact Int.tmod_nonneg _ b0
    · exact Int.tmod_lt_of_pos _ (by omega)
  · rw [if_neg h1]
    obtain ⟨a, i1, h1', e1, a0, a1, hc1⟩ := byte_some h hc
    obtain ⟨b, i2, h2', e2, b0, b1, hc2⟩ := byte_some h1' hc1
    obtain ⟨c, i3, h3', e3, c0, c1, hc3⟩ := byte_some h2' hc2
    obtain ⟨d, i4, h4', e4, d0, d1, hc4⟩ := byte_some h3' hc3
    rw [e1]; simp only [Option.bind_some]
    rw [e2]; simp only [Option.bind_some]
    rw [e3]; simp only [Option.bind_some]
    rw [e4]; simp only [Option.bind_some]
    rw [if_neg (by omega)]
    refine ⟨_, _, _, rfl, ?_, fun _ => ?_, fun _ => by omega, hc4⟩
    · rw [w64 (x := a * 16777216) (by omega) (by omega), w64 (x := b * 65536) (by omega) (by omega), w64 (x := c * 256) (by omega) (by omega), w64 (x := a * 16777216 + b * 65536) (by omega) (by omega), w64 (x := a * 16777216 + b * 65536 + c * 256) (by omega) (by omega), w64 (by omega) (by omega)]
      exact Int.tmod_nonneg _ (by omega)
    · exact Int.tmod_lt_of_pos _ (by omega)
theorem pickInt_some {l : List Int} {i : Int} (h : Int) (hc : Cur l i) (xs : List Int) (hx : 0 < xs.length) : ∃ j i' h', 0 ≤ j ∧ j < (xs.length : Int) ∧ spec_l01PickInt.f l i h xs = some (rd xs j, i', h') ∧ Cur l i' := by
  obtain ⟨r, i', h', e, r0, r1, _, hc'⟩ := below_some h xs.length hc
  have r1' := r1 (by omega)
  unfold spec_l01PickInt.f
  rw [e]
  simp only [Option.bind_some]
  rw [if_pos r0, if_pos r1']
  exact ⟨r, _, _, r0, r1', rfl, hc'⟩
theorem new_loop (l : List Int) (hl : l.length ≤ 1048576) (d : Nat) : ∀ (i : Nat) (h : Int), i + d = l.length → ∃ h', Ev (fun k => spec_l01New.l0 k l h i) (l, 0, h') := by
  induction d with
  | zero =>
    intro i h e
    refine ⟨h, ev_at fun k => ?_⟩
    simp only [spec_l01New.l0]
    rw [if_neg (by omega)]
  | succ d ih =>
    intro i h e
    by_cases h4 : i < 4000
    · obtain ⟨h', he⟩ := ih (i + 1) (bits .and .i64 (wrap64 ((wrap64 ((wrap64 (h * 131)) + (wrap64 (rd l i)))) + 7)) 1073741823) (by omega)
      refine ⟨h', Ev.step (fun k => ?_) he⟩
      simp only [spec_l01New.l0]
      rw [if_pos (by omega), if_pos (by omega), if_pos (by omega), w64s i (by omega)]
    · refine ⟨h, ev_at fun k => ?_⟩
      simp only [spec_l01New.l0]
      rw [if_pos (by omega), if_neg (by omega)]
theorem new_ev (l : List Int) (hl : l.length ≤ 1048576) : ∃ h', Ev (fun k => spec_l01New.f k l) (l, 0, h') := new_loop l hl l.length 0 _ (by omega)
theorem cur_new (l : List Int) (hl : l.length ≤ 1048576) : Cur l 0 := ⟨by omega, by omega, hl⟩

end Go.Proofs.YtdjggipdjoopaaaDoor.Draw
