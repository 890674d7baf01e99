-- Made by a program of this session (tools/pr.sh) out of the translation; Lean checks it.
import Derived.Test.YtdjggipdjoopaaaDoorPFnx0
namespace Go.Proofs.YtdjggipdjoopaaaDoor.PFn
open Go.RowKit Go.Proofs.YtdjggipdjoopaaaDoorW.PrintWords Go.Proofs.YtdjggipdjoopaaaDoorW.PrintLast Go.Proofs.YtdjggipdjoopaaaDoorW.PrintMore
attribute [local go_sem] max2_int min2_int max_two min_two max_three min_three max_four min_four   -- for this text's walks alone
set_option linter.unusedVariables false
set_option linter.unusedSimpArgs false

-- GIVEN by hand
/-! ### impl_varText: function 27 -/
def impl_varText.l0 : Nat → Int → List Int → Option ByteArray
  | 0, _, _ => none
  | k + 1, x0, x => if x0 > 127 then impl_varText.l0 k (x0 / 128) (x ++ [bits .or .u8 ((bits .and .i64 x0 127) % 256) 128]) else some (strOfNums (x ++ [x0 % 256]))
def impl_varText.f (a0 : Int) : Option ByteArray := impl_varText.l0 64 a0 []
set_option maxHeartbeats 8000000 in
set_option maxRecDepth 100000 in
theorem impl_varText.calls (a0 : Int) (r : ByteArray) (w : World) (h : impl_varText.f a0 = some r) :
    Calls Tryd.prog 27 #[.int .i64 a0] w fun e w' => e = .returned (.string r) ∧ Below w.heap.size w w' := by
  have H' := Aside0.mk h
  clear h
  have HI := Aside0.mk (Lib.fresh_isBuilder 65 5 w)
  have HB := Aside0.mk (below_alloc (Below.refl w.heap.size w) (.cells #[.pointer none, .slice none 0 0] 65))
  go_enter Tryd.func27, Tryd.ntmps27
  go_wp2
  go_loopg [0] 64 (fun kq v0 w' => ∃ (x0 : Int) (x : List Int), v0 = .int .i64 x0 ∧ Aside0 (impl_varText.l0 kq x0 x = some r) ∧ Aside0 (x.length + kq ≤ 64) ∧ Aside0 (YtdjggipdjoopaaaDoor.Build.BytesL x) ∧ Aside0 (Lib.IsBuilder 65 5 w.heap.size w.heap.size (nums .u8 x) w') ∧ Aside0 (Below w.heap.size w w'))
  case atStart => exact ⟨a0, [], rfl, H', ⟨by simp⟩, ⟨YtdjggipdjoopaaaDoor.Build.bytesL_nil⟩, HI, HB⟩
  case round =>
    clear H' HI HB
    obtain ⟨x0, x, rfl, HA, HK, HY, HI, HB⟩ := hrel
    cases gk with
    | zero => exact absurd HA.out (by simp [impl_varText.l0])
    | succ k1 =>
      have H := HA.out
      clear HA
      simp only [impl_varText.l0] at H
      by_cases c : x0 > 127
      · rw [if_pos c] at H
        have cb : decide (x0 > 127) = true := decide_eq_true c
        clear c
        have H' := Aside0.mk H
        clear H
        go_wp2_with (go_at_call 41; refine (YtdjggipdjoopaaaDoor.Build.WriteByte _ _ _ _ _ HI.out ?_ ?_).mono ?_; (exact YtdjggipdjoopaaaDoor.Build.len_lt HK.out); (exact HB.out.size); rintro e w1 ⟨rfl, hi, hb⟩; have n0_ := Aside0.mk hi; have n1_ := Aside0.mk (HB.out.trans hb); clear HI HB; have HI := n0_; have HB := n1_; clear n0_ n1_ hi hb)
        go_roundg k1
        case measure => have := HK.out; omega
        case rel => exact ⟨_, _, rfl, H', ⟨by have := HK.out; simp; omega⟩, ⟨YtdjggipdjoopaaaDoor.Build.bytesL_or HY.out _⟩, ⟨.inr (by rw [nums_append]; exact HI.out)⟩, HB⟩
      · rw [if_neg c] at H
        have cb : decide (x0 > 127) = false := decide_eq_false c
        clear c
        obtain rfl := Option.some.inj H
        clear H
        go_wp2_with (first | (go_at_call 41; refine (YtdjggipdjoopaaaDoor.Build.WriteByte _ _ _ _ _ HI.out ?_ ?_).mono ?_; (exact YtdjggipdjoopaaaDoor.Build.len_lt HK.out); (exact HB.out.size); rintro e w1 ⟨rfl, hi, hb⟩; have n0_ := Aside0.mk hi; have n1_ := Aside0.mk (HB.out.trans hb); clear HI HB; have HI := n0_; have HB := n1_; clear n0_ n1_ hi hb) | (go_at_call 42; refine (YtdjggipdjoopaaaDoor.Build.StringN w.heap.size _ (x ++ [x0 % 256]) _ (YtdjggipdjoopaaaDoor.Build.bytesL_mod HY.out _) (Or.inr (by rw [nums_append]; exact HI.out)) HB.out.size).mono ?_; rintro e w1 ⟨rfl, hb⟩; have n1_ := Aside0.mk (HB.out.trans hb); clear HI HB; have HB := n1_; clear n1_ hb))
        go_ret
        exact ⟨rfl, HB.out⟩

end Go.Proofs.YtdjggipdjoopaaaDoor.PFn
