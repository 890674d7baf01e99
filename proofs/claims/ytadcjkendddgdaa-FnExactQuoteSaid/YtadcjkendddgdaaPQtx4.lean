-- Made by a program of this session (tools/pr.sh) out of the translation; Lean checks it.
import Derived.Test.YtadcjkendddgdaaPQtx0
namespace Go.Proofs.Ytadcjkendddgdaa.PQt
open Go.RowKit Go.Proofs.YtadcjkendddgdaaW.PrintWords Go.Proofs.YtadcjkendddgdaaW.PrintLast Go.Proofs.YtadcjkendddgdaaW.PrintMore
attribute [local go_sem] max2_int min2_int max_two min_two max_three min_three max_four min_four   -- for this text's walks alone
set_option linter.unusedVariables false
set_option linter.unusedSimpArgs false

-- GIVEN by hand
/-! ### impl_Quote: function 42 -/
def impl_Quote.wild (c : Int) : Int := Lib.indexByte (⟨#[42, 63, 91, 92]⟩ : ByteArray).data.toList c.toNat.toUInt8
def impl_Quote.l0 : Nat → ByteArray → Int → List Int → Option ByteArray
  | 0, _, _, _ => none
  | k + 1, x0, x7, x => if x7 < (x0.size : Int) then (if 0 ≤ x7 then (if x.length + 2 ≤ 140737488355328 then (if impl_Quote.wild (bt x0 x7) ≥ 0 then impl_Quote.l0 k x0 (wrap64 (x7 + 1)) ((x ++ [92]) ++ [bt x0 x7]) else impl_Quote.l0 k x0 (wrap64 (x7 + 1)) (x ++ [bt x0 x7])) else none) else none) else some (strOfNums x)
def impl_Quote.f (a0 : ByteArray) : Option ByteArray := impl_Quote.l0 (a0.size + 1) a0 0 []
set_option maxHeartbeats 8000000 in
set_option maxRecDepth 100000 in
theorem impl_Quote.calls (a0 : ByteArray) (r : ByteArray) (w : World) (h : impl_Quote.f a0 = some r) :
    Calls Try.prog 42 #[.string a0] w fun e w' => e = .returned (.string r) ∧ Below w.heap.size w w' := by
  have H' := Aside0.mk h
  clear h
  have HI := Aside0.mk (Lib.fresh_isBuilder 64 5 w)
  have HB := Aside0.mk (below_alloc (Below.refl w.heap.size w) (.cells #[.pointer none, .slice none 0 0] 64))
  go_enter Try.func42, Try.ntmps42
  go_wp2
  go_loopg [7] (a0.size + 1) (fun kq v7 w' => ∃ (x7 : Int) (x : List Int), v7 = .int .i64 x7 ∧ Aside0 (impl_Quote.l0 kq a0 x7 x = some r) ∧ Aside0 (kq ≤ a0.size + 1) ∧ Aside0 (Ytadcjkendddgdaa.Build.BytesL x) ∧ Aside0 (Lib.IsBuilder 64 5 w.heap.size w.heap.size (nums .u8 x) w') ∧ Aside0 (Below w.heap.size w w'))
  case atStart => exact ⟨0, [], rfl, H', ⟨Nat.le_refl _⟩, ⟨Ytadcjkendddgdaa.Build.bytesL_nil⟩, HI, HB⟩
  case round =>
    clear H' HI HB
    obtain ⟨x7, x, rfl, HA, HK, HY, HI, HB⟩ := hrel
    cases gk with
    | zero => exact absurd HA.out (by simp [impl_Quote.l0])
    | succ k1 =>
      have H := HA.out
      clear HA
      simp only [impl_Quote.l0] at H
      by_cases c1 : x7 < (a0.size : Int)
      · rw [if_pos c1] at H
        have c1b : decide (x7 < (a0.size : Int)) = true := decide_eq_true c1
        by_cases c2 : 0 ≤ x7
        · rw [if_pos c2] at H
          by_cases c3 : x.length + 2 ≤ 140737488355328
          · rw [if_pos c3] at H
            have hbt := bt_range a0 x7
            have hx := bt_at a0 x7
            obtain ⟨j, hj⟩ : ∃ j : Int, impl_Quote.wild (bt a0 x7) = j := ⟨_, rfl⟩
            rw [hj] at H
            unfold impl_Quote.wild at hj
            have HJ := Aside0.mk hj
            clear hj
            replace c2 := eq_true c2
            replace c1 := eq_true c1
            have C3 := Aside0.mk c3
            clear c3
            have HT := Aside0.mk hbt
            clear hbt
            by_cases c4 : j ≥ 0
            · rw [if_pos c4] at H
              have c4b : decide (j ≥ 0) = true := decide_eq_true c4
              clear c4
              have H' := Aside0.mk H
              clear H
              go_wp2_with (first | (go_at_call 57; refine (Try.strings_IndexByte _ _ _).mono ?_; rintro e w1 ⟨rfl, rfl⟩; simp only [HJ.out]) | (go_at_call 58; refine (Ytadcjkendddgdaa.Build.WriteByte _ _ _ _ _ HI.out ?_ ?_).mono ?_; (exact Ytadcjkendddgdaa.Build.len2 C3.out); (exact HB.out.size); rintro e w1 ⟨rfl, hi, hb⟩; have n0_ := Aside0.mk (Or.inr hi : Lib.IsBuilder _ _ _ _ _ _); have n1_ := Aside0.mk (HB.out.trans hb); clear HI HB; have HI := n0_; have HB := n1_; clear n0_ n1_ hi hb))
              go_roundg k1
              case measure => have := HK.out; omega
              case rel => exact ⟨_, _, rfl, H', ⟨by have := HK.out; omega⟩, ⟨Ytadcjkendddgdaa.Build.bytesL_snoc (Ytadcjkendddgdaa.Build.bytesL_snoc HY.out (by decide) (by decide)) HT.out.1 HT.out.2⟩, ⟨by rw [nums_append, nums_append]; exact HI.out⟩, HB⟩
            · rw [if_neg c4] at H
              have c4b : decide (j ≥ 0) = false := decide_eq_false c4
              clear c4
              have H' := Aside0.mk H
              clear H
              go_wp2_with (first | (go_at_call 57; refine (Try.strings_IndexByte _ _ _).mono ?_; rintro e w1 ⟨rfl, rfl⟩; simp only [HJ.out]) | (go_at_call 58; refine (Ytadcjkendddgdaa.Build.WriteByte _ _ _ _ _ HI.out ?_ ?_).mono ?_; (exact Ytadcjkendddgdaa.Build.len2 C3.out); (exact HB.out.size); rintro e w1 ⟨rfl, hi, hb⟩; have n0_ := Aside0.mk (Or.inr hi : Lib.IsBuilder _ _ _ _ _ _); have n1_ := Aside0.mk (HB.out.trans hb); clear HI HB; have HI := n0_; have HB := n1_; clear n0_ n1_ hi hb))
              go_roundg k1
              case measure => have := HK.out; omega
              case rel => exact ⟨_, _, rfl, H', ⟨by have := HK.out; omega⟩, ⟨Ytadcjkendddgdaa.Build.bytesL_snoc HY.out HT.out.1 HT.out.2⟩, ⟨by rw [nums_append]; exact HI.out⟩, HB⟩
          · rw [if_neg c3] at H
            cases H
        · rw [if_neg c2] at H
          cases H
      · rw [if_neg c1] at H
        have c1b : decide (x7 < (a0.size : Int)) = false := decide_eq_false c1
        clear c1
        obtain rfl := Option.some.inj H
        clear H
        go_wp2_with (go_at_call 59; refine (Ytadcjkendddgdaa.Build.StringN w.heap.size _ x _ HY.out HI.out HB.out.size).mono ?_; rintro e w1 ⟨rfl, hb⟩; have n1_ := Aside0.mk (HB.out.trans hb); clear HI HB; have HB := n1_; clear n1_ hb)
        go_ret
        exact ⟨rfl, HB.out⟩

end Go.Proofs.Ytadcjkendddgdaa.PQt
