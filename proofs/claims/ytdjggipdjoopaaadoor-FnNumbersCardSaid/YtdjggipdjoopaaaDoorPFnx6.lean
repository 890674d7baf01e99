-- Made by a program of this session (tools/pr.sh) out of the translation; Lean checks it.
import Derived.Test.YtdjggipdjoopaaaDoorPFnx0
namespace Go.Proofs.YtdjggipdjoopaaaDoor.PFn
open Go.RowKit Go.Proofs.YtdjggipdjoopaaaDoorW.PrintWords Go.Proofs.YtdjggipdjoopaaaDoorW.PrintLast Go.Proofs.YtdjggipdjoopaaaDoorW.PrintMore
attribute [local go_sem] max2_int min2_int max_two min_two max_three min_three max_four min_four   -- for this text's walks alone
set_option linter.unusedVariables false
set_option linter.unusedSimpArgs false

-- GIVEN by hand
/-! ### impl_decimal: function 34 -/
def impl_decimal.f (a0 : ByteArray) : Option (Int × Bool) := if a0.size ≤ 281474976710656 then (match Lib.atoiAll a0.data.toList with | .ok v => some (v, decide (Lib.itoa v = a0.data.toList)) | .«syntax» => some (0, false) | .range => some (Lib.atoiSat a0.data.toList, false)) else none
set_option maxHeartbeats 8000000 in
set_option maxRecDepth 100000 in
theorem impl_decimal.calls (a0 : ByteArray) (r1 : Int) (r2 : Bool) (w : World) (hT : Tab w) (h : impl_decimal.f a0 = some (r1, r2)) :
    Calls Tryd.prog 34 #[.string a0] w fun e w' => e = .returned (.tuple #[.int .i64 r1, .bool r2]) ∧ Below w.heap.size w w' := by
  unfold impl_decimal.f at h
  obtain ⟨ts, ps, hs⟩ := hT.syn
  obtain ⟨tr, pr, hr⟩ := hT.rng
  by_cases h0 : a0.size ≤ 281474976710656
  · rw [if_pos h0] at h
    cases ha : Lib.atoiAll a0.data.toList with
    | ok v =>
      rw [ha] at h
      simp only [Option.some.injEq, Prod.mk.injEq] at h
      obtain ⟨rfl, rfl⟩ := h
      have hv := Lib.atoiAll_bounds ha
      go_enter Tryd.func34, Tryd.ntmps34
      go_wp2_with (first | (go_at_call 44; refine (Tryd.strconv_Atoi_ok a0 (by omega) v ha _).mono ?_; rintro e w1 ⟨rfl, hw⟩; have hb : Below w.heap.size w w1 := by (rcases hw with rfl | ⟨t, rfl⟩ <;> first | exact Below.refl _ _ | exact Lib.bytesWorld_below _ _ _)) | (go_at_call 36; refine (Tryd.strconv_Itoa v hv.1 hv.2 _ (hT.below hb).pow).mono ?_; rintro e w2 ⟨rfl, k2, os2, rfl⟩))
      go_ret2
      have hb2 : Below w.heap.size w (Sort.grow (w1.drewN k2) os2) := hb.trans ⟨rfl, rfl, rfl, by show w1.heap.size ≤ (w1.heap ++ os2).size; rw [Array.size_append]; omega, fun j hj => by show (w1.heap ++ os2)[j]? = w1.heap[j]?; rw [Array.getElem?_append_left (Nat.lt_of_lt_of_le hj hb.size)]⟩
      refine ⟨?_, hb2⟩
      by_cases hq : Lib.itoa v = a0.data.toList <;> simp [ByteArray.toList_eq, hq]
    | «syntax» =>
      rw [ha] at h
      simp only [Option.some.injEq, Prod.mk.injEq] at h
      obtain ⟨rfl, rfl⟩ := h
      go_enter Tryd.func34, Tryd.ntmps34
      go_wp2_with (go_at_call 44; refine (Tryd.strconv_Atoi_syntax a0 h0 ha (.iface ts ps) _ ?_ (.inr ⟨_, _, rfl⟩)).mono ?_)
      · exact hs
      rintro e W1 ⟨N, rfl, -, -, hb⟩
      go_wp2
      go_ret2
      exact ⟨rfl, hb⟩
    | range =>
      rw [ha] at h
      simp only [Option.some.injEq, Prod.mk.injEq] at h
      obtain ⟨rfl, rfl⟩ := h
      go_enter Tryd.func34, Tryd.ntmps34
      go_wp2_with (go_at_call 44; refine (Tryd.strconv_Atoi_range a0 h0 ha (.iface tr pr) _ ?_ (.inr ⟨_, _, rfl⟩)).mono ?_)
      · exact hr
      rintro e W1 ⟨N, rfl, -, -, hb⟩
      go_wp2
      go_ret2
      exact ⟨rfl, hb⟩
  · rw [if_neg h0] at h; cases h

end Go.Proofs.YtdjggipdjoopaaaDoor.PFn
