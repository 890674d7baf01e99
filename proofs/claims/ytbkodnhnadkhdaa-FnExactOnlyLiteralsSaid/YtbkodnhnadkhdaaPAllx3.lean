-- Made by a program of this session (tools/pr.sh) out of the translation; Lean checks it.
import Derived.Test.YtbkodnhnadkhdaaPAllx0
import Derived.Test.YtbkodnhnadkhdaaPAllx2
namespace Go.Proofs.Ytbkodnhnadkhdaa.PAll
open Go.RowKit Go.Proofs.YtbkodnhnadkhdaaW.PrintWords Go.Proofs.YtbkodnhnadkhdaaW.PrintLast Go.Proofs.YtbkodnhnadkhdaaW.PrintMore
attribute [local go_sem] max2_int min2_int max_two min_two max_three min_three max_four min_four   -- for this text's walks alone
set_option linter.unusedVariables false
set_option linter.unusedSimpArgs false

/-! ### impl_roll: function 85 -/
def impl_roll.f (a0 : Int) (a1 : Int) (a2 : Int) (a3 : Int) : Option (Int) := (impl_halves.f a0).bind fun bt119 => ((impl_weak.f (wrap64 (bt119.1 + (wrap64 (a3 - a2)))) (wrap64 ((wrap64 (bt119.2 - (wrap64 (a1 * a2)))) + (wrap64 (bt119.1 + (wrap64 (a3 - a2))))))).bind fun t121 => (some t121))
set_option maxHeartbeats 8000000 in
set_option maxRecDepth 100000 in
theorem impl_roll.calls (a0 : Int) (a1 : Int) (a2 : Int) (a3 : Int) (r : Int) (w : World) (h : impl_roll.f a0 a1 a2 a3 = some r) :
    Calls Try.prog 85 #[.int .u32 a0, .int .i64 a1, .int .i64 a2, .int .i64 a3] w fun e w' => e = .returned (.int .u32 r) ∧ Drawn0 w w' := by
  have H : ((impl_halves.f a0).bind fun bt119 => ((impl_weak.f (wrap64 (bt119.1 + (wrap64 (a3 - a2)))) (wrap64 ((wrap64 (bt119.2 - (wrap64 (a1 * a2)))) + (wrap64 (bt119.1 + (wrap64 (a3 - a2))))))).bind fun t121 => (some t121))) = some r := h
  clear h
  replace H := Option.bind_eq_some_iff.mp H
  obtain ⟨⟨t119, t120⟩, A50, H⟩ := H
  replace H : ((impl_weak.f (wrap64 (t119 + (wrap64 (a3 - a2)))) (wrap64 ((wrap64 (t120 - (wrap64 (a1 * a2)))) + (wrap64 (t119 + (wrap64 (a3 - a2))))))).bind fun t121 => (some t121)) = some r := H
  have A5 := Aside0.mk A50
  clear A50
  replace H := Option.bind_eq_some_iff.mp H
  obtain ⟨t121, A60, H⟩ := H
  replace H : (some t121) = some r := H
  have A6 := Aside0.mk A60
  clear A60
  obtain rfl := Option.some.inj H
  go_enter Try.func85, Try.ntmps85
  go_wp2_with (first | ((with_reducible refine gate_callee (f := 94) rfl ?_); refine goesL_ (some 13) rfl rfl Try.func94 (by kernel_rfl) rfl #[.int .u32 a0] rfl (by (try simp only [List.map_toArray, List.map_cons, List.map_nil]); first | done | rfl | (simp only [List.length_drop, List.length_take]; rfl)) ?_; (with_reducible refine (impl_halves.calls a0 t119 t120 _ A5.out).mono ?_); rintro e w' ⟨rfl, ⟨nd, rfl⟩⟩; refine ⟨_, rfl, ?_⟩) | ((with_reducible refine gate_callee (f := 93) rfl ?_); refine goesL_ (some 29) rfl rfl Try.func93 (by kernel_rfl) rfl #[.int .i64 (wrap64 (t119 + (wrap64 (a3 - a2)))), .int .i64 (wrap64 ((wrap64 (t120 - (wrap64 (a1 * a2)))) + (wrap64 (t119 + (wrap64 (a3 - a2))))))] rfl (by (try simp only [List.map_toArray, List.map_cons, List.map_nil]); first | done | rfl | (simp only [List.length_drop, List.length_take]; rfl)) ?_; (with_reducible refine (impl_weak.calls (wrap64 (t119 + (wrap64 (a3 - a2)))) (wrap64 ((wrap64 (t120 - (wrap64 (a1 * a2)))) + (wrap64 (t119 + (wrap64 (a3 - a2)))))) t121 _ A6.out).mono ?_); rintro e w' ⟨rfl, ⟨nd, rfl⟩⟩; refine ⟨_, rfl, ?_⟩))
  go_ret
  exact ⟨by first | rfl | (simp; done) | (simp [*]; done), by repeat (first | exact Drawn0.refl _ | apply Drawn0.step)⟩

end Go.Proofs.Ytbkodnhnadkhdaa.PAll
