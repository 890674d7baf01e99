-- Made by a program of this session (tools/pr.sh) out of the translation; Lean checks it.
import Derived.Test.YtbkodnhnadkhdaaDoorPFtx0
import Derived.Test.YtbkodnhnadkhdaaDoorPFtx7
namespace Go.Proofs.YtbkodnhnadkhdaaDoor.PFt
open Go.RowKit Go.Proofs.YtbkodnhnadkhdaaDoorW.PrintWords Go.Proofs.YtbkodnhnadkhdaaDoorW.PrintLast Go.Proofs.YtbkodnhnadkhdaaDoorW.PrintMore
attribute [local go_sem] max2_int min2_int max_two min_two max_three min_three max_four min_four   -- for this text's walks alone
set_option linter.unusedVariables false
set_option linter.unusedSimpArgs false

-- GIVEN by a template of this session (patch_print.py, any_text)
/-! ### any_impl_LiteralBytes_1: slices.ContainsFunc of impl_LiteralBytes_1 -/
def any_impl_LiteralBytes_1.l0 : Nat → List S94 → Int → Option Int
  | 0, _, _ => none
  | k + 1, x0, x8 => if x8 < (x0.length : Int) then (if 0 ≤ x8 then ((impl_LiteralBytes_1.f (rd_T94 x0 x8).f0 (rd_T94 x0 x8).f1 (rd_T94 x0 x8).f2 (rd_T94 x0 x8).f3).bind fun t => if t = true then some x8 else any_impl_LiteralBytes_1.l0 k x0 (wrap64 (x8 + 1))) else none) else some (-1)
def any_impl_LiteralBytes_1.f (l0 : List S94) : Option Bool := (any_impl_LiteralBytes_1.l0 (l0.length + 1) l0 0).bind fun t => some (decide (t ≥ 0))
set_option maxHeartbeats 8000000 in
set_option maxRecDepth 100000 in
theorem any_impl_LiteralBytes_1.index (k : Nat) (A0 : Option Addr) (c0 : Nat) (l0 : List S94) (r : Int) (w : World) (hr0 : Kd.C k94 w A0 l0.length l0) (hc0 : l0.length ≤ c0) (h : any_impl_LiteralBytes_1.l0 k l0 0 = some r) :
    Calls Tryd.prog 103 #[.slice A0 l0.length c0, .func (.func 81) #[] #[]] w fun e w' => e = .returned (.int .i64 r) ∧ Below w.heap.size w w' := by
  have HR0 := Aside0.mk hr0
  have HC0 := Aside0.mk hc0
  clear hr0 hc0
  have HB := Aside0.mk (Below.refl w.heap.size w)
  have H' := Aside0.mk h
  clear h
  go_enter Tryd.func103, Tryd.ntmps103
  go_wp2
  go_loopg [8] k (fun kq v8 w' => ∃ (x8_1 : Int), v8 = .int .i64 x8_1 ∧ Aside0 (any_impl_LiteralBytes_1.l0 kq l0 x8_1 = some r) ∧ Aside0 (kq ≤ k) ∧ Aside0 (Below w.heap.size w w'))
  case atStart => exact ⟨(0), (by first | rfl | (simp; done) | (simp [*]; done)), H', ⟨Nat.le_refl _⟩, ⟨by repeat (first | (with_reducible first | exact HB.out | apply below_alloc | apply pw_below_drewN | apply below_drew1) | exact HB.out)⟩⟩
  case round =>
    clear H'
    clear HB
    obtain ⟨x8_1, rfl, HA, HK1, HB⟩ := hrel
    cases gk with
    | zero => exact absurd HA.out (by simp [any_impl_LiteralBytes_1.l0])
    | succ k1 =>
      have H := HA.out
      clear HA
      simp only [any_impl_LiteralBytes_1.l0] at H
      by_cases c2 : x8_1 < (l0.length : Int)
      · rw [if_pos c2] at H
        have c2b0 : decide (x8_1 < (l0.length : Int)) = true := decide_eq_true c2
        clear c2
        by_cases c4 : 0 ≤ x8_1
        · rw [if_pos c4] at H
          have c4b0 : decide (0 ≤ x8_1) = true := decide_eq_true c4
          clear c4
          replace H := Option.bind_eq_some_iff.mp H
          obtain ⟨t, A20, H⟩ := H
          have A2 := Aside0.mk A20
          clear A20
          have p1 : 0 ≤ (x8_1 : Int) := of_decide_eq_true (by first | (with_reducible assumption) | assumption)
          have q1 : x8_1 < (l0.length : Int) := of_decide_eq_true (by first | (with_reducible assumption) | assumption)
          obtain ⟨ad1, e1, hx1_0, hx1_1, hx1_2, hx1_3⟩ := at_T94 HR0.out x8_1 p1 q1
          cases e1
          replace hx1_0 := pw_cell_below HB.out hx1_0
          replace hx1_1 := pw_cell_below HB.out hx1_1
          replace hx1_2 := pw_cell_below HB.out hx1_2
          replace hx1_3 := pw_cell_below HB.out hx1_3
          replace p1 := eq_true p1
          replace q1 := eq_true q1
          by_cases c5 : t = true
          · rw [if_pos c5] at H
            subst c5
            obtain rfl := Option.some.inj H
            go_wp2_with (go_at_call 81; refine (impl_LiteralBytes_1.calls _ _ _ _ true _ A2.out).mono ?_; rintro e w4 ⟨rfl, hb⟩; have n0_ := Aside0.mk (below_step HB.out hb); clear HB; have HB := n0_; clear n0_ hb)
            go_ret
            exact ⟨by first | rfl | (simp; done) | (simp [*]; done), by repeat (first | (with_reducible first | exact HB.out | apply below_alloc | apply pw_below_drewN | apply below_drew1) | exact HB.out)⟩
          · rw [if_neg c5] at H
            obtain rfl : t = false := by simpa using c5
            clear c5
            have H' := Aside0.mk H
            clear H
            go_wp2_with (go_at_call 81; refine (impl_LiteralBytes_1.calls _ _ _ _ false _ A2.out).mono ?_; rintro e w4 ⟨rfl, hb⟩; have n0_ := Aside0.mk (below_step HB.out hb); clear HB; have HB := n0_; clear n0_ hb)
            go_roundg k1
            case measure => have := HK1.out; omega
            case rel => exact ⟨(wrap64 (x8_1 + 1)), (by first | rfl | (simp; done) | (simp [*]; done)), H', ⟨by have := HK1.out; omega⟩, ⟨by repeat (first | (with_reducible first | exact HB.out | apply below_alloc | apply pw_below_drewN | apply below_drew1) | exact HB.out)⟩⟩
        · rw [if_neg c4] at H
          exact absurd H (by simp)
      · rw [if_neg c2] at H
        have c2b0 : decide (x8_1 < (l0.length : Int)) = false := decide_eq_false c2
        clear c2
        obtain rfl := Option.some.inj H
        go_wp2
        go_ret
        exact ⟨by first | rfl | (simp; done) | (simp [*]; done), by repeat (first | (with_reducible first | exact HB.out | apply below_alloc | apply pw_below_drewN | apply below_drew1) | exact HB.out)⟩
set_option maxHeartbeats 8000000 in
theorem any_impl_LiteralBytes_1.calls (A0 : Option Addr) (c0 : Nat) (l0 : List S94) (r : Bool) (w : World) (hr0 : Kd.C k94 w A0 l0.length l0) (hc0 : l0.length ≤ c0) (h : any_impl_LiteralBytes_1.f l0 = some r) :
    Calls Tryd.prog 80 #[.slice A0 l0.length c0, .func (.func 81) #[] #[]] w fun e w' => e = .returned (.bool r) ∧ Below w.heap.size w w' := by
  unfold any_impl_LiteralBytes_1.f at h
  obtain ⟨t, A20, H⟩ := Option.bind_eq_some_iff.mp h
  clear h
  have A2 := Aside0.mk A20
  have HR0 := Aside0.mk hr0
  have HC0 := Aside0.mk hc0
  clear A20 hr0 hc0
  obtain rfl := Option.some.inj H
  clear H
  go_enter Tryd.func80, Tryd.ntmps80
  go_wp2_with (go_at_call 103; refine (any_impl_LiteralBytes_1.index _ _ _ _ _ _ HR0.out HC0.out A2.out).mono ?_; rintro e w4 ⟨rfl, hb⟩; have HB := Aside0.mk hb; clear hb)
  go_ret
  exact ⟨by first | rfl | (simp; done) | (simp [*]; done), by repeat (first | (with_reducible first | exact HB.out | apply below_alloc | apply pw_below_drewN | apply below_drew1) | exact HB.out)⟩

end Go.Proofs.YtbkodnhnadkhdaaDoor.PFt
