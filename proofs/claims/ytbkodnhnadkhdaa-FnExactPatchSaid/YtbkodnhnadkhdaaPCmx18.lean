-- Made by a program of this session (tools/pr.sh) out of the translation; Lean checks it.
import Derived.Test.YtbkodnhnadkhdaaPCmx0
import Derived.Test.YtbkodnhnadkhdaaPCmx3
import Derived.Test.YtbkodnhnadkhdaaPCmx17
namespace Go.Proofs.Ytbkodnhnadkhdaa.PCm
open Go.RowKit Go.Proofs.YtbkodnhnadkhdaaW.PrintWords Go.Proofs.YtbkodnhnadkhdaaW.PrintLast Go.Proofs.YtbkodnhnadkhdaaW.PrintMore
attribute [local go_sem] max2_int min2_int max_two min_two max_three min_three max_four min_four   -- for this text's walks alone
set_option linter.unusedVariables false
set_option linter.unusedSimpArgs false

/-! ### impl_Patch: function 39 -/
mutual
def impl_Patch.j0 : Nat → ByteArray → Int → List (S67) → Bool → Option (ByteArray × Bool)
  | 0, _, _, _, _ => none
  | k + 1, x0, x1, x2, x24 => if x24 = true then (some ((⟨#[]⟩ : ByteArray), false)) else (if x1 = 0 then (none) else (impl_Patch.l0 k x0 x1 (wrap64 (Int.tdiv (wrap64 ((wrap64 ((x0.size : Int) + x1)) - 1)) x1)) ([] : List Int) x2 (x2.length : Int) 0))
def impl_Patch.l0 : Nat → ByteArray → Int → Int → List Int → List (S67) → Int → Int → Option (ByteArray × Bool)
  | 0, _, _, _, _, _, _, _ => none
  | k + 1, x0, x1, x8, x9, x32, x33, x34 => if x34 < x33 then (if 0 ≤ x34 then (if x34 < (x32.length : Int) then ((impl_TokenOk.f ((rd_T67 x32 x34).f0) ((rd_T67 x32 x34).f1) ((rd_T67 x32 x34).f2) ((rd_T67 x32 x34).f3)).bind fun t283 => (if t283 = true then (if ((rd_T67 x32 x34).f0) = 1 then (if ((rd_T67 x32 x34).f2) ≥ x8 then (impl_Patch.j2 k x0 x1 x8 x9 x32 x33 x34 true ((rd_T67 x32 x34).f0) ((rd_T67 x32 x34).f1) ((rd_T67 x32 x34).f2) ((rd_T67 x32 x34).f3)) else (impl_Patch.j2 k x0 x1 x8 x9 x32 x33 x34 (decide (((rd_T67 x32 x34).f3) > (wrap64 (x8 - ((rd_T67 x32 x34).f2))))) ((rd_T67 x32 x34).f0) ((rd_T67 x32 x34).f1) ((rd_T67 x32 x34).f2) ((rd_T67 x32 x34).f3))) else (impl_Patch.j2 k x0 x1 x8 x9 x32 x33 x34 false ((rd_T67 x32 x34).f0) ((rd_T67 x32 x34).f1) ((rd_T67 x32 x34).f2) ((rd_T67 x32 x34).f3))) else (impl_Patch.j2 k x0 x1 x8 x9 x32 x33 x34 true ((rd_T67 x32 x34).f0) ((rd_T67 x32 x34).f1) ((rd_T67 x32 x34).f2) ((rd_T67 x32 x34).f3)))) else (none)) else (none)) else (some (strOfNums x9, true))
def impl_Patch.j2 : Nat → ByteArray → Int → Int → List Int → List (S67) → Int → Int → Bool → Int → ByteArray → Int → Int → Option (ByteArray × Bool)
  | 0, _, _, _, _, _, _, _, _, _, _, _, _ => none
  | k + 1, x0, x1, x8, x9, x32, x33, x34, x60, x283000, x283001, x283002, x283003 => if x60 = true then (some ((⟨#[]⟩ : ByteArray), false)) else (if x9.length + x283001.size < 140737488355328 then ((some (x9 ++ bytesOf x283001 : List Int)).bind fun y284 => (if x283000 = 1 then (if 0 ≤ (wrap64 (x283002 * x1)) then (if (wrap64 (x283002 * x1)) ≤ (mn (wrap64 ((wrap64 (x283002 + x283003)) * x1)) (x0.size : Int)) then (if (mn (wrap64 ((wrap64 (x283002 + x283003)) * x1)) (x0.size : Int)) ≤ (x0.size : Int) then (if y284.length + (x0.extract ((wrap64 (x283002 * x1)) : Int).toNat ((mn (wrap64 ((wrap64 (x283002 + x283003)) * x1)) (x0.size : Int)) : Int).toNat).size < 140737488355328 then ((some (y284 ++ bytesOf (x0.extract ((wrap64 (x283002 * x1)) : Int).toNat ((mn (wrap64 ((wrap64 (x283002 + x283003)) * x1)) (x0.size : Int)) : Int).toNat) : List Int)).bind fun y287 => (if (y287.length : Int) > 20000 then (some ((⟨#[]⟩ : ByteArray), false)) else (impl_Patch.l0 k x0 x1 x8 y287 x32 x33 (wrap64 (x34 + 1))))) else (none)) else (none)) else (none)) else (none)) else (if (y284.length : Int) > 20000 then (some ((⟨#[]⟩ : ByteArray), false)) else (impl_Patch.l0 k x0 x1 x8 y284 x32 x33 (wrap64 (x34 + 1)))))) else (none))
end
def impl_Patch.f (k : Nat) (a0 : ByteArray) (a1 : Int) (l2 : List (S67)) : Option (ByteArray × Bool) := (impl_within.f a1 1 256).bind fun t280 => (if t280 = true then (if (a0.size : Int) > 20000 then (impl_Patch.j0 k a0 a1 l2 true) else (impl_Patch.j0 k a0 a1 l2 (decide ((l2.length : Int) > 20000)))) else (impl_Patch.j0 k a0 a1 l2 true))
theorem impl_Patch.mono_l : ∀ k, (∀ y0 y1 y2 y3, LeO (impl_Patch.j0 k y0 y1 y2 y3) (impl_Patch.j0 (k + 1) y0 y1 y2 y3)) ∧ (∀ y0 y1 y2 y3 y4 y5 y6, LeO (impl_Patch.l0 k y0 y1 y2 y3 y4 y5 y6) (impl_Patch.l0 (k + 1) y0 y1 y2 y3 y4 y5 y6)) ∧ (∀ y0 y1 y2 y3 y4 y5 y6 y7 y8 y9 y10 y11, LeO (impl_Patch.j2 k y0 y1 y2 y3 y4 y5 y6 y7 y8 y9 y10 y11) (impl_Patch.j2 (k + 1) y0 y1 y2 y3 y4 y5 y6 y7 y8 y9 y10 y11))
  | 0 => ⟨fun _ _ _ _ r h => by simp [impl_Patch.j0] at h, fun _ _ _ _ _ _ _ r h => by simp [impl_Patch.l0] at h, fun _ _ _ _ _ _ _ _ _ _ _ _ r h => by simp [impl_Patch.j2] at h⟩
  | k + 1 => by
    obtain ⟨ih0, ih1, ih2⟩ := impl_Patch.mono_l k
    refine ⟨?_, ?_, ?_⟩
    · intro y0 y1 y2 y3
      unfold impl_Patch.j0
      repeat' first
      | (with_reducible exact ih0 _ _ _ _)
      | (with_reducible exact ih1 _ _ _ _ _ _ _)
      | (with_reducible exact ih2 _ _ _ _ _ _ _ _ _ _ _ _)
      | (with_reducible exact LeO.refl _)
      | (with_reducible exact LeO.none _)
      | (with_reducible refine LeO.ite ?_ ?_)
      | (with_reducible refine LeO.bind ?_ (fun _ => ?_))
      | exact ih0 _ _ _ _
      | exact ih1 _ _ _ _ _ _ _
      | exact ih2 _ _ _ _ _ _ _ _ _ _ _ _
      | exact LeO.none _
      | refine LeO.ite ?_ ?_
      | refine LeO.bind ?_ (fun _ => ?_)
    · intro y0 y1 y2 y3 y4 y5 y6
      unfold impl_Patch.l0
      repeat' first
      | (with_reducible exact ih0 _ _ _ _)
      | (with_reducible exact ih1 _ _ _ _ _ _ _)
      | (with_reducible exact ih2 _ _ _ _ _ _ _ _ _ _ _ _)
      | (with_reducible exact LeO.refl _)
      | (with_reducible exact LeO.none _)
      | (with_reducible refine LeO.ite ?_ ?_)
      | (with_reducible refine LeO.bind ?_ (fun _ => ?_))
      | exact ih0 _ _ _ _
      | exact ih1 _ _ _ _ _ _ _
      | exact ih2 _ _ _ _ _ _ _ _ _ _ _ _
      | exact LeO.none _
      | refine LeO.ite ?_ ?_
      | refine LeO.bind ?_ (fun _ => ?_)
    · intro y0 y1 y2 y3 y4 y5 y6 y7 y8 y9 y10 y11
      unfold impl_Patch.j2
      repeat' first
      | (with_reducible exact ih0 _ _ _ _)
      | (with_reducible exact ih1 _ _ _ _ _ _ _)
      | (with_reducible exact ih2 _ _ _ _ _ _ _ _ _ _ _ _)
      | (with_reducible exact LeO.refl _)
      | (with_reducible exact LeO.none _)
      | (with_reducible refine LeO.ite ?_ ?_)
      | (with_reducible refine LeO.bind ?_ (fun _ => ?_))
      | exact ih0 _ _ _ _
      | exact ih1 _ _ _ _ _ _ _
      | exact ih2 _ _ _ _ _ _ _ _ _ _ _ _
      | exact LeO.none _
      | refine LeO.ite ?_ ?_
      | refine LeO.bind ?_ (fun _ => ?_)
theorem impl_Patch.mono : ∀ a0 a1 a2 k, LeO (impl_Patch.f k a0 a1 a2) (impl_Patch.f (k + 1) a0 a1 a2) := by
  intro a0 a1 a2 k
  obtain ⟨ih0, ih1, ih2⟩ := impl_Patch.mono_l k
  unfold impl_Patch.f
  repeat' first
      | (with_reducible exact ih0 _ _ _ _)
      | (with_reducible exact ih1 _ _ _ _ _ _ _)
      | (with_reducible exact ih2 _ _ _ _ _ _ _ _ _ _ _ _)
      | (with_reducible exact LeO.refl _)
      | (with_reducible exact LeO.none _)
      | (with_reducible refine LeO.ite ?_ ?_)
      | (with_reducible refine LeO.bind ?_ (fun _ => ?_))
      | exact ih0 _ _ _ _
      | exact ih1 _ _ _ _ _ _ _
      | exact ih2 _ _ _ _ _ _ _ _ _ _ _ _
      | exact LeO.none _
      | refine LeO.ite ?_ ?_
      | refine LeO.bind ?_ (fun _ => ?_)
set_option maxHeartbeats 8000000 in
set_option maxRecDepth 100000 in
theorem impl_Patch.calls (k : Nat) (a0 : ByteArray) (a1 : Int) (A2 : Option Addr) (c2 : Nat) (l2 : List (S67)) (r1 : ByteArray) (r2 : Bool) (w : World) (hr2 : Kd.C k67 w A2 l2.length l2) (hc2 : l2.length ≤ c2) (h : impl_Patch.f k a0 a1 l2 = some (r1, r2)) :
    Calls Try.prog 39 #[.string a0, .int .i64 a1, .slice A2 l2.length c2] w fun e w' => e = .returned (.tuple #[.string r1, .bool r2]) ∧ Below w.heap.size w w' := by
  have hu67 := Try.underlying67
  have HR2 := Aside0.mk hr2
  have HC2 := Aside0.mk hc2
  clear hr2 hc2
  have HB := Aside0.mk (Below.refl w.heap.size w)
  have H : ((impl_within.f a1 1 256).bind fun t280 => (if t280 = true then (if (a0.size : Int) > 20000 then (impl_Patch.j0 k a0 a1 l2 true) else (impl_Patch.j0 k a0 a1 l2 (decide ((l2.length : Int) > 20000)))) else (impl_Patch.j0 k a0 a1 l2 true))) = some (r1, r2) := h
  clear h
  have HC4 := Aside0.mk H
  clear H
  try (have hjm34 := hji34; first | unfold mn at hjm34 | unfold mx at hjm34)
  go_enter Try.func39, Try.ntmps39
  go_upto_region 1 with (fail)
  go_cut [24] (fun v24 wc => ∃ (kq : Nat) (x24_3 : Bool), v24 = .bool x24_3 ∧ Aside0 (impl_Patch.j0 kq a0 a1 l2 x24_3 = some (r1, r2)) ∧ Aside0 (kq ≤ k) ∧ Aside0 (Below w.heap.size w wc))
  case first =>
    have H := HC4.out
    clear HC4
    replace H := Option.bind_eq_some_iff.mp H
    obtain ⟨t280, A50, H⟩ := H
    replace H : (if t280 = true then (if (a0.size : Int) > 20000 then (impl_Patch.j0 k a0 a1 l2 true) else (impl_Patch.j0 k a0 a1 l2 (decide ((l2.length : Int) > 20000)))) else (impl_Patch.j0 k a0 a1 l2 true)) = some (r1, r2) := H
    have A5 := Aside0.mk A50
    clear A50
    by_cases c6 : t280 = true
    · subst c6
      have H1 : (if (a0.size : Int) > 20000 then (impl_Patch.j0 k a0 a1 l2 true) else (impl_Patch.j0 k a0 a1 l2 (decide ((l2.length : Int) > 20000)))) = some (r1, r2) := by rw [if_pos rfl] at H; exact H
      clear H
      have H := H1
      clear H1
      by_cases c7 : (a0.size : Int) > 20000
      · rw [if_pos c7] at H
        have c7b0 : decide (20000 < (a0.size : Int)) = true := decide_eq_true c7
        have c7b1 : decide (20000 < a0.size) = true := decide_eq_true (by omega)
        clear c7
        (first | rw [c7b0] | (simp only [i64_w, i32_w, IntKind.wrap_u8, IntKind.wrap_u32]; rw [c7b0]) | skip)
        have H' := Aside0.mk H
        clear H
        go_wp2_with (first | ((with_reducible refine gate_callee (f := 55) rfl ?_); refine goesL_ (some 13) rfl rfl Try.func55 (by kernel_rfl) rfl #[.int .i64 a1, .int .i64 1, .int .i64 256] rfl (by (try simp only [List.map_toArray, List.map_cons, List.map_nil]); first | done | rfl | (simp only [List.length_drop, List.length_take]; rfl)) ?_; (with_reducible refine (impl_within.calls a1 1 256 true _ A5.out).mono ?_); rintro e w' ⟨rfl, ⟨nd, rfl⟩⟩; refine ⟨_, rfl, ?_⟩))
        go_meet
        case rel => exact ⟨_, (true), (by first | rfl | (simp; done) | (simp [*]; done)), H', ⟨by first | omega | exact Nat.le_refl _⟩, ⟨by repeat (first | (with_reducible first | exact HB.out | apply below_alloc | apply pw_below_drewN | apply below_drew1) | exact HB.out)⟩⟩
      · rw [if_neg c7] at H
        have c7b0 : decide (20000 < (a0.size : Int)) = false := decide_eq_false c7
        have c7b1 : decide (20000 < a0.size) = false := decide_eq_false (by omega)
        clear c7
        (first | rw [c7b0] | (simp only [i64_w, i32_w, IntKind.wrap_u8, IntKind.wrap_u32]; rw [c7b0]) | skip)
        have H' := Aside0.mk H
        clear H
        go_wp2_with (first | ((with_reducible refine gate_callee (f := 55) rfl ?_); refine goesL_ (some 13) rfl rfl Try.func55 (by kernel_rfl) rfl #[.int .i64 a1, .int .i64 1, .int .i64 256] rfl (by (try simp only [List.map_toArray, List.map_cons, List.map_nil]); first | done | rfl | (simp only [List.length_drop, List.length_take]; rfl)) ?_; (with_reducible refine (impl_within.calls a1 1 256 true _ A5.out).mono ?_); rintro e w' ⟨rfl, ⟨nd, rfl⟩⟩; refine ⟨_, rfl, ?_⟩))
        go_meet
        case rel => exact ⟨_, (decide ((l2.length : Int) > 20000)), (by first | rfl | (simp; done) | (simp [*]; done)), H', ⟨by first | omega | exact Nat.le_refl _⟩, ⟨by repeat (first | (with_reducible first | exact HB.out | apply below_alloc | apply pw_below_drewN | apply below_drew1) | exact HB.out)⟩⟩
    · replace c6 := Bool.eq_false_iff.mpr c6
      subst c6
      have H1 : (impl_Patch.j0 k a0 a1 l2 true) = some (r1, r2) := by rw [if_neg (show ¬ (false = true) by decide)] at H; exact H
      clear H
      have H := H1
      clear H1
      have H' := Aside0.mk H
      clear H
      go_wp2_with (first | ((with_reducible refine gate_callee (f := 55) rfl ?_); refine goesL_ (some 13) rfl rfl Try.func55 (by kernel_rfl) rfl #[.int .i64 a1, .int .i64 1, .int .i64 256] rfl (by (try simp only [List.map_toArray, List.map_cons, List.map_nil]); first | done | rfl | (simp only [List.length_drop, List.length_take]; rfl)) ?_; (with_reducible refine (impl_within.calls a1 1 256 false _ A5.out).mono ?_); rintro e w' ⟨rfl, ⟨nd, rfl⟩⟩; refine ⟨_, rfl, ?_⟩))
      go_meet
      case rel => exact ⟨_, (true), (by first | rfl | (simp; done) | (simp [*]; done)), H', ⟨by first | omega | exact Nat.le_refl _⟩, ⟨by repeat (first | (with_reducible first | exact HB.out | apply below_alloc | apply pw_below_drewN | apply below_drew1) | exact HB.out)⟩⟩
  case rest =>
    clear HC4
    try clear c2
    try clear p2
    try clear c3
    try clear c5
    try clear c6
    try clear c7
    try clear c7b0
    try clear c7b1
    obtain ⟨kq, x24_3, rfl, HA, HJ3, HB⟩ := hcut
    cases kq with
    | zero => exact absurd HA.out (by simp [impl_Patch.j0])
    | succ kj3 =>
      have H := HA.out
      clear HA
      simp only [impl_Patch.j0] at H
      by_cases c8 : x24_3 = true
      · subst c8
        have H1 : (some ((⟨#[]⟩ : ByteArray), false)) = some (r1, r2) := by rw [if_pos rfl] at H; exact H
        clear H
        have H := H1
        clear H1
        simp only [Option.some.injEq, Prod.mk.injEq] at H
        obtain ⟨rfl, rfl⟩ := H
        go_wp2
        go_ret2
        exact ⟨by first | rfl | (simp [errW_none, errW_some] <;> rfl) | (simp [*, errW_none, errW_some] <;> rfl), by repeat (first | (with_reducible first | exact HB.out | apply below_alloc | apply pw_below_drewN | apply below_drew1) | exact HB.out)⟩
      · replace c8 := Bool.eq_false_iff.mpr c8
        subst c8
        have H1 : (if a1 = 0 then (none) else (impl_Patch.l0 kj3 a0 a1 (wrap64 (Int.tdiv (wrap64 ((wrap64 ((a0.size : Int) + a1)) - 1)) a1)) ([] : List Int) l2 (l2.length : Int) 0)) = some (r1, r2) := by rw [if_neg (show ¬ (false = true) by decide)] at H; exact H
        clear H
        have H := H1
        clear H1
        by_cases c9 : a1 = 0
        · rw [if_pos c9] at H
          exact absurd H (by simp)
        · rw [if_neg c9] at H
          have c9b0 : (a1 == 0) = false := beq_eq_false_iff_ne.mpr c9
          have c9b1 : (a1 != 0) = true := bne_iff_ne.mpr c9
          have H' := Aside0.mk H
          clear H
          go_wp2
          go_loopg [9, 34] kj3 (fun kq v9 v34 w' => ∃ (x9_2 : List Int) (x34_2 : Int), v34 = .int .i64 x34_2 ∧ Aside0 (impl_Patch.l0 kq a0 a1 (wrap64 (Int.tdiv (wrap64 ((wrap64 ((a0.size : Int) + a1)) - 1)) a1)) x9_2 l2 (l2.length : Int) x34_2 = some (r1, r2)) ∧ Aside0 (kq ≤ kj3) ∧ Aside0 (Kd.R (Kd.int .u8) 5 w' w.heap.size (fun _ => True) v9 x9_2) ∧ Aside0 (Below w.heap.size w w'))
          case atStart => exact ⟨(([] : List Int)), (0), (by first | rfl | (simp; done) | (simp [*]; done)), H', ⟨Nat.le_refl _⟩, ⟨by first | exact Kd.R_nil _ _ _ _ _ | exact Kd.N_nil _ _ _ _ _ | exact Kd.V_nil _ _ _ _ _ | exact Kd.Q_nil _ _ _ _ _ | exact Kd.S_nil _ _ _ _ _⟩, ⟨by repeat (first | (with_reducible first | exact HB.out | apply below_alloc | apply pw_below_drewN | apply below_drew1) | exact HB.out)⟩⟩
          case round =>
            clear H'
            try clear c2
            try clear p2
            try clear c3
            try clear c5
            try clear c6
            try clear p6
            try clear c7
            try clear c7b0
            try clear c7b1
            try clear c8
            try clear c9
            try clear c9b0
            try clear c9b1
            try clear p2
            obtain ⟨x9_2, x34_2, rfl, HA, HK2, HO_9, HB⟩ := hrel
            cases gk with
            | zero => exact absurd HA.out (by simp [impl_Patch.l0])
            | succ k2 =>
              have H := HA.out
              clear HA
              simp only [impl_Patch.l0] at H
              by_cases c10 : x34_2 < (l2.length : Int)
              · rw [if_pos c10] at H
                have c10b0 : decide (x34_2 < (l2.length : Int)) = true := decide_eq_true c10
                clear c10
                by_cases c11 : 0 ≤ x34_2
                · rw [if_pos c11] at H
                  have c11b0 : decide (0 ≤ x34_2) = true := decide_eq_true c11
                  clear c11
                  by_cases c12 : x34_2 < (l2.length : Int)
                  · rw [if_pos c12] at H
                    have c12b0 : decide (x34_2 < (l2.length : Int)) = true := decide_eq_true c12
                    clear c12
                    have HC13 := Aside0.mk H
                    clear H
                    have p281 : 0 ≤ (x34_2 : Int) := of_decide_eq_true (by first | (with_reducible assumption) | assumption)
                    have q281 : x34_2 < (l2.length : Int) := of_decide_eq_true (by first | (with_reducible assumption) | assumption)
                    obtain ⟨ad281, e281, hx281_0, hx281_1, hx281_2, hx281_3⟩ := at_T67 HR2.out x34_2 p281 q281
                    cases e281
                    replace hx281_0 := (HB.out.cell (World.block_lt_of_cell? w _ hx281_0)).trans hx281_0
                    replace hx281_1 := (HB.out.cell (World.block_lt_of_cell? w _ hx281_1)).trans hx281_1
                    replace hx281_2 := (HB.out.cell (World.block_lt_of_cell? w _ hx281_2)).trans hx281_2
                    replace hx281_3 := (HB.out.cell (World.block_lt_of_cell? w _ hx281_3)).trans hx281_3
                    replace p281 := eq_true p281
                    replace q281 := eq_true q281
                    go_upto_region 8 with (first | ((with_reducible refine gate_dst (N := 11) rfl ?_); (try (refine gate_guard (by rfl) ?_; dsimp only)); refine box_event ?hg (N := 11) ?hd (cs := #[.int .i64 0, .string (⟨#[]⟩ : ByteArray), .int .i64 0, .int .i64 0]) (t := 67) ?hr ?_; (case hd => rfl); (case hg => rfl); (case hr => first | (go_simp; done) | (go_simp; rfl)); intro gb282 hg w14 hbox hb; have n0_ := Aside0.mk (Kd.R_below (by (with_reducible repeat (first | apply Kd.R_alloc | apply Kd.R_drewN | apply Kd.R_drew)); exact HO_9.out) hb); have n1_ := Aside0.mk (below_step (by repeat (first | (with_reducible first | exact HB.out | apply below_alloc | apply pw_below_drewN | apply below_drew1) | exact HB.out)) hb); have n2_ := Aside0.mk (hbox); have n3_ := Aside0.mk ((by rw [hg]; exact (below_size (by repeat (first | (with_reducible first | exact HB.out | apply below_alloc | apply pw_below_drewN | apply below_drew1) | exact HB.out))) : w.heap.size ≤ gb282)); have n4_ := Aside0.mk ((by rw [hg]; exact (below_size (by repeat (first | (with_reducible first | exact HB.out | apply below_alloc | apply pw_below_drewN | apply below_drew1) | exact HB.out))) : w.heap.size ≤ gb282)); clear HO_9; clear HB; have HO_9 := n0_; have HB := n1_; have BK282 := n2_; have GW282 := n3_; have GE282 := n4_; clear n0_ n1_ n2_ n3_ n4_; clear hb hbox hg; have hcz15_0 : w14.cell? ⟨gb282, 0, none⟩ = some (.int .i64 0) := (blk_cell BK282.out 0).trans rfl; have hcz15_1 : w14.cell? ⟨gb282, 1, none⟩ = some (.string (⟨#[]⟩ : ByteArray)) := (blk_cell BK282.out 1).trans rfl; have hcz15_2 : w14.cell? ⟨gb282, 2, none⟩ = some (.int .i64 0) := (blk_cell BK282.out 2).trans rfl; have hcz15_3 : w14.cell? ⟨gb282, 3, none⟩ = some (.int .i64 0) := (blk_cell BK282.out 3).trans rfl; have hfz15_0 := blk_frozen BK282.out 0; have hfz15_1 := blk_frozen BK282.out 1; have hfz15_2 := blk_frozen BK282.out 2; have hfz15_3 := blk_frozen BK282.out 3))
                    (try simp only [Act.put, List.setIfInBounds_toArray, List.set_cons_zero, List.set_cons_succ])
                    go_cut [60] (fun v60 wc => ∃ (kq : Nat) (x60_12 : Bool), v60 = .bool x60_12 ∧ Aside0 (impl_Patch.j2 kq a0 a1 (wrap64 (Int.tdiv (wrap64 ((wrap64 ((a0.size : Int) + a1)) - 1)) a1)) x9_2 l2 (l2.length : Int) x34_2 x60_12 ((rd_T67 l2 x34_2).f0) ((rd_T67 l2 x34_2).f1) ((rd_T67 l2 x34_2).f2) ((rd_T67 l2 x34_2).f3) = some (r1, r2)) ∧ Aside0 (kq ≤ k2) ∧ Aside0 (Kd.R (Kd.int .u8) 5 wc w.heap.size (fun _ => True) u9 x9_2) ∧ Aside0 (wc.heap[gb282]? = some (.cells #[.int .i64 ((rd_T67 l2 x34_2).f0), .string ((rd_T67 l2 x34_2).f1), .int .i64 ((rd_T67 l2 x34_2).f2), .int .i64 ((rd_T67 l2 x34_2).f3)] 67 (0, 0))) ∧ Aside0 (Below w.heap.size w wc))
                    case first =>
                      have H := HC13.out
                      clear HC13
                      replace H := Option.bind_eq_some_iff.mp H
                      obtain ⟨t283, A160, H⟩ := H
                      replace H : (if t283 = true then (if ((rd_T67 l2 x34_2).f0) = 1 then (if ((rd_T67 l2 x34_2).f2) ≥ (wrap64 (Int.tdiv (wrap64 ((wrap64 ((a0.size : Int) + a1)) - 1)) a1)) then (impl_Patch.j2 k2 a0 a1 (wrap64 (Int.tdiv (wrap64 ((wrap64 ((a0.size : Int) + a1)) - 1)) a1)) x9_2 l2 (l2.length : Int) x34_2 true ((rd_T67 l2 x34_2).f0) ((rd_T67 l2 x34_2).f1) ((rd_T67 l2 x34_2).f2) ((rd_T67 l2 x34_2).f3)) else (impl_Patch.j2 k2 a0 a1 (wrap64 (Int.tdiv (wrap64 ((wrap64 ((a0.size : Int) + a1)) - 1)) a1)) x9_2 l2 (l2.length : Int) x34_2 (decide (((rd_T67 l2 x34_2).f3) > (wrap64 ((wrap64 (Int.tdiv (wrap64 ((wrap64 ((a0.size : Int) + a1)) - 1)) a1)) - ((rd_T67 l2 x34_2).f2))))) ((rd_T67 l2 x34_2).f0) ((rd_T67 l2 x34_2).f1) ((rd_T67 l2 x34_2).f2) ((rd_T67 l2 x34_2).f3))) else (impl_Patch.j2 k2 a0 a1 (wrap64 (Int.tdiv (wrap64 ((wrap64 ((a0.size : Int) + a1)) - 1)) a1)) x9_2 l2 (l2.length : Int) x34_2 false ((rd_T67 l2 x34_2).f0) ((rd_T67 l2 x34_2).f1) ((rd_T67 l2 x34_2).f2) ((rd_T67 l2 x34_2).f3))) else (impl_Patch.j2 k2 a0 a1 (wrap64 (Int.tdiv (wrap64 ((wrap64 ((a0.size : Int) + a1)) - 1)) a1)) x9_2 l2 (l2.length : Int) x34_2 true ((rd_T67 l2 x34_2).f0) ((rd_T67 l2 x34_2).f1) ((rd_T67 l2 x34_2).f2) ((rd_T67 l2 x34_2).f3))) = some (r1, r2) := H
                      have A16 := Aside0.mk A160
                      clear A160
                      by_cases c17 : t283 = true
                      · subst c17
                        have H1 : (if ((rd_T67 l2 x34_2).f0) = 1 then (if ((rd_T67 l2 x34_2).f2) ≥ (wrap64 (Int.tdiv (wrap64 ((wrap64 ((a0.size : Int) + a1)) - 1)) a1)) then (impl_Patch.j2 k2 a0 a1 (wrap64 (Int.tdiv (wrap64 ((wrap64 ((a0.size : Int) + a1)) - 1)) a1)) x9_2 l2 (l2.length : Int) x34_2 true ((rd_T67 l2 x34_2).f0) ((rd_T67 l2 x34_2).f1) ((rd_T67 l2 x34_2).f2) ((rd_T67 l2 x34_2).f3)) else (impl_Patch.j2 k2 a0 a1 (wrap64 (Int.tdiv (wrap64 ((wrap64 ((a0.size : Int) + a1)) - 1)) a1)) x9_2 l2 (l2.length : Int) x34_2 (decide (((rd_T67 l2 x34_2).f3) > (wrap64 ((wrap64 (Int.tdiv (wrap64 ((wrap64 ((a0.size : Int) + a1)) - 1)) a1)) - ((rd_T67 l2 x34_2).f2))))) ((rd_T67 l2 x34_2).f0) ((rd_T67 l2 x34_2).f1) ((rd_T67 l2 x34_2).f2) ((rd_T67 l2 x34_2).f3))) else (impl_Patch.j2 k2 a0 a1 (wrap64 (Int.tdiv (wrap64 ((wrap64 ((a0.size : Int) + a1)) - 1)) a1)) x9_2 l2 (l2.length : Int) x34_2 false ((rd_T67 l2 x34_2).f0) ((rd_T67 l2 x34_2).f1) ((rd_T67 l2 x34_2).f2) ((rd_T67 l2 x34_2).f3))) = some (r1, r2) := by rw [if_pos rfl] at H; exact H
                        clear H
                        have H := H1
                        clear H1
                        by_cases c18 : ((rd_T67 l2 x34_2).f0) = 1
                        · rw [if_pos c18] at H
                          have c18b0 : (((rd_T67 l2 x34_2).f0) == 1) = true := beq_iff_eq.mpr c18
                          have c18b1 : (((rd_T67 l2 x34_2).f0) != 1) = false := bne_eq_false_iff_eq.mpr c18
                          clear c18
                          (first | rw [c18b0] | (simp only [i64_w, i32_w, IntKind.wrap_u8, IntKind.wrap_u32]; rw [c18b0]) | skip)
                          by_cases c19 : ((rd_T67 l2 x34_2).f2) ≥ (wrap64 (Int.tdiv (wrap64 ((wrap64 ((a0.size : Int) + a1)) - 1)) a1))
                          · rw [if_pos c19] at H
                            have c19b0 : decide ((wrap64 (Int.tdiv (wrap64 ((wrap64 ((a0.size : Int) + a1)) - 1)) a1)) ≤ ((rd_T67 l2 x34_2).f2)) = true := decide_eq_true c19
                            clear c19
                            have H' := Aside0.mk H
                            clear H
                            have hcz20_0 : w14.cell? ⟨gb282, 0, none⟩ = some (.int .i64 0) := (blk_cell BK282.out 0).trans rfl
                            have hcz20_1 : w14.cell? ⟨gb282, 1, none⟩ = some (.string (⟨#[]⟩ : ByteArray)) := (blk_cell BK282.out 1).trans rfl
                            have hcz20_2 : w14.cell? ⟨gb282, 2, none⟩ = some (.int .i64 0) := (blk_cell BK282.out 2).trans rfl
                            have hcz20_3 : w14.cell? ⟨gb282, 3, none⟩ = some (.int .i64 0) := (blk_cell BK282.out 3).trans rfl
                            have hfz20_0 := blk_frozen BK282.out 0
                            have hfz20_1 := blk_frozen BK282.out 1
                            have hfz20_2 := blk_frozen BK282.out 2
                            have hfz20_3 := blk_frozen BK282.out 3
                            go_wp2_with (first | ((with_reducible refine gate_callee (f := 66) rfl ?_); refine goesL_ (some 39) rfl rfl Try.func66 (by kernel_rfl) rfl #[.agg #[.int .i64 ((rd_T67 l2 x34_2).f0), .string ((rd_T67 l2 x34_2).f1), .int .i64 ((rd_T67 l2 x34_2).f2), .int .i64 ((rd_T67 l2 x34_2).f3)]] rfl (by (try simp only [List.map_toArray, List.map_cons, List.map_nil]); first | done | rfl | (simp only [List.length_drop, List.length_take]; rfl)) ?_; (with_reducible refine (impl_TokenOk.calls ((rd_T67 l2 x34_2).f0) ((rd_T67 l2 x34_2).f1) ((rd_T67 l2 x34_2).f2) ((rd_T67 l2 x34_2).f3) true _ A16.out).mono ?_); rintro e w21 ⟨rfl, hb⟩; refine ⟨_, rfl, ?_⟩; have n0_ := Aside0.mk (Kd.R_below (by (with_reducible repeat (first | apply Kd.R_alloc | apply Kd.R_drewN | apply Kd.R_drew)); exact (Kd.R_mono (Kd.R_far (p := ⟨gb282, 3, none⟩) (Kd.R_far (p := ⟨gb282, 2, none⟩) (Kd.R_far (p := ⟨gb282, 1, none⟩) (Kd.R_far (p := ⟨gb282, 0, none⟩) (Kd.R_types HO_9.out BK282.out (by decide)) (fun _ hk => hk.2) (.int .i64 ((rd_T67 l2 x34_2).f0))) (fun _ hk => hk.2) (.string ((rd_T67 l2 x34_2).f1))) (fun _ hk => hk.2) (.int .i64 ((rd_T67 l2 x34_2).f2))) (fun _ hk => hk.2) (.int .i64 ((rd_T67 l2 x34_2).f3))) (fun _ h_ => h_.1))) hb); have n1_ := Aside0.mk (blk_below (g := gb282) (o := .cells #[.int .i64 ((rd_T67 l2 x34_2).f0), .string ((rd_T67 l2 x34_2).f1), .int .i64 ((rd_T67 l2 x34_2).f2), .int .i64 ((rd_T67 l2 x34_2).f3)] 67 (0, 0)) (by (with_reducible repeat (first | refine blk_drewN ?_ _ | refine blk_drew ?_ | refine blk_alloc ?_ _)); refine blk_put (cs := #[.int .i64 ((rd_T67 l2 x34_2).f0), .string ((rd_T67 l2 x34_2).f1), .int .i64 ((rd_T67 l2 x34_2).f2), .int .i64 0]) ?_ 3 _ rfl; (with_reducible repeat (first | refine blk_drewN ?_ _ | refine blk_drew ?_ | refine blk_alloc ?_ _)); refine blk_put (cs := #[.int .i64 ((rd_T67 l2 x34_2).f0), .string ((rd_T67 l2 x34_2).f1), .int .i64 0, .int .i64 0]) ?_ 2 _ rfl; (with_reducible repeat (first | refine blk_drewN ?_ _ | refine blk_drew ?_ | refine blk_alloc ?_ _)); refine blk_put (cs := #[.int .i64 ((rd_T67 l2 x34_2).f0), .string (⟨#[]⟩ : ByteArray), .int .i64 0, .int .i64 0]) ?_ 1 _ rfl; (with_reducible repeat (first | refine blk_drewN ?_ _ | refine blk_drew ?_ | refine blk_alloc ?_ _)); refine blk_put (cs := #[.int .i64 0, .string (⟨#[]⟩ : ByteArray), .int .i64 0, .int .i64 0]) ?_ 0 _ rfl; (with_reducible repeat (first | refine blk_drewN ?_ _ | refine blk_drew ?_ | refine blk_alloc ?_ _)); exact BK282.out) hb); have n2_ := Aside0.mk (below_step (by repeat (first | (with_reducible first | exact HB.out | apply below_alloc | apply pw_below_drewN | apply below_drew1 | refine below_set ?_ GE282.out) | exact HB.out)) hb); clear HO_9; clear BK282; clear HB; have HO_9 := n0_; have BK282 := n1_; have HB := n2_; clear n0_ n1_ n2_; (try clear hb); (try clear hb2); (try clear hk); (try clear hi); have hcz22_0 : w21.cell? ⟨gb282, 0, none⟩ = some (.int .i64 ((rd_T67 l2 x34_2).f0)) := (blk_cell BK282.out 0).trans rfl; have hcz22_1 : w21.cell? ⟨gb282, 1, none⟩ = some (.string ((rd_T67 l2 x34_2).f1)) := (blk_cell BK282.out 1).trans rfl; have hcz22_2 : w21.cell? ⟨gb282, 2, none⟩ = some (.int .i64 ((rd_T67 l2 x34_2).f2)) := (blk_cell BK282.out 2).trans rfl; have hcz22_3 : w21.cell? ⟨gb282, 3, none⟩ = some (.int .i64 ((rd_T67 l2 x34_2).f3)) := (blk_cell BK282.out 3).trans rfl; have hfz22_0 := blk_frozen BK282.out 0; have hfz22_1 := blk_frozen BK282.out 1; have hfz22_2 := blk_frozen BK282.out 2; have hfz22_3 := blk_frozen BK282.out 3))
                            go_meet
                            case rel => exact ⟨_, (true), (by first | rfl | (simp; done) | (simp [*]; done)), H', ⟨by have := HJ3.out; have := HK2.out; first | omega | exact Nat.le_refl _⟩, ⟨by (with_reducible repeat (first | apply Kd.R_alloc | apply Kd.R_drewN | apply Kd.R_drew)); exact HO_9.out⟩, ⟨by (with_reducible repeat (first | refine blk_drewN ?_ _ | refine blk_drew ?_ | refine blk_alloc ?_ _)); exact BK282.out⟩, ⟨by repeat (first | (with_reducible first | exact HB.out | apply below_alloc | apply pw_below_drewN | apply below_drew1 | refine below_set ?_ GE282.out) | exact HB.out)⟩⟩
                          · rw [if_neg c19] at H
                            have c19b0 : decide ((wrap64 (Int.tdiv (wrap64 ((wrap64 ((a0.size : Int) + a1)) - 1)) a1)) ≤ ((rd_T67 l2 x34_2).f2)) = false := decide_eq_false c19
                            clear c19
                            have H' := Aside0.mk H
                            clear H
                            have hcz23_0 : w14.cell? ⟨gb282, 0, none⟩ = some (.int .i64 0) := (blk_cell BK282.out 0).trans rfl
                            have hcz23_1 : w14.cell? ⟨gb282, 1, none⟩ = some (.string (⟨#[]⟩ : ByteArray)) := (blk_cell BK282.out 1).trans rfl
                            have hcz23_2 : w14.cell? ⟨gb282, 2, none⟩ = some (.int .i64 0) := (blk_cell BK282.out 2).trans rfl
                            have hcz23_3 : w14.cell? ⟨gb282, 3, none⟩ = some (.int .i64 0) := (blk_cell BK282.out 3).trans rfl
                            have hfz23_0 := blk_frozen BK282.out 0
                            have hfz23_1 := blk_frozen BK282.out 1
                            have hfz23_2 := blk_frozen BK282.out 2
                            have hfz23_3 := blk_frozen BK282.out 3
                            go_wp2_with (first | ((with_reducible refine gate_callee (f := 66) rfl ?_); refine goesL_ (some 39) rfl rfl Try.func66 (by kernel_rfl) rfl #[.agg #[.int .i64 ((rd_T67 l2 x34_2).f0), .string ((rd_T67 l2 x34_2).f1), .int .i64 ((rd_T67 l2 x34_2).f2), .int .i64 ((rd_T67 l2 x34_2).f3)]] rfl (by (try simp only [List.map_toArray, List.map_cons, List.map_nil]); first | done | rfl | (simp only [List.length_drop, List.length_take]; rfl)) ?_; (with_reducible refine (impl_TokenOk.calls ((rd_T67 l2 x34_2).f0) ((rd_T67 l2 x34_2).f1) ((rd_T67 l2 x34_2).f2) ((rd_T67 l2 x34_2).f3) true _ A16.out).mono ?_); rintro e w24 ⟨rfl, hb⟩; refine ⟨_, rfl, ?_⟩; have n0_ := Aside0.mk (Kd.R_below (by (with_reducible repeat (first | apply Kd.R_alloc | apply Kd.R_drewN | apply Kd.R_drew)); exact (Kd.R_mono (Kd.R_far (p := ⟨gb282, 3, none⟩) (Kd.R_far (p := ⟨gb282, 2, none⟩) (Kd.R_far (p := ⟨gb282, 1, none⟩) (Kd.R_far (p := ⟨gb282, 0, none⟩) (Kd.R_types HO_9.out BK282.out (by decide)) (fun _ hk => hk.2) (.int .i64 ((rd_T67 l2 x34_2).f0))) (fun _ hk => hk.2) (.string ((rd_T67 l2 x34_2).f1))) (fun _ hk => hk.2) (.int .i64 ((rd_T67 l2 x34_2).f2))) (fun _ hk => hk.2) (.int .i64 ((rd_T67 l2 x34_2).f3))) (fun _ h_ => h_.1))) hb); have n1_ := Aside0.mk (blk_below (g := gb282) (o := .cells #[.int .i64 ((rd_T67 l2 x34_2).f0), .string ((rd_T67 l2 x34_2).f1), .int .i64 ((rd_T67 l2 x34_2).f2), .int .i64 ((rd_T67 l2 x34_2).f3)] 67 (0, 0)) (by (with_reducible repeat (first | refine blk_drewN ?_ _ | refine blk_drew ?_ | refine blk_alloc ?_ _)); refine blk_put (cs := #[.int .i64 ((rd_T67 l2 x34_2).f0), .string ((rd_T67 l2 x34_2).f1), .int .i64 ((rd_T67 l2 x34_2).f2), .int .i64 0]) ?_ 3 _ rfl; (with_reducible repeat (first | refine blk_drewN ?_ _ | refine blk_drew ?_ | refine blk_alloc ?_ _)); refine blk_put (cs := #[.int .i64 ((rd_T67 l2 x34_2).f0), .string ((rd_T67 l2 x34_2).f1), .int .i64 0, .int .i64 0]) ?_ 2 _ rfl; (with_reducible repeat (first | refine blk_drewN ?_ _ | refine blk_drew ?_ | refine blk_alloc ?_ _)); refine blk_put (cs := #[.int .i64 ((rd_T67 l2 x34_2).f0), .string (⟨#[]⟩ : ByteArray), .int .i64 0, .int .i64 0]) ?_ 1 _ rfl; (with_reducible repeat (first | refine blk_drewN ?_ _ | refine blk_drew ?_ | refine blk_alloc ?_ _)); refine blk_put (cs := #[.int .i64 0, .string (⟨#[]⟩ : ByteArray), .int .i64 0, .int .i64 0]) ?_ 0 _ rfl; (with_reducible repeat (first | refine blk_drewN ?_ _ | refine blk_drew ?_ | refine blk_alloc ?_ _)); exact BK282.out) hb); have n2_ := Aside0.mk (below_step (by repeat (first | (with_reducible first | exact HB.out | apply below_alloc | apply pw_below_drewN | apply below_drew1 | refine below_set ?_ GE282.out) | exact HB.out)) hb); clear HO_9; clear BK282; clear HB; have HO_9 := n0_; have BK282 := n1_; have HB := n2_; clear n0_ n1_ n2_; (try clear hb); (try clear hb2); (try clear hk); (try clear hi); have hcz25_0 : w24.cell? ⟨gb282, 0, none⟩ = some (.int .i64 ((rd_T67 l2 x34_2).f0)) := (blk_cell BK282.out 0).trans rfl; have hcz25_1 : w24.cell? ⟨gb282, 1, none⟩ = some (.string ((rd_T67 l2 x34_2).f1)) := (blk_cell BK282.out 1).trans rfl; have hcz25_2 : w24.cell? ⟨gb282, 2, none⟩ = some (.int .i64 ((rd_T67 l2 x34_2).f2)) := (blk_cell BK282.out 2).trans rfl; have hcz25_3 : w24.cell? ⟨gb282, 3, none⟩ = some (.int .i64 ((rd_T67 l2 x34_2).f3)) := (blk_cell BK282.out 3).trans rfl; have hfz25_0 := blk_frozen BK282.out 0; have hfz25_1 := blk_frozen BK282.out 1; have hfz25_2 := blk_frozen BK282.out 2; have hfz25_3 := blk_frozen BK282.out 3))
                            go_meet
                            case rel => exact ⟨_, (decide (((rd_T67 l2 x34_2).f3) > (wrap64 ((wrap64 (Int.tdiv (wrap64 ((wrap64 ((a0.size : Int) + a1)) - 1)) a1)) - ((rd_T67 l2 x34_2).f2))))), (by first | rfl | (simp; done) | (simp [*]; done)), H', ⟨by have := HJ3.out; have := HK2.out; first | omega | exact Nat.le_refl _⟩, ⟨by (with_reducible repeat (first | apply Kd.R_alloc | apply Kd.R_drewN | apply Kd.R_drew)); exact HO_9.out⟩, ⟨by (with_reducible repeat (first | refine blk_drewN ?_ _ | refine blk_drew ?_ | refine blk_alloc ?_ _)); exact BK282.out⟩, ⟨by repeat (first | (with_reducible first | exact HB.out | apply below_alloc | apply pw_below_drewN | apply below_drew1 | refine below_set ?_ GE282.out) | exact HB.out)⟩⟩
                        · rw [if_neg c18] at H
                          have c18b0 : (((rd_T67 l2 x34_2).f0) == 1) = false := beq_eq_false_iff_ne.mpr c18
                          have c18b1 : (((rd_T67 l2 x34_2).f0) != 1) = true := bne_iff_ne.mpr c18
                          (first | rw [c18b0] | (simp only [i64_w, i32_w, IntKind.wrap_u8, IntKind.wrap_u32]; rw [c18b0]) | skip)
                          have H' := Aside0.mk H
                          clear H
                          have hcz26_0 : w14.cell? ⟨gb282, 0, none⟩ = some (.int .i64 0) := (blk_cell BK282.out 0).trans rfl
                          have hcz26_1 : w14.cell? ⟨gb282, 1, none⟩ = some (.string (⟨#[]⟩ : ByteArray)) := (blk_cell BK282.out 1).trans rfl
                          have hcz26_2 : w14.cell? ⟨gb282, 2, none⟩ = some (.int .i64 0) := (blk_cell BK282.out 2).trans rfl
                          have hcz26_3 : w14.cell? ⟨gb282, 3, none⟩ = some (.int .i64 0) := (blk_cell BK282.out 3).trans rfl
                          have hfz26_0 := blk_frozen BK282.out 0
                          have hfz26_1 := blk_frozen BK282.out 1
                          have hfz26_2 := blk_frozen BK282.out 2
                          have hfz26_3 := blk_frozen BK282.out 3
                          go_wp2_with (first | ((with_reducible refine gate_callee (f := 66) rfl ?_); refine goesL_ (some 39) rfl rfl Try.func66 (by kernel_rfl) rfl #[.agg #[.int .i64 ((rd_T67 l2 x34_2).f0), .string ((rd_T67 l2 x34_2).f1), .int .i64 ((rd_T67 l2 x34_2).f2), .int .i64 ((rd_T67 l2 x34_2).f3)]] rfl (by (try simp only [List.map_toArray, List.map_cons, List.map_nil]); first | done | rfl | (simp only [List.length_drop, List.length_take]; rfl)) ?_; (with_reducible refine (impl_TokenOk.calls ((rd_T67 l2 x34_2).f0) ((rd_T67 l2 x34_2).f1) ((rd_T67 l2 x34_2).f2) ((rd_T67 l2 x34_2).f3) true _ A16.out).mono ?_); rintro e w27 ⟨rfl, hb⟩; refine ⟨_, rfl, ?_⟩; have n0_ := Aside0.mk (Kd.R_below (by (with_reducible repeat (first | apply Kd.R_alloc | apply Kd.R_drewN | apply Kd.R_drew)); exact (Kd.R_mono (Kd.R_far (p := ⟨gb282, 3, none⟩) (Kd.R_far (p := ⟨gb282, 2, none⟩) (Kd.R_far (p := ⟨gb282, 1, none⟩) (Kd.R_far (p := ⟨gb282, 0, none⟩) (Kd.R_types HO_9.out BK282.out (by decide)) (fun _ hk => hk.2) (.int .i64 ((rd_T67 l2 x34_2).f0))) (fun _ hk => hk.2) (.string ((rd_T67 l2 x34_2).f1))) (fun _ hk => hk.2) (.int .i64 ((rd_T67 l2 x34_2).f2))) (fun _ hk => hk.2) (.int .i64 ((rd_T67 l2 x34_2).f3))) (fun _ h_ => h_.1))) hb); have n1_ := Aside0.mk (blk_below (g := gb282) (o := .cells #[.int .i64 ((rd_T67 l2 x34_2).f0), .string ((rd_T67 l2 x34_2).f1), .int .i64 ((rd_T67 l2 x34_2).f2), .int .i64 ((rd_T67 l2 x34_2).f3)] 67 (0, 0)) (by (with_reducible repeat (first | refine blk_drewN ?_ _ | refine blk_drew ?_ | refine blk_alloc ?_ _)); refine blk_put (cs := #[.int .i64 ((rd_T67 l2 x34_2).f0), .string ((rd_T67 l2 x34_2).f1), .int .i64 ((rd_T67 l2 x34_2).f2), .int .i64 0]) ?_ 3 _ rfl; (with_reducible repeat (first | refine blk_drewN ?_ _ | refine blk_drew ?_ | refine blk_alloc ?_ _)); refine blk_put (cs := #[.int .i64 ((rd_T67 l2 x34_2).f0), .string ((rd_T67 l2 x34_2).f1), .int .i64 0, .int .i64 0]) ?_ 2 _ rfl; (with_reducible repeat (first | refine blk_drewN ?_ _ | refine blk_drew ?_ | refine blk_alloc ?_ _)); refine blk_put (cs := #[.int .i64 ((rd_T67 l2 x34_2).f0), .string (⟨#[]⟩ : ByteArray), .int .i64 0, .int .i64 0]) ?_ 1 _ rfl; (with_reducible repeat (first | refine blk_drewN ?_ _ | refine blk_drew ?_ | refine blk_alloc ?_ _)); refine blk_put (cs := #[.int .i64 0, .string (⟨#[]⟩ : ByteArray), .int .i64 0, .int .i64 0]) ?_ 0 _ rfl; (with_reducible repeat (first | refine blk_drewN ?_ _ | refine blk_drew ?_ | refine blk_alloc ?_ _)); exact BK282.out) hb); have n2_ := Aside0.mk (below_step (by repeat (first | (with_reducible first | exact HB.out | apply below_alloc | apply pw_below_drewN | apply below_drew1 | refine below_set ?_ GE282.out) | exact HB.out)) hb); clear HO_9; clear BK282; clear HB; have HO_9 := n0_; have BK282 := n1_; have HB := n2_; clear n0_ n1_ n2_; (try clear hb); (try clear hb2); (try clear hk); (try clear hi); have hcz28_0 : w27.cell? ⟨gb282, 0, none⟩ = some (.int .i64 ((rd_T67 l2 x34_2).f0)) := (blk_cell BK282.out 0).trans rfl; have hcz28_1 : w27.cell? ⟨gb282, 1, none⟩ = some (.string ((rd_T67 l2 x34_2).f1)) := (blk_cell BK282.out 1).trans rfl; have hcz28_2 : w27.cell? ⟨gb282, 2, none⟩ = some (.int .i64 ((rd_T67 l2 x34_2).f2)) := (blk_cell BK282.out 2).trans rfl; have hcz28_3 : w27.cell? ⟨gb282, 3, none⟩ = some (.int .i64 ((rd_T67 l2 x34_2).f3)) := (blk_cell BK282.out 3).trans rfl; have hfz28_0 := blk_frozen BK282.out 0; have hfz28_1 := blk_frozen BK282.out 1; have hfz28_2 := blk_frozen BK282.out 2; have hfz28_3 := blk_frozen BK282.out 3))
                          go_meet
                          case rel => exact ⟨_, (false), (by first | rfl | (simp; done) | (simp [*]; done)), H', ⟨by have := HJ3.out; have := HK2.out; first | omega | exact Nat.le_refl _⟩, ⟨by (with_reducible repeat (first | apply Kd.R_alloc | apply Kd.R_drewN | apply Kd.R_drew)); exact HO_9.out⟩, ⟨by (with_reducible repeat (first | refine blk_drewN ?_ _ | refine blk_drew ?_ | refine blk_alloc ?_ _)); exact BK282.out⟩, ⟨by repeat (first | (with_reducible first | exact HB.out | apply below_alloc | apply pw_below_drewN | apply below_drew1 | refine below_set ?_ GE282.out) | exact HB.out)⟩⟩
                      · replace c17 := Bool.eq_false_iff.mpr c17
                        subst c17
                        have H1 : (impl_Patch.j2 k2 a0 a1 (wrap64 (Int.tdiv (wrap64 ((wrap64 ((a0.size : Int) + a1)) - 1)) a1)) x9_2 l2 (l2.length : Int) x34_2 true ((rd_T67 l2 x34_2).f0) ((rd_T67 l2 x34_2).f1) ((rd_T67 l2 x34_2).f2) ((rd_T67 l2 x34_2).f3)) = some (r1, r2) := by rw [if_neg (show ¬ (false = true) by decide)] at H; exact H
                        clear H
                        have H := H1
                        clear H1
                        have H' := Aside0.mk H
                        clear H
                        have hcz29_0 : w14.cell? ⟨gb282, 0, none⟩ = some (.int .i64 0) := (blk_cell BK282.out 0).trans rfl
                        have hcz29_1 : w14.cell? ⟨gb282, 1, none⟩ = some (.string (⟨#[]⟩ : ByteArray)) := (blk_cell BK282.out 1).trans rfl
                        have hcz29_2 : w14.cell? ⟨gb282, 2, none⟩ = some (.int .i64 0) := (blk_cell BK282.out 2).trans rfl
                        have hcz29_3 : w14.cell? ⟨gb282, 3, none⟩ = some (.int .i64 0) := (blk_cell BK282.out 3).trans rfl
                        have hfz29_0 := blk_frozen BK282.out 0
                        have hfz29_1 := blk_frozen BK282.out 1
                        have hfz29_2 := blk_frozen BK282.out 2
                        have hfz29_3 := blk_frozen BK282.out 3
                        go_wp2_with (first | ((with_reducible refine gate_callee (f := 66) rfl ?_); refine goesL_ (some 39) rfl rfl Try.func66 (by kernel_rfl) rfl #[.agg #[.int .i64 ((rd_T67 l2 x34_2).f0), .string ((rd_T67 l2 x34_2).f1), .int .i64 ((rd_T67 l2 x34_2).f2), .int .i64 ((rd_T67 l2 x34_2).f3)]] rfl (by (try simp only [List.map_toArray, List.map_cons, List.map_nil]); first | done | rfl | (simp only [List.length_drop, List.length_take]; rfl)) ?_; (with_reducible refine (impl_TokenOk.calls ((rd_T67 l2 x34_2).f0) ((rd_T67 l2 x34_2).f1) ((rd_T67 l2 x34_2).f2) ((rd_T67 l2 x34_2).f3) false _ A16.out).mono ?_); rintro e w30 ⟨rfl, hb⟩; refine ⟨_, rfl, ?_⟩; have n0_ := Aside0.mk (Kd.R_below (by (with_reducible repeat (first | apply Kd.R_alloc | apply Kd.R_drewN | apply Kd.R_drew)); exact (Kd.R_mono (Kd.R_far (p := ⟨gb282, 3, none⟩) (Kd.R_far (p := ⟨gb282, 2, none⟩) (Kd.R_far (p := ⟨gb282, 1, none⟩) (Kd.R_far (p := ⟨gb282, 0, none⟩) (Kd.R_types HO_9.out BK282.out (by decide)) (fun _ hk => hk.2) (.int .i64 ((rd_T67 l2 x34_2).f0))) (fun _ hk => hk.2) (.string ((rd_T67 l2 x34_2).f1))) (fun _ hk => hk.2) (.int .i64 ((rd_T67 l2 x34_2).f2))) (fun _ hk => hk.2) (.int .i64 ((rd_T67 l2 x34_2).f3))) (fun _ h_ => h_.1))) hb); have n1_ := Aside0.mk (blk_below (g := gb282) (o := .cells #[.int .i64 ((rd_T67 l2 x34_2).f0), .string ((rd_T67 l2 x34_2).f1), .int .i64 ((rd_T67 l2 x34_2).f2), .int .i64 ((rd_T67 l2 x34_2).f3)] 67 (0, 0)) (by (with_reducible repeat (first | refine blk_drewN ?_ _ | refine blk_drew ?_ | refine blk_alloc ?_ _)); refine blk_put (cs := #[.int .i64 ((rd_T67 l2 x34_2).f0), .string ((rd_T67 l2 x34_2).f1), .int .i64 ((rd_T67 l2 x34_2).f2), .int .i64 0]) ?_ 3 _ rfl; (with_reducible repeat (first | refine blk_drewN ?_ _ | refine blk_drew ?_ | refine blk_alloc ?_ _)); refine blk_put (cs := #[.int .i64 ((rd_T67 l2 x34_2).f0), .string ((rd_T67 l2 x34_2).f1), .int .i64 0, .int .i64 0]) ?_ 2 _ rfl; (with_reducible repeat (first | refine blk_drewN ?_ _ | refine blk_drew ?_ | refine blk_alloc ?_ _)); refine blk_put (cs := #[.int .i64 ((rd_T67 l2 x34_2).f0), .string (⟨#[]⟩ : ByteArray), .int .i64 0, .int .i64 0]) ?_ 1 _ rfl; (with_reducible repeat (first | refine blk_drewN ?_ _ | refine blk_drew ?_ | refine blk_alloc ?_ _)); refine blk_put (cs := #[.int .i64 0, .string (⟨#[]⟩ : ByteArray), .int .i64 0, .int .i64 0]) ?_ 0 _ rfl; (with_reducible repeat (first | refine blk_drewN ?_ _ | refine blk_drew ?_ | refine blk_alloc ?_ _)); exact BK282.out) hb); have n2_ := Aside0.mk (below_step (by repeat (first | (with_reducible first | exact HB.out | apply below_alloc | apply pw_below_drewN | apply below_drew1 | refine below_set ?_ GE282.out) | exact HB.out)) hb); clear HO_9; clear BK282; clear HB; have HO_9 := n0_; have BK282 := n1_; have HB := n2_; clear n0_ n1_ n2_; (try clear hb); (try clear hb2); (try clear hk); (try clear hi)))
                        go_meet
                        case rel => exact ⟨_, (true), (by first | rfl | (simp; done) | (simp [*]; done)), H', ⟨by have := HJ3.out; have := HK2.out; first | omega | exact Nat.le_refl _⟩, ⟨by (with_reducible repeat (first | apply Kd.R_alloc | apply Kd.R_drewN | apply Kd.R_drew)); exact HO_9.out⟩, ⟨by (with_reducible repeat (first | refine blk_drewN ?_ _ | refine blk_drew ?_ | refine blk_alloc ?_ _)); exact BK282.out⟩, ⟨by repeat (first | (with_reducible first | exact HB.out | apply below_alloc | apply pw_below_drewN | apply below_drew1 | refine below_set ?_ GE282.out) | exact HB.out)⟩⟩
                    case rest =>
                      clear HC13
                      try clear c1
                      try clear c2
                      try clear p2
                      try clear q2
                      try clear hx2
                      try clear c3
                      try clear c5
                      try clear c6
                      try clear p6
                      try clear c7
                      try clear c7b0
                      try clear c7b1
                      try clear c8
                      try clear c9
                      try clear c9b0
                      try clear c9b1
                      try clear c10
                      try clear c10b0
                      try clear c11
                      try clear c11b0
                      try clear c12
                      try clear c12b0
                      try clear c17
                      try clear c18
                      try clear c18b0
                      try clear c18b1
                      try clear c19
                      try clear c19b0
                      try clear p28
                      try clear q28
                      try clear hx28
                      try clear hcz15_0
                      try clear hcz15_1
                      try clear hcz15_2
                      try clear hcz15_3
                      try clear hcz20_0
                      try clear hcz20_1
                      try clear hcz20_2
                      try clear hcz20_3
                      try clear hcz22_0
                      try clear hcz22_1
                      try clear hcz22_2
                      try clear hcz22_3
                      try clear hcz23_0
                      try clear hcz23_1
                      try clear hcz23_2
                      try clear hcz23_3
                      try clear hcz25_0
                      try clear hcz25_1
                      try clear hcz25_2
                      try clear hcz25_3
                      try clear hcz26_0
                      try clear hcz26_1
                      try clear hcz26_2
                      try clear hcz26_3
                      try clear hcz28_0
                      try clear hcz28_1
                      try clear hcz28_2
                      try clear hcz28_3
                      try clear hcz29_0
                      try clear hcz29_1
                      try clear hcz29_2
                      try clear hcz29_3
                      try clear hfz15_0
                      try clear hfz15_1
                      try clear hfz15_2
                      try clear hfz15_3
                      try clear hfz20_0
                      try clear hfz20_1
                      try clear hfz20_2
                      try clear hfz20_3
                      try clear hfz22_0
                      try clear hfz22_1
                      try clear hfz22_2
                      try clear hfz22_3
                      try clear hfz23_0
                      try clear hfz23_1
                      try clear hfz23_2
                      try clear hfz23_3
                      try clear hfz25_0
                      try clear hfz25_1
                      try clear hfz25_2
                      try clear hfz25_3
                      try clear hfz26_0
                      try clear hfz26_1
                      try clear hfz26_2
                      try clear hfz26_3
                      try clear hfz28_0
                      try clear hfz28_1
                      try clear hfz28_2
                      try clear hfz28_3
                      try clear hfz29_0
                      try clear hfz29_1
                      try clear hfz29_2
                      try clear hfz29_3
                      try clear hx281_0
                      try clear hx281_1
                      try clear hx281_2
                      try clear hx281_3
                      try clear p2
                      try clear p281
                      try clear p6
                      try clear q281
                      obtain ⟨kq, x60_12, rfl, HA, HJ12, HO_9, BK282, HB⟩ := hcut
                      cases kq with
                      | zero => exact absurd HA.out (by simp [impl_Patch.j2])
                      | succ kj12 =>
                        have H := HA.out
                        clear HA
                        simp only [impl_Patch.j2] at H
                        by_cases c31 : x60_12 = true
                        · subst c31
                          have H1 : (some ((⟨#[]⟩ : ByteArray), false)) = some (r1, r2) := by rw [if_pos rfl] at H; exact H
                          clear H
                          have H := H1
                          clear H1
                          simp only [Option.some.injEq, Prod.mk.injEq] at H
                          obtain ⟨rfl, rfl⟩ := H
                          go_wp2
                          go_ret2
                          exact ⟨by first | rfl | (simp [errW_none, errW_some] <;> rfl) | (simp [*, errW_none, errW_some] <;> rfl), by repeat (first | (with_reducible first | exact HB.out | apply below_alloc | apply pw_below_drewN | apply below_drew1 | refine below_set ?_ GE282.out) | exact HB.out)⟩
                        · replace c31 := Bool.eq_false_iff.mpr c31
                          subst c31
                          have H1 : (if x9_2.length + ((rd_T67 l2 x34_2).f1).size < 140737488355328 then ((some (x9_2 ++ bytesOf ((rd_T67 l2 x34_2).f1) : List Int)).bind fun y284 => (if ((rd_T67 l2 x34_2).f0) = 1 then (if 0 ≤ (wrap64 (((rd_T67 l2 x34_2).f2) * a1)) then (if (wrap64 (((rd_T67 l2 x34_2).f2) * a1)) ≤ (mn (wrap64 ((wrap64 (((rd_T67 l2 x34_2).f2) + ((rd_T67 l2 x34_2).f3))) * a1)) (a0.size : Int)) then (if (mn (wrap64 ((wrap64 (((rd_T67 l2 x34_2).f2) + ((rd_T67 l2 x34_2).f3))) * a1)) (a0.size : Int)) ≤ (a0.size : Int) then (if y284.length + (a0.extract ((wrap64 (((rd_T67 l2 x34_2).f2) * a1)) : Int).toNat ((mn (wrap64 ((wrap64 (((rd_T67 l2 x34_2).f2) + ((rd_T67 l2 x34_2).f3))) * a1)) (a0.size : Int)) : Int).toNat).size < 140737488355328 then ((some (y284 ++ bytesOf (a0.extract ((wrap64 (((rd_T67 l2 x34_2).f2) * a1)) : Int).toNat ((mn (wrap64 ((wrap64 (((rd_T67 l2 x34_2).f2) + ((rd_T67 l2 x34_2).f3))) * a1)) (a0.size : Int)) : Int).toNat) : List Int)).bind fun y287 => (if (y287.length : Int) > 20000 then (some ((⟨#[]⟩ : ByteArray), false)) else (impl_Patch.l0 kj12 a0 a1 (wrap64 (Int.tdiv (wrap64 ((wrap64 ((a0.size : Int) + a1)) - 1)) a1)) y287 l2 (l2.length : Int) (wrap64 (x34_2 + 1))))) else (none)) else (none)) else (none)) else (none)) else (if (y284.length : Int) > 20000 then (some ((⟨#[]⟩ : ByteArray), false)) else (impl_Patch.l0 kj12 a0 a1 (wrap64 (Int.tdiv (wrap64 ((wrap64 ((a0.size : Int) + a1)) - 1)) a1)) y284 l2 (l2.length : Int) (wrap64 (x34_2 + 1)))))) else (none)) = some (r1, r2) := by rw [if_neg (show ¬ (false = true) by decide)] at H; exact H
                          clear H
                          have H := H1
                          clear H1
                          by_cases c32 : x9_2.length + ((rd_T67 l2 x34_2).f1).size < 140737488355328
                          · rw [if_pos c32] at H
                            have LMc32 := Aside0.mk c32
                            clear c32
                            obtain ⟨y284, hy284⟩ : ∃ y_ : List Int, y_ = (x9_2 ++ bytesOf ((rd_T67 l2 x34_2).f1)) := ⟨_, rfl⟩
                            replace H : (if ((rd_T67 l2 x34_2).f0) = 1 then (if 0 ≤ (wrap64 (((rd_T67 l2 x34_2).f2) * a1)) then (if (wrap64 (((rd_T67 l2 x34_2).f2) * a1)) ≤ (mn (wrap64 ((wrap64 (((rd_T67 l2 x34_2).f2) + ((rd_T67 l2 x34_2).f3))) * a1)) (a0.size : Int)) then (if (mn (wrap64 ((wrap64 (((rd_T67 l2 x34_2).f2) + ((rd_T67 l2 x34_2).f3))) * a1)) (a0.size : Int)) ≤ (a0.size : Int) then (if y284.length + (a0.extract ((wrap64 (((rd_T67 l2 x34_2).f2) * a1)) : Int).toNat ((mn (wrap64 ((wrap64 (((rd_T67 l2 x34_2).f2) + ((rd_T67 l2 x34_2).f3))) * a1)) (a0.size : Int)) : Int).toNat).size < 140737488355328 then ((some (y284 ++ bytesOf (a0.extract ((wrap64 (((rd_T67 l2 x34_2).f2) * a1)) : Int).toNat ((mn (wrap64 ((wrap64 (((rd_T67 l2 x34_2).f2) + ((rd_T67 l2 x34_2).f3))) * a1)) (a0.size : Int)) : Int).toNat) : List Int)).bind fun y287 => (if (y287.length : Int) > 20000 then (some ((⟨#[]⟩ : ByteArray), false)) else (impl_Patch.l0 kj12 a0 a1 (wrap64 (Int.tdiv (wrap64 ((wrap64 ((a0.size : Int) + a1)) - 1)) a1)) y287 l2 (l2.length : Int) (wrap64 (x34_2 + 1))))) else (none)) else (none)) else (none)) else (none)) else (if (y284.length : Int) > 20000 then (some ((⟨#[]⟩ : ByteArray), false)) else (impl_Patch.l0 kj12 a0 a1 (wrap64 (Int.tdiv (wrap64 ((wrap64 ((a0.size : Int) + a1)) - 1)) a1)) y284 l2 (l2.length : Int) (wrap64 (x34_2 + 1))))) = some (r1, r2) := by first | (rw [hy284]; with_reducible exact H) | (have H2_ := (Option.bind_some _ _).symm.trans H; rw [hy284]; with_reducible exact H2_) | (have H2_ := (Option.bind_some _ _).symm.trans H; with_reducible exact H2_) | with_reducible exact H | (rw [hy284]; exact H) | exact H
                            have Ny284 := Aside0.mk hy284
                            clear hy284
                            by_cases c33 : ((rd_T67 l2 x34_2).f0) = 1
                            · rw [if_pos c33] at H
                              have c33b0 : (((rd_T67 l2 x34_2).f0) == 1) = true := beq_iff_eq.mpr c33
                              have c33b1 : (((rd_T67 l2 x34_2).f0) != 1) = false := bne_eq_false_iff_eq.mpr c33
                              clear c33
                              obtain ⟨ji34, hji34⟩ : ∃ j_ : Int, (mn (wrap64 ((wrap64 (((rd_T67 l2 x34_2).f2) + ((rd_T67 l2 x34_2).f3))) * a1)) (a0.size : Int)) = j_ := ⟨_, rfl⟩
                              replace H : (if 0 ≤ (wrap64 (((rd_T67 l2 x34_2).f2) * a1)) then (if (wrap64 (((rd_T67 l2 x34_2).f2) * a1)) ≤ (ji34) then (if (ji34) ≤ (a0.size : Int) then (if y284.length + (a0.extract ((wrap64 (((rd_T67 l2 x34_2).f2) * a1)) : Int).toNat ((ji34) : Int).toNat).size < 140737488355328 then ((some (y284 ++ bytesOf (a0.extract ((wrap64 (((rd_T67 l2 x34_2).f2) * a1)) : Int).toNat ((ji34) : Int).toNat) : List Int)).bind fun y287 => (if (y287.length : Int) > 20000 then (some ((⟨#[]⟩ : ByteArray), false)) else (impl_Patch.l0 kj12 a0 a1 (wrap64 (Int.tdiv (wrap64 ((wrap64 ((a0.size : Int) + a1)) - 1)) a1)) y287 l2 (l2.length : Int) (wrap64 (x34_2 + 1))))) else (none)) else (none)) else (none)) else (none)) = some (r1, r2) := by first | (rw [hji34] at H; exact H) | (simp only [hji34] at H ⊢; exact H)
                              have hji34_ : (if (a0.size : Int) < (wrap64 ((wrap64 (((rd_T67 l2 x34_2).f2) + ((rd_T67 l2 x34_2).f3))) * a1)) then (a0.size : Int) else (wrap64 ((wrap64 (((rd_T67 l2 x34_2).f2) + ((rd_T67 l2 x34_2).f3))) * a1))) = ji34 := hji34
                              obtain ⟨ji35, hji35⟩ : ∃ j_ : Int, (wrap64 (((rd_T67 l2 x34_2).f2) * a1)) = j_ := ⟨_, rfl⟩
                              replace H : (if 0 ≤ (ji35) then (if (ji35) ≤ (ji34) then (if (ji34) ≤ (a0.size : Int) then (if y284.length + (a0.extract ((ji35) : Int).toNat ((ji34) : Int).toNat).size < 140737488355328 then ((some (y284 ++ bytesOf (a0.extract ((ji35) : Int).toNat ((ji34) : Int).toNat) : List Int)).bind fun y287 => (if (y287.length : Int) > 20000 then (some ((⟨#[]⟩ : ByteArray), false)) else (impl_Patch.l0 kj12 a0 a1 (wrap64 (Int.tdiv (wrap64 ((wrap64 ((a0.size : Int) + a1)) - 1)) a1)) y287 l2 (l2.length : Int) (wrap64 (x34_2 + 1))))) else (none)) else (none)) else (none)) else (none)) = some (r1, r2) := by first | (rw [hji35] at H; exact H) | (simp only [hji35] at H ⊢; exact H)
                              have hji35w : (IntKind.i64.wrap (((rd_T67 l2 x34_2).f2) * a1)) = ji35 := (i64_w _).trans hji35
                              by_cases c36 : 0 ≤ (ji35)
                              · rw [if_pos c36] at H
                                have c36b0 := eq_true c36
                                have c36b1 : decide (0 ≤ (ji35)) = true := decide_eq_true c36
                                clear c36
                                by_cases c37 : (ji35) ≤ (ji34)
                                · rw [if_pos c37] at H
                                  have c37b0 := eq_true c37
                                  have c37b1 : decide ((ji35) ≤ (ji34)) = true := decide_eq_true c37
                                  clear c37
                                  by_cases c38 : (ji34) ≤ (a0.size : Int)
                                  · rw [if_pos c38] at H
                                    have c38b0 := eq_true c38
                                    have c38b1 : decide ((ji34) ≤ (a0.size : Int)) = true := decide_eq_true c38
                                    clear c38
                                    by_cases c39 : y284.length + (a0.extract ((ji35) : Int).toNat ((ji34) : Int).toNat).size < 140737488355328
                                    · rw [if_pos c39] at H
                                      have LMc39 := Aside0.mk c39
                                      clear c39
                                      obtain ⟨y287, hy287⟩ : ∃ y_ : List Int, y_ = (y284 ++ bytesOf (a0.extract ((ji35) : Int).toNat ((ji34) : Int).toNat)) := ⟨_, rfl⟩
                                      replace H : (if (y287.length : Int) > 20000 then (some ((⟨#[]⟩ : ByteArray), false)) else (impl_Patch.l0 kj12 a0 a1 (wrap64 (Int.tdiv (wrap64 ((wrap64 ((a0.size : Int) + a1)) - 1)) a1)) y287 l2 (l2.length : Int) (wrap64 (x34_2 + 1)))) = some (r1, r2) := by first | (rw [hy287]; with_reducible exact H) | (have H2_ := (Option.bind_some _ _).symm.trans H; rw [hy287]; with_reducible exact H2_) | (have H2_ := (Option.bind_some _ _).symm.trans H; with_reducible exact H2_) | with_reducible exact H | (rw [hy287]; exact H) | exact H
                                      have Ny287 := Aside0.mk hy287
                                      clear hy287
                                      by_cases c40 : (y287.length : Int) > 20000
                                      · rw [if_pos c40] at H
                                        have c40b0 : decide (20000 < (y287.length : Int)) = true := decide_eq_true c40
                                        have c40b1 : decide (20000 < y287.length) = true := decide_eq_true (by omega)
                                        clear c40
                                        simp only [Option.some.injEq, Prod.mk.injEq] at H
                                        obtain ⟨rfl, rfl⟩ := H
                                        have hcz41_0 : wc.cell? ⟨gb282, 0, none⟩ = some (.int .i64 ((rd_T67 l2 x34_2).f0)) := (blk_cell BK282.out 0).trans rfl
                                        have hcz41_1 : wc.cell? ⟨gb282, 1, none⟩ = some (.string ((rd_T67 l2 x34_2).f1)) := (blk_cell BK282.out 1).trans rfl
                                        have hcz41_2 : wc.cell? ⟨gb282, 2, none⟩ = some (.int .i64 ((rd_T67 l2 x34_2).f2)) := (blk_cell BK282.out 2).trans rfl
                                        have hcz41_3 : wc.cell? ⟨gb282, 3, none⟩ = some (.int .i64 ((rd_T67 l2 x34_2).f3)) := (blk_cell BK282.out 3).trans rfl
                                        have hfz41_0 := blk_frozen BK282.out 0
                                        have hfz41_1 := blk_frozen BK282.out 1
                                        have hfz41_2 := blk_frozen BK282.out 2
                                        have hfz41_3 := blk_frozen BK282.out 3
                                        go_wp2_with (first | (at_builtin; refine print_append_str (w0 := w) w.heap.size rfl (.tmp 61) _ 22 9 5 rfl Try.underlying22 Try.underlying9 info5 u9 x9_2 ((rd_T67 l2 x34_2).f1) rfl rfl ?aO ?aB ?aS ?aL ?_; (case aB => exact (by repeat (first | (with_reducible first | exact HB.out | apply below_alloc | apply pw_below_drewN | apply below_drew1 | refine below_set ?_ GE282.out) | exact HB.out))); (case aO => exact (Kd.own_of_R (by (with_reducible repeat (first | apply Kd.R_alloc | apply Kd.R_drewN | apply Kd.R_drew)); exact HO_9.out))); (case aS => exact (below_size (by repeat (first | (with_reducible first | exact HB.out | apply below_alloc | apply pw_below_drewN | apply below_drew1 | refine below_set ?_ GE282.out) | exact HB.out)))); (case aL => have := LMc32.out; omega); intro v285 w42 ho0 hb hg; have ho := Kd.R_of_own (h1 := fun _ => rfl) (ok := fun _ => True) ho0 (fun _ _ => trivial); clear ho0; have hat := True.intro; rw [← Ny284.out] at ho; change Kd.R (Kd.int .u8) 5 w42 w.heap.size (fun _ => True) v285 y284 at ho; have n0_ := Aside0.mk (blk_grown (g := gb282) (o := .cells #[.int .i64 ((rd_T67 l2 x34_2).f0), .string ((rd_T67 l2 x34_2).f1), .int .i64 ((rd_T67 l2 x34_2).f2), .int .i64 ((rd_T67 l2 x34_2).f3)] 67 (0, 0)) (by (with_reducible repeat (first | refine blk_drewN ?_ _ | refine blk_drew ?_ | refine blk_alloc ?_ _)); exact BK282.out) hg (Kd.R_ne HO_9.out BK282.out (by decide))); have n1_ := Aside0.mk (hb); have n2_ := Aside0.mk (ho); clear BK282; clear HB; clear HO_9; have BK282 := n0_; have HB := n1_; have HO286 := n2_; clear n0_ n1_ n2_; clear ho hb hg hat; have hcz43_0 : w42.cell? ⟨gb282, 0, none⟩ = some (.int .i64 ((rd_T67 l2 x34_2).f0)) := (blk_cell BK282.out 0).trans rfl; have hcz43_1 : w42.cell? ⟨gb282, 1, none⟩ = some (.string ((rd_T67 l2 x34_2).f1)) := (blk_cell BK282.out 1).trans rfl; have hcz43_2 : w42.cell? ⟨gb282, 2, none⟩ = some (.int .i64 ((rd_T67 l2 x34_2).f2)) := (blk_cell BK282.out 2).trans rfl; have hcz43_3 : w42.cell? ⟨gb282, 3, none⟩ = some (.int .i64 ((rd_T67 l2 x34_2).f3)) := (blk_cell BK282.out 3).trans rfl; have hfz43_0 := blk_frozen BK282.out 0; have hfz43_1 := blk_frozen BK282.out 1; have hfz43_2 := blk_frozen BK282.out 2; have hfz43_3 := blk_frozen BK282.out 3) | (at_builtin; refine print_append_str (w0 := w) w.heap.size rfl (.tmp 68) _ 22 9 5 rfl Try.underlying22 Try.underlying9 info5 v285 y284 (a0.extract ((ji35) : Int).toNat ((ji34) : Int).toNat) rfl rfl ?aO ?aB ?aS ?aL ?_; (case aB => exact (by repeat (first | (with_reducible first | exact HB.out | apply below_alloc | apply pw_below_drewN | apply below_drew1 | refine below_set ?_ GE282.out) | exact HB.out))); (case aO => exact (Kd.own_of_R (by (with_reducible repeat (first | apply Kd.R_alloc | apply Kd.R_drewN | apply Kd.R_drew)); exact HO286.out))); (case aS => exact (below_size (by repeat (first | (with_reducible first | exact HB.out | apply below_alloc | apply pw_below_drewN | apply below_drew1 | refine below_set ?_ GE282.out) | exact HB.out)))); (case aL => have := LMc39.out; omega); intro v288 w44 ho0 hb hg; have ho := Kd.R_of_own (h1 := fun _ => rfl) (ok := fun _ => True) ho0 (fun _ _ => trivial); clear ho0; have hat := True.intro; rw [← Ny287.out] at ho; change Kd.R (Kd.int .u8) 5 w44 w.heap.size (fun _ => True) v288 y287 at ho; have n0_ := Aside0.mk (blk_grown (g := gb282) (o := .cells #[.int .i64 ((rd_T67 l2 x34_2).f0), .string ((rd_T67 l2 x34_2).f1), .int .i64 ((rd_T67 l2 x34_2).f2), .int .i64 ((rd_T67 l2 x34_2).f3)] 67 (0, 0)) (by (with_reducible repeat (first | refine blk_drewN ?_ _ | refine blk_drew ?_ | refine blk_alloc ?_ _)); exact BK282.out) hg (Kd.R_ne HO286.out BK282.out (by decide))); have n1_ := Aside0.mk (hb); have n2_ := Aside0.mk (ho); clear BK282; clear HB; clear HO286; have BK282 := n0_; have HB := n1_; have HO289 := n2_; clear n0_ n1_ n2_; clear ho hb hg hat; obtain ⟨Ao45, co45, eo45⟩ := Kd.R_slice HO289.out; subst eo45))
                                        go_ret2
                                        exact ⟨by first | rfl | (simp [errW_none, errW_some] <;> rfl) | (simp only [← hji34, ← hji35]; first | rfl | (simp [errW_none, errW_some] <;> rfl)) | (simp [*, errW_none, errW_some] <;> rfl), by repeat (first | (with_reducible first | exact HB.out | apply below_alloc | apply pw_below_drewN | apply below_drew1 | refine below_set ?_ GE282.out) | exact HB.out)⟩
                                      · rw [if_neg c40] at H
                                        have c40b0 : decide (20000 < (y287.length : Int)) = false := decide_eq_false c40
                                        have c40b1 : decide (20000 < y287.length) = false := decide_eq_false (by omega)
                                        clear c40
                                        have H' := Aside0.mk H
                                        clear H
                                        have hcz46_0 : wc.cell? ⟨gb282, 0, none⟩ = some (.int .i64 ((rd_T67 l2 x34_2).f0)) := (blk_cell BK282.out 0).trans rfl
                                        have hcz46_1 : wc.cell? ⟨gb282, 1, none⟩ = some (.string ((rd_T67 l2 x34_2).f1)) := (blk_cell BK282.out 1).trans rfl
                                        have hcz46_2 : wc.cell? ⟨gb282, 2, none⟩ = some (.int .i64 ((rd_T67 l2 x34_2).f2)) := (blk_cell BK282.out 2).trans rfl
                                        have hcz46_3 : wc.cell? ⟨gb282, 3, none⟩ = some (.int .i64 ((rd_T67 l2 x34_2).f3)) := (blk_cell BK282.out 3).trans rfl
                                        have hfz46_0 := blk_frozen BK282.out 0
                                        have hfz46_1 := blk_frozen BK282.out 1
                                        have hfz46_2 := blk_frozen BK282.out 2
                                        have hfz46_3 := blk_frozen BK282.out 3
                                        go_wp2_with (first | (at_builtin; refine print_append_str (w0 := w) w.heap.size rfl (.tmp 61) _ 22 9 5 rfl Try.underlying22 Try.underlying9 info5 u9 x9_2 ((rd_T67 l2 x34_2).f1) rfl rfl ?aO ?aB ?aS ?aL ?_; (case aB => exact (by repeat (first | (with_reducible first | exact HB.out | apply below_alloc | apply pw_below_drewN | apply below_drew1 | refine below_set ?_ GE282.out) | exact HB.out))); (case aO => exact (Kd.own_of_R (by (with_reducible repeat (first | apply Kd.R_alloc | apply Kd.R_drewN | apply Kd.R_drew)); exact HO_9.out))); (case aS => exact (below_size (by repeat (first | (with_reducible first | exact HB.out | apply below_alloc | apply pw_below_drewN | apply below_drew1 | refine below_set ?_ GE282.out) | exact HB.out)))); (case aL => have := LMc32.out; omega); intro v285 w47 ho0 hb hg; have ho := Kd.R_of_own (h1 := fun _ => rfl) (ok := fun _ => True) ho0 (fun _ _ => trivial); clear ho0; have hat := True.intro; rw [← Ny284.out] at ho; change Kd.R (Kd.int .u8) 5 w47 w.heap.size (fun _ => True) v285 y284 at ho; have n0_ := Aside0.mk (blk_grown (g := gb282) (o := .cells #[.int .i64 ((rd_T67 l2 x34_2).f0), .string ((rd_T67 l2 x34_2).f1), .int .i64 ((rd_T67 l2 x34_2).f2), .int .i64 ((rd_T67 l2 x34_2).f3)] 67 (0, 0)) (by (with_reducible repeat (first | refine blk_drewN ?_ _ | refine blk_drew ?_ | refine blk_alloc ?_ _)); exact BK282.out) hg (Kd.R_ne HO_9.out BK282.out (by decide))); have n1_ := Aside0.mk (hb); have n2_ := Aside0.mk (ho); clear BK282; clear HB; clear HO_9; have BK282 := n0_; have HB := n1_; have HO286 := n2_; clear n0_ n1_ n2_; clear ho hb hg hat; have hcz48_0 : w47.cell? ⟨gb282, 0, none⟩ = some (.int .i64 ((rd_T67 l2 x34_2).f0)) := (blk_cell BK282.out 0).trans rfl; have hcz48_1 : w47.cell? ⟨gb282, 1, none⟩ = some (.string ((rd_T67 l2 x34_2).f1)) := (blk_cell BK282.out 1).trans rfl; have hcz48_2 : w47.cell? ⟨gb282, 2, none⟩ = some (.int .i64 ((rd_T67 l2 x34_2).f2)) := (blk_cell BK282.out 2).trans rfl; have hcz48_3 : w47.cell? ⟨gb282, 3, none⟩ = some (.int .i64 ((rd_T67 l2 x34_2).f3)) := (blk_cell BK282.out 3).trans rfl; have hfz48_0 := blk_frozen BK282.out 0; have hfz48_1 := blk_frozen BK282.out 1; have hfz48_2 := blk_frozen BK282.out 2; have hfz48_3 := blk_frozen BK282.out 3) | (at_builtin; refine print_append_str (w0 := w) w.heap.size rfl (.tmp 68) _ 22 9 5 rfl Try.underlying22 Try.underlying9 info5 v285 y284 (a0.extract ((ji35) : Int).toNat ((ji34) : Int).toNat) rfl rfl ?aO ?aB ?aS ?aL ?_; (case aB => exact (by repeat (first | (with_reducible first | exact HB.out | apply below_alloc | apply pw_below_drewN | apply below_drew1 | refine below_set ?_ GE282.out) | exact HB.out))); (case aO => exact (Kd.own_of_R (by (with_reducible repeat (first | apply Kd.R_alloc | apply Kd.R_drewN | apply Kd.R_drew)); exact HO286.out))); (case aS => exact (below_size (by repeat (first | (with_reducible first | exact HB.out | apply below_alloc | apply pw_below_drewN | apply below_drew1 | refine below_set ?_ GE282.out) | exact HB.out)))); (case aL => have := LMc39.out; omega); intro v288 w49 ho0 hb hg; have ho := Kd.R_of_own (h1 := fun _ => rfl) (ok := fun _ => True) ho0 (fun _ _ => trivial); clear ho0; have hat := True.intro; rw [← Ny287.out] at ho; change Kd.R (Kd.int .u8) 5 w49 w.heap.size (fun _ => True) v288 y287 at ho; have n0_ := Aside0.mk (blk_grown (g := gb282) (o := .cells #[.int .i64 ((rd_T67 l2 x34_2).f0), .string ((rd_T67 l2 x34_2).f1), .int .i64 ((rd_T67 l2 x34_2).f2), .int .i64 ((rd_T67 l2 x34_2).f3)] 67 (0, 0)) (by (with_reducible repeat (first | refine blk_drewN ?_ _ | refine blk_drew ?_ | refine blk_alloc ?_ _)); exact BK282.out) hg (Kd.R_ne HO286.out BK282.out (by decide))); have n1_ := Aside0.mk (hb); have n2_ := Aside0.mk (ho); clear BK282; clear HB; clear HO286; have BK282 := n0_; have HB := n1_; have HO289 := n2_; clear n0_ n1_ n2_; clear ho hb hg hat; obtain ⟨Ao50, co50, eo50⟩ := Kd.R_slice HO289.out; subst eo50))
                                        go_roundg kj12
                                        case measure => have := HJ3.out; have := HK2.out; have := HJ12.out; omega
                                        case rel => exact ⟨(y287), (wrap64 (x34_2 + 1)), (by first | rfl | (simp; done) | (simp [*]; done)), H', ⟨by have := HJ3.out; have := HK2.out; have := HJ12.out; omega⟩, ⟨by (with_reducible repeat (first | apply Kd.R_alloc | apply Kd.R_drewN | apply Kd.R_drew)); exact HO289.out⟩, ⟨by repeat (first | (with_reducible first | exact HB.out | apply below_alloc | apply pw_below_drewN | apply below_drew1 | refine below_set ?_ GE282.out) | exact HB.out)⟩⟩
                                    · rw [if_neg c39] at H
                                      exact absurd H (by simp)
                                  · rw [if_neg c38] at H
                                    exact absurd H (by simp)
                                · rw [if_neg c37] at H
                                  exact absurd H (by simp)
                              · rw [if_neg c36] at H
                                exact absurd H (by simp)
                            · rw [if_neg c33] at H
                              have c33b0 : (((rd_T67 l2 x34_2).f0) == 1) = false := beq_eq_false_iff_ne.mpr c33
                              have c33b1 : (((rd_T67 l2 x34_2).f0) != 1) = true := bne_iff_ne.mpr c33
                              by_cases c51 : (y284.length : Int) > 20000
                              · rw [if_pos c51] at H
                                have c51b0 : decide (20000 < (y284.length : Int)) = true := decide_eq_true c51
                                have c51b1 : decide (20000 < y284.length) = true := decide_eq_true (by omega)
                                clear c51
                                simp only [Option.some.injEq, Prod.mk.injEq] at H
                                obtain ⟨rfl, rfl⟩ := H
                                have hcz52_0 : wc.cell? ⟨gb282, 0, none⟩ = some (.int .i64 ((rd_T67 l2 x34_2).f0)) := (blk_cell BK282.out 0).trans rfl
                                have hcz52_1 : wc.cell? ⟨gb282, 1, none⟩ = some (.string ((rd_T67 l2 x34_2).f1)) := (blk_cell BK282.out 1).trans rfl
                                have hcz52_2 : wc.cell? ⟨gb282, 2, none⟩ = some (.int .i64 ((rd_T67 l2 x34_2).f2)) := (blk_cell BK282.out 2).trans rfl
                                have hcz52_3 : wc.cell? ⟨gb282, 3, none⟩ = some (.int .i64 ((rd_T67 l2 x34_2).f3)) := (blk_cell BK282.out 3).trans rfl
                                have hfz52_0 := blk_frozen BK282.out 0
                                have hfz52_1 := blk_frozen BK282.out 1
                                have hfz52_2 := blk_frozen BK282.out 2
                                have hfz52_3 := blk_frozen BK282.out 3
                                go_wp2_with (first | (at_builtin; refine print_append_str (w0 := w) w.heap.size rfl (.tmp 61) _ 22 9 5 rfl Try.underlying22 Try.underlying9 info5 u9 x9_2 ((rd_T67 l2 x34_2).f1) rfl rfl ?aO ?aB ?aS ?aL ?_; (case aB => exact (by repeat (first | (with_reducible first | exact HB.out | apply below_alloc | apply pw_below_drewN | apply below_drew1 | refine below_set ?_ GE282.out) | exact HB.out))); (case aO => exact (Kd.own_of_R (by (with_reducible repeat (first | apply Kd.R_alloc | apply Kd.R_drewN | apply Kd.R_drew)); exact HO_9.out))); (case aS => exact (below_size (by repeat (first | (with_reducible first | exact HB.out | apply below_alloc | apply pw_below_drewN | apply below_drew1 | refine below_set ?_ GE282.out) | exact HB.out)))); (case aL => have := LMc32.out; omega); intro v285 w53 ho0 hb hg; have ho := Kd.R_of_own (h1 := fun _ => rfl) (ok := fun _ => True) ho0 (fun _ _ => trivial); clear ho0; have hat := True.intro; rw [← Ny284.out] at ho; change Kd.R (Kd.int .u8) 5 w53 w.heap.size (fun _ => True) v285 y284 at ho; have n0_ := Aside0.mk (blk_grown (g := gb282) (o := .cells #[.int .i64 ((rd_T67 l2 x34_2).f0), .string ((rd_T67 l2 x34_2).f1), .int .i64 ((rd_T67 l2 x34_2).f2), .int .i64 ((rd_T67 l2 x34_2).f3)] 67 (0, 0)) (by (with_reducible repeat (first | refine blk_drewN ?_ _ | refine blk_drew ?_ | refine blk_alloc ?_ _)); exact BK282.out) hg (Kd.R_ne HO_9.out BK282.out (by decide))); have n1_ := Aside0.mk (hb); have n2_ := Aside0.mk (ho); clear BK282; clear HB; clear HO_9; have BK282 := n0_; have HB := n1_; have HO286 := n2_; clear n0_ n1_ n2_; clear ho hb hg hat; have hcz54_0 : w53.cell? ⟨gb282, 0, none⟩ = some (.int .i64 ((rd_T67 l2 x34_2).f0)) := (blk_cell BK282.out 0).trans rfl; have hcz54_1 : w53.cell? ⟨gb282, 1, none⟩ = some (.string ((rd_T67 l2 x34_2).f1)) := (blk_cell BK282.out 1).trans rfl; have hcz54_2 : w53.cell? ⟨gb282, 2, none⟩ = some (.int .i64 ((rd_T67 l2 x34_2).f2)) := (blk_cell BK282.out 2).trans rfl; have hcz54_3 : w53.cell? ⟨gb282, 3, none⟩ = some (.int .i64 ((rd_T67 l2 x34_2).f3)) := (blk_cell BK282.out 3).trans rfl; have hfz54_0 := blk_frozen BK282.out 0; have hfz54_1 := blk_frozen BK282.out 1; have hfz54_2 := blk_frozen BK282.out 2; have hfz54_3 := blk_frozen BK282.out 3; obtain ⟨Ao55, co55, eo55⟩ := Kd.R_slice HO286.out; subst eo55))
                                go_ret2
                                exact ⟨by first | rfl | (simp [errW_none, errW_some] <;> rfl) | (simp [*, errW_none, errW_some] <;> rfl), by repeat (first | (with_reducible first | exact HB.out | apply below_alloc | apply pw_below_drewN | apply below_drew1 | refine below_set ?_ GE282.out) | exact HB.out)⟩
                              · rw [if_neg c51] at H
                                have c51b0 : decide (20000 < (y284.length : Int)) = false := decide_eq_false c51
                                have c51b1 : decide (20000 < y284.length) = false := decide_eq_false (by omega)
                                clear c51
                                have H' := Aside0.mk H
                                clear H
                                have hcz56_0 : wc.cell? ⟨gb282, 0, none⟩ = some (.int .i64 ((rd_T67 l2 x34_2).f0)) := (blk_cell BK282.out 0).trans rfl
                                have hcz56_1 : wc.cell? ⟨gb282, 1, none⟩ = some (.string ((rd_T67 l2 x34_2).f1)) := (blk_cell BK282.out 1).trans rfl
                                have hcz56_2 : wc.cell? ⟨gb282, 2, none⟩ = some (.int .i64 ((rd_T67 l2 x34_2).f2)) := (blk_cell BK282.out 2).trans rfl
                                have hcz56_3 : wc.cell? ⟨gb282, 3, none⟩ = some (.int .i64 ((rd_T67 l2 x34_2).f3)) := (blk_cell BK282.out 3).trans rfl
                                have hfz56_0 := blk_frozen BK282.out 0
                                have hfz56_1 := blk_frozen BK282.out 1
                                have hfz56_2 := blk_frozen BK282.out 2
                                have hfz56_3 := blk_frozen BK282.out 3
                                go_wp2_with (first | (at_builtin; refine print_append_str (w0 := w) w.heap.size rfl (.tmp 61) _ 22 9 5 rfl Try.underlying22 Try.underlying9 info5 u9 x9_2 ((rd_T67 l2 x34_2).f1) rfl rfl ?aO ?aB ?aS ?aL ?_; (case aB => exact (by repeat (first | (with_reducible first | exact HB.out | apply below_alloc | apply pw_below_drewN | apply below_drew1 | refine below_set ?_ GE282.out) | exact HB.out))); (case aO => exact (Kd.own_of_R (by (with_reducible repeat (first | apply Kd.R_alloc | apply Kd.R_drewN | apply Kd.R_drew)); exact HO_9.out))); (case aS => exact (below_size (by repeat (first | (with_reducible first | exact HB.out | apply below_alloc | apply pw_below_drewN | apply below_drew1 | refine below_set ?_ GE282.out) | exact HB.out)))); (case aL => have := LMc32.out; omega); intro v285 w57 ho0 hb hg; have ho := Kd.R_of_own (h1 := fun _ => rfl) (ok := fun _ => True) ho0 (fun _ _ => trivial); clear ho0; have hat := True.intro; rw [← Ny284.out] at ho; change Kd.R (Kd.int .u8) 5 w57 w.heap.size (fun _ => True) v285 y284 at ho; have n0_ := Aside0.mk (blk_grown (g := gb282) (o := .cells #[.int .i64 ((rd_T67 l2 x34_2).f0), .string ((rd_T67 l2 x34_2).f1), .int .i64 ((rd_T67 l2 x34_2).f2), .int .i64 ((rd_T67 l2 x34_2).f3)] 67 (0, 0)) (by (with_reducible repeat (first | refine blk_drewN ?_ _ | refine blk_drew ?_ | refine blk_alloc ?_ _)); exact BK282.out) hg (Kd.R_ne HO_9.out BK282.out (by decide))); have n1_ := Aside0.mk (hb); have n2_ := Aside0.mk (ho); clear BK282; clear HB; clear HO_9; have BK282 := n0_; have HB := n1_; have HO286 := n2_; clear n0_ n1_ n2_; clear ho hb hg hat; have hcz58_0 : w57.cell? ⟨gb282, 0, none⟩ = some (.int .i64 ((rd_T67 l2 x34_2).f0)) := (blk_cell BK282.out 0).trans rfl; have hcz58_1 : w57.cell? ⟨gb282, 1, none⟩ = some (.string ((rd_T67 l2 x34_2).f1)) := (blk_cell BK282.out 1).trans rfl; have hcz58_2 : w57.cell? ⟨gb282, 2, none⟩ = some (.int .i64 ((rd_T67 l2 x34_2).f2)) := (blk_cell BK282.out 2).trans rfl; have hcz58_3 : w57.cell? ⟨gb282, 3, none⟩ = some (.int .i64 ((rd_T67 l2 x34_2).f3)) := (blk_cell BK282.out 3).trans rfl; have hfz58_0 := blk_frozen BK282.out 0; have hfz58_1 := blk_frozen BK282.out 1; have hfz58_2 := blk_frozen BK282.out 2; have hfz58_3 := blk_frozen BK282.out 3; obtain ⟨Ao59, co59, eo59⟩ := Kd.R_slice HO286.out; subst eo59))
                                go_roundg kj12
                                case measure => have := HJ3.out; have := HK2.out; have := HJ12.out; omega
                                case rel => exact ⟨(y284), (wrap64 (x34_2 + 1)), (by first | rfl | (simp; done) | (simp [*]; done)), H', ⟨by have := HJ3.out; have := HK2.out; have := HJ12.out; omega⟩, ⟨by (with_reducible repeat (first | apply Kd.R_alloc | apply Kd.R_drewN | apply Kd.R_drew)); exact HO286.out⟩, ⟨by repeat (first | (with_reducible first | exact HB.out | apply below_alloc | apply pw_below_drewN | apply below_drew1 | refine below_set ?_ GE282.out) | exact HB.out)⟩⟩
                          · rw [if_neg c32] at H
                            exact absurd H (by simp)
                  · rw [if_neg c12] at H
                    exact absurd H (by simp)
                · rw [if_neg c11] at H
                  exact absurd H (by simp)
              · rw [if_neg c10] at H
                have c10b0 : decide (x34_2 < (l2.length : Int)) = false := decide_eq_false c10
                clear c10
                simp only [Option.some.injEq, Prod.mk.injEq] at H
                obtain ⟨rfl, rfl⟩ := H
                have hcv60 := own_string (P := Try.prog) Try.underlying22 Try.underlying5 Try.underlying9 (Kd.own_of_R HO_9.out)
                go_wp2
                go_ret2
                exact ⟨by first | rfl | (simp [errW_none, errW_some] <;> rfl) | (simp [*, errW_none, errW_some] <;> rfl), by repeat (first | (with_reducible first | exact HB.out | apply below_alloc | apply pw_below_drewN | apply below_drew1) | exact HB.out)⟩

end Go.Proofs.Ytbkodnhnadkhdaa.PCm
