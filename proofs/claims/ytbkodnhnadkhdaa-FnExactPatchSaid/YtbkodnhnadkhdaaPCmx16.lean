-- Made by a program of this session (tools/pr.sh) out of the translation; Lean checks it.
import Derived.Test.YtbkodnhnadkhdaaPCmx0
import Derived.Test.YtbkodnhnadkhdaaPCmx1
import Derived.Test.YtbkodnhnadkhdaaPCmx14
import Derived.Test.YtbkodnhnadkhdaaPCmx15
namespace Go.Proofs.Ytbkodnhnadkhdaa.PCm
open Go.RowKit Go.Proofs.YtbkodnhnadkhdaaW.PrintWords Go.Proofs.YtbkodnhnadkhdaaW.PrintLast Go.Proofs.YtbkodnhnadkhdaaW.PrintMore
attribute [local go_sem] max2_int min2_int max_two min_two max_three min_three max_four min_four   -- for this text's walks alone
set_option linter.unusedVariables false
set_option linter.unusedSimpArgs false

/-! ### spec_Patch: function 38 -/
mutual
def spec_Patch.j0 : Nat → ByteArray → Int → List (S67) → Bool → Option (ByteArray × Bool)
  | 0, _, _, _, _ => none
  | k + 1, x0, x1, x2, x25 => if x25 = true then (some ((⟨#[]⟩ : ByteArray), false)) else ((spec_l05Blocks.f k x0 x1).bind fun t256 => (spec_Patch.l0 k x2 t256 (([] : List Int)) 0))
def spec_Patch.l0 : Nat → List (S67) → List ByteArray → List Int → Int → Option (ByteArray × Bool)
  | 0, _, _, _, _ => none
  | k + 1, x2, x8, x9, x10 => if x10 < (x2.length : Int) then (if 0 ≤ x10 then ((spec_TokenOk.f ((rd_T67 x2 x10).f0) ((rd_T67 x2 x10).f1) ((rd_T67 x2 x10).f2) ((rd_T67 x2 x10).f3)).bind fun t264 => (if t264 = true then (if ((rd_T67 x2 x10).f0) = 1 then (if ((rd_T67 x2 x10).f2) > (x8.length : Int) then (spec_Patch.j2 k x2 x8 x9 x10 true ((rd_T67 x2 x10).f0) ((rd_T67 x2 x10).f1) ((rd_T67 x2 x10).f2) ((rd_T67 x2 x10).f3)) else (spec_Patch.j2 k x2 x8 x9 x10 (decide (((rd_T67 x2 x10).f3) > (wrap64 ((x8.length : Int) - ((rd_T67 x2 x10).f2))))) ((rd_T67 x2 x10).f0) ((rd_T67 x2 x10).f1) ((rd_T67 x2 x10).f2) ((rd_T67 x2 x10).f3))) else (spec_Patch.j2 k x2 x8 x9 x10 false ((rd_T67 x2 x10).f0) ((rd_T67 x2 x10).f1) ((rd_T67 x2 x10).f2) ((rd_T67 x2 x10).f3))) else (spec_Patch.j2 k x2 x8 x9 x10 true ((rd_T67 x2 x10).f0) ((rd_T67 x2 x10).f1) ((rd_T67 x2 x10).f2) ((rd_T67 x2 x10).f3)))) else (none)) else (some (strOfNums x9, true))
def spec_Patch.j2 : Nat → List (S67) → List ByteArray → List Int → Int → Bool → Int → ByteArray → Int → Int → Option (ByteArray × Bool)
  | 0, _, _, _, _, _, _, _, _, _ => none
  | k + 1, x2, x8, x9, x10, x64, x264000, x264001, x264002, x264003 => if x64 = true then (some ((⟨#[]⟩ : ByteArray), false)) else ((conv.f x264001).bind fun t265 => (if x9.length + t265.length < 140737488355328 then (spec_Patch.l1 k x2 x8 (x9 ++ t265) x10 x264002 x264000 x264001 x264002 x264003) else (none)))
def spec_Patch.l1 : Nat → List (S67) → List ByteArray → List Int → Int → Int → Int → ByteArray → Int → Int → Option (ByteArray × Bool)
  | 0, _, _, _, _, _, _, _, _, _ => none
  | k + 1, x2, x8, x9, x10, x12, x264000, x264001, x264002, x264003 => if x12 < (wrap64 (x264002 + x264003)) then (if 0 ≤ x12 then (if x12 < (x8.length : Int) then ((conv.f (rdOf ByteArray.empty x8 x12)).bind fun t272 => (if x9.length + t272.length < 140737488355328 then (spec_Patch.l1 k x2 x8 (x9 ++ t272) x10 (wrap64 (x12 + 1)) x264000 x264001 x264002 x264003) else (none))) else (none)) else (none)) else (if (x9.length : Int) > 20000 then (some ((⟨#[]⟩ : ByteArray), false)) else (spec_Patch.l0 k x2 x8 x9 (wrap64 (x10 + 1))))
end
def spec_Patch.f (k : Nat) (a0 : ByteArray) (a1 : Int) (l2 : List (S67)) : Option (ByteArray × Bool) := (spec_l01In.f a1 1 256).bind fun t255 => (if t255 = true then (if (a0.size : Int) > 20000 then (spec_Patch.j0 k a0 a1 l2 true) else (spec_Patch.j0 k a0 a1 l2 (decide ((l2.length : Int) > 20000)))) else (spec_Patch.j0 k a0 a1 l2 true))
theorem spec_Patch.mono_l : ∀ k, (∀ y0 y1 y2 y3, LeO (spec_Patch.j0 k y0 y1 y2 y3) (spec_Patch.j0 (k + 1) y0 y1 y2 y3)) ∧ (∀ y0 y1 y2 y3, LeO (spec_Patch.l0 k y0 y1 y2 y3) (spec_Patch.l0 (k + 1) y0 y1 y2 y3)) ∧ (∀ y0 y1 y2 y3 y4 y5 y6 y7 y8, LeO (spec_Patch.j2 k y0 y1 y2 y3 y4 y5 y6 y7 y8) (spec_Patch.j2 (k + 1) y0 y1 y2 y3 y4 y5 y6 y7 y8)) ∧ (∀ y0 y1 y2 y3 y4 y5 y6 y7 y8, LeO (spec_Patch.l1 k y0 y1 y2 y3 y4 y5 y6 y7 y8) (spec_Patch.l1 (k + 1) y0 y1 y2 y3 y4 y5 y6 y7 y8))
  | 0 => ⟨fun _ _ _ _ r h => by simp [spec_Patch.j0] at h, fun _ _ _ _ r h => by simp [spec_Patch.l0] at h, fun _ _ _ _ _ _ _ _ _ r h => by simp [spec_Patch.j2] at h, fun _ _ _ _ _ _ _ _ _ r h => by simp [spec_Patch.l1] at h⟩
  | k + 1 => by
    obtain ⟨ih0, ih1, ih2, ih3⟩ := spec_Patch.mono_l k
    refine ⟨?_, ?_, ?_, ?_⟩
    · intro y0 y1 y2 y3
      unfold spec_Patch.j0
      repeat' first
      | (with_reducible exact ih0 _ _ _ _)
      | (with_reducible exact ih1 _ _ _ _)
      | (with_reducible exact ih2 _ _ _ _ _ _ _ _ _)
      | (with_reducible exact ih3 _ _ _ _ _ _ _ _ _)
      | (with_reducible exact spec_l05Blocks.mono _ _ _)
      | (with_reducible exact LeO.refl _)
      | (with_reducible exact LeO.none _)
      | (with_reducible refine LeO.ite ?_ ?_)
      | (with_reducible refine LeO.bind ?_ (fun _ => ?_))
      | exact ih0 _ _ _ _
      | exact ih1 _ _ _ _
      | exact ih2 _ _ _ _ _ _ _ _ _
      | exact ih3 _ _ _ _ _ _ _ _ _
      | exact spec_l05Blocks.mono _ _ _
      | exact LeO.none _
      | refine LeO.ite ?_ ?_
      | refine LeO.bind ?_ (fun _ => ?_)
    · intro y0 y1 y2 y3
      unfold spec_Patch.l0
      repeat' first
      | (with_reducible exact ih0 _ _ _ _)
      | (with_reducible exact ih1 _ _ _ _)
      | (with_reducible exact ih2 _ _ _ _ _ _ _ _ _)
      | (with_reducible exact ih3 _ _ _ _ _ _ _ _ _)
      | (with_reducible exact spec_l05Blocks.mono _ _ _)
      | (with_reducible exact LeO.refl _)
      | (with_reducible exact LeO.none _)
      | (with_reducible refine LeO.ite ?_ ?_)
      | (with_reducible refine LeO.bind ?_ (fun _ => ?_))
      | exact ih0 _ _ _ _
      | exact ih1 _ _ _ _
      | exact ih2 _ _ _ _ _ _ _ _ _
      | exact ih3 _ _ _ _ _ _ _ _ _
      | exact spec_l05Blocks.mono _ _ _
      | exact LeO.none _
      | refine LeO.ite ?_ ?_
      | refine LeO.bind ?_ (fun _ => ?_)
    · intro y0 y1 y2 y3 y4 y5 y6 y7 y8
      unfold spec_Patch.j2
      repeat' first
      | (with_reducible exact ih0 _ _ _ _)
      | (with_reducible exact ih1 _ _ _ _)
      | (with_reducible exact ih2 _ _ _ _ _ _ _ _ _)
      | (with_reducible exact ih3 _ _ _ _ _ _ _ _ _)
      | (with_reducible exact spec_l05Blocks.mono _ _ _)
      | (with_reducible exact LeO.refl _)
      | (with_reducible exact LeO.none _)
      | (with_reducible refine LeO.ite ?_ ?_)
      | (with_reducible refine LeO.bind ?_ (fun _ => ?_))
      | exact ih0 _ _ _ _
      | exact ih1 _ _ _ _
      | exact ih2 _ _ _ _ _ _ _ _ _
      | exact ih3 _ _ _ _ _ _ _ _ _
      | exact spec_l05Blocks.mono _ _ _
      | exact LeO.none _
      | refine LeO.ite ?_ ?_
      | refine LeO.bind ?_ (fun _ => ?_)
    · intro y0 y1 y2 y3 y4 y5 y6 y7 y8
      unfold spec_Patch.l1
      repeat' first
      | (with_reducible exact ih0 _ _ _ _)
      | (with_reducible exact ih1 _ _ _ _)
      | (with_reducible exact ih2 _ _ _ _ _ _ _ _ _)
      | (with_reducible exact ih3 _ _ _ _ _ _ _ _ _)
      | (with_reducible exact spec_l05Blocks.mono _ _ _)
      | (with_reducible exact LeO.refl _)
      | (with_reducible exact LeO.none _)
      | (with_reducible refine LeO.ite ?_ ?_)
      | (with_reducible refine LeO.bind ?_ (fun _ => ?_))
      | exact ih0 _ _ _ _
      | exact ih1 _ _ _ _
      | exact ih2 _ _ _ _ _ _ _ _ _
      | exact ih3 _ _ _ _ _ _ _ _ _
      | exact spec_l05Blocks.mono _ _ _
      | exact LeO.none _
      | refine LeO.ite ?_ ?_
      | refine LeO.bind ?_ (fun _ => ?_)
theorem spec_Patch.mono : ∀ a0 a1 a2 k, LeO (spec_Patch.f k a0 a1 a2) (spec_Patch.f (k + 1) a0 a1 a2) := by
  intro a0 a1 a2 k
  obtain ⟨ih0, ih1, ih2, ih3⟩ := spec_Patch.mono_l k
  unfold spec_Patch.f
  repeat' first
      | (with_reducible exact ih0 _ _ _ _)
      | (with_reducible exact ih1 _ _ _ _)
      | (with_reducible exact ih2 _ _ _ _ _ _ _ _ _)
      | (with_reducible exact ih3 _ _ _ _ _ _ _ _ _)
      | (with_reducible exact spec_l05Blocks.mono _ _ _)
      | (with_reducible exact LeO.refl _)
      | (with_reducible exact LeO.none _)
      | (with_reducible refine LeO.ite ?_ ?_)
      | (with_reducible refine LeO.bind ?_ (fun _ => ?_))
      | exact ih0 _ _ _ _
      | exact ih1 _ _ _ _
      | exact ih2 _ _ _ _ _ _ _ _ _
      | exact ih3 _ _ _ _ _ _ _ _ _
      | exact spec_l05Blocks.mono _ _ _
      | exact LeO.none _
      | refine LeO.ite ?_ ?_
      | refine LeO.bind ?_ (fun _ => ?_)
set_option maxHeartbeats 8000000 in
set_option maxRecDepth 100000 in
theorem spec_Patch.calls (k : Nat) (a0 : ByteArray) (a1 : Int) (A2 : Option Addr) (c2 : Nat) (l2 : List (S67)) (r1 : ByteArray) (r2 : Bool) (w : World) (hr2 : Kd.C k67 w A2 l2.length l2) (hc2 : l2.length ≤ c2) (h : spec_Patch.f k a0 a1 l2 = some (r1, r2)) :
    Calls Try.prog 38 #[.string a0, .int .i64 a1, .slice A2 l2.length c2] w fun e w' => e = .returned (.tuple #[.string r1, .bool r2]) ∧ Below w.heap.size w w' := by
  have hu67 := Try.underlying67
  have HR2 := Aside0.mk hr2
  have HC2 := Aside0.mk hc2
  clear hr2 hc2
  have HB := Aside0.mk (Below.refl w.heap.size w)
  have H : ((spec_l01In.f a1 1 256).bind fun t255 => (if t255 = true then (if (a0.size : Int) > 20000 then (spec_Patch.j0 k a0 a1 l2 true) else (spec_Patch.j0 k a0 a1 l2 (decide ((l2.length : Int) > 20000)))) else (spec_Patch.j0 k a0 a1 l2 true))) = some (r1, r2) := h
  clear h
  have HC4 := Aside0.mk H
  clear H
  go_enter Try.func38, Try.ntmps38
  go_upto_region 1 with (fail)
  go_cut [25] (fun v25 wc => ∃ (kq : Nat) (x25_3 : Bool), v25 = .bool x25_3 ∧ Aside0 (spec_Patch.j0 kq a0 a1 l2 x25_3 = some (r1, r2)) ∧ Aside0 (kq ≤ k) ∧ Aside0 (Below w.heap.size w wc))
  case first =>
    have H := HC4.out
    clear HC4
    replace H := Option.bind_eq_some_iff.mp H
    obtain ⟨t255, A50, H⟩ := H
    replace H : (if t255 = true then (if (a0.size : Int) > 20000 then (spec_Patch.j0 k a0 a1 l2 true) else (spec_Patch.j0 k a0 a1 l2 (decide ((l2.length : Int) > 20000)))) else (spec_Patch.j0 k a0 a1 l2 true)) = some (r1, r2) := H
    have A5 := Aside0.mk A50
    clear A50
    by_cases c6 : t255 = true
    · subst c6
      have H1 : (if (a0.size : Int) > 20000 then (spec_Patch.j0 k a0 a1 l2 true) else (spec_Patch.j0 k a0 a1 l2 (decide ((l2.length : Int) > 20000)))) = some (r1, r2) := by rw [if_pos rfl] at H; exact H
      clear H
      have H := H1
      clear H1
      by_cases c7 : (a0.size : Int) > 20000
      · rw [if_pos c7] at H
        have c7b0 : decide (20000 < (a0.size : Int)) = true := decide_eq_true c7
        have c7b1 : decide (20000 < a0.size) = true := decide_eq_true (by omega)
        clear c7
        (first | rw [c7b0] | (simp only [i64_w, i32_w, IntKind.wrap_u8, IntKind.wrap_u32]; rw [c7b0]) | skip)
        have H' := Aside0.mk H
        clear H
        go_wp2_with (first | ((with_reducible refine gate_callee (f := 52) rfl ?_); refine goesL_ (some 14) rfl rfl Try.func52 (by kernel_rfl) rfl #[.int .i64 a1, .int .i64 1, .int .i64 256] rfl (by (try simp only [List.map_toArray, List.map_cons, List.map_nil]); first | done | rfl | (simp only [List.length_drop, List.length_take]; rfl)) ?_; (with_reducible refine (spec_l01In.calls a1 1 256 true _ A5.out).mono ?_); rintro e w' ⟨rfl, ⟨nd, rfl⟩⟩; refine ⟨_, rfl, ?_⟩))
        go_meet
        case rel => exact ⟨_, (true), (by first | rfl | (simp; done) | (simp [*]; done)), H', ⟨by first | omega | exact Nat.le_refl _⟩, ⟨by repeat (first | (with_reducible first | exact HB.out | apply below_alloc | apply pw_below_drewN | apply below_drew1) | exact HB.out)⟩⟩
      · rw [if_neg c7] at H
        have c7b0 : decide (20000 < (a0.size : Int)) = false := decide_eq_false c7
        have c7b1 : decide (20000 < a0.size) = false := decide_eq_false (by omega)
        clear c7
        (first | rw [c7b0] | (simp only [i64_w, i32_w, IntKind.wrap_u8, IntKind.wrap_u32]; rw [c7b0]) | skip)
        have H' := Aside0.mk H
        clear H
        go_wp2_with (first | ((with_reducible refine gate_callee (f := 52) rfl ?_); refine goesL_ (some 14) rfl rfl Try.func52 (by kernel_rfl) rfl #[.int .i64 a1, .int .i64 1, .int .i64 256] rfl (by (try simp only [List.map_toArray, List.map_cons, List.map_nil]); first | done | rfl | (simp only [List.length_drop, List.length_take]; rfl)) ?_; (with_reducible refine (spec_l01In.calls a1 1 256 true _ A5.out).mono ?_); rintro e w' ⟨rfl, ⟨nd, rfl⟩⟩; refine ⟨_, rfl, ?_⟩))
        go_meet
        case rel => exact ⟨_, (decide ((l2.length : Int) > 20000)), (by first | rfl | (simp; done) | (simp [*]; done)), H', ⟨by first | omega | exact Nat.le_refl _⟩, ⟨by repeat (first | (with_reducible first | exact HB.out | apply below_alloc | apply pw_below_drewN | apply below_drew1) | exact HB.out)⟩⟩
    · replace c6 := Bool.eq_false_iff.mpr c6
      subst c6
      have H1 : (spec_Patch.j0 k a0 a1 l2 true) = some (r1, r2) := by rw [if_neg (show ¬ (false = true) by decide)] at H; exact H
      clear H
      have H := H1
      clear H1
      have H' := Aside0.mk H
      clear H
      go_wp2_with (first | ((with_reducible refine gate_callee (f := 52) rfl ?_); refine goesL_ (some 14) rfl rfl Try.func52 (by kernel_rfl) rfl #[.int .i64 a1, .int .i64 1, .int .i64 256] rfl (by (try simp only [List.map_toArray, List.map_cons, List.map_nil]); first | done | rfl | (simp only [List.length_drop, List.length_take]; rfl)) ?_; (with_reducible refine (spec_l01In.calls a1 1 256 false _ A5.out).mono ?_); rintro e w' ⟨rfl, ⟨nd, rfl⟩⟩; refine ⟨_, rfl, ?_⟩))
      go_meet
      case rel => exact ⟨_, (true), (by first | rfl | (simp; done) | (simp [*]; done)), H', ⟨by first | omega | exact Nat.le_refl _⟩, ⟨by repeat (first | (with_reducible first | exact HB.out | apply below_alloc | apply pw_below_drewN | apply below_drew1) | exact HB.out)⟩⟩
  case rest =>
    clear HC4
    try clear c2
    try clear p2
    try clear c3
    try clear c5
    try clear c6
    try clear c7
    try clear c7b0
    try clear c7b1
    obtain ⟨kq, x25_3, rfl, HA, HJ3, HB⟩ := hcut
    cases kq with
    | zero => exact absurd HA.out (by simp [spec_Patch.j0])
    | succ kj3 =>
      have H := HA.out
      clear HA
      simp only [spec_Patch.j0] at H
      by_cases c8 : x25_3 = true
      · subst c8
        have H1 : (some ((⟨#[]⟩ : ByteArray), false)) = some (r1, r2) := by rw [if_pos rfl] at H; exact H
        clear H
        have H := H1
        clear H1
        simp only [Option.some.injEq, Prod.mk.injEq] at H
        obtain ⟨rfl, rfl⟩ := H
        go_wp2
        go_ret2
        exact ⟨by first | rfl | (simp [errW_none, errW_some] <;> rfl) | (simp [*, errW_none, errW_some] <;> rfl), by repeat (first | (with_reducible first | exact HB.out | apply below_alloc | apply pw_below_drewN | apply below_drew1) | exact HB.out)⟩
      · replace c8 := Bool.eq_false_iff.mpr c8
        subst c8
        have H1 : ((spec_l05Blocks.f kj3 a0 a1).bind fun t256 => (spec_Patch.l0 kj3 l2 t256 (([] : List Int)) 0)) = some (r1, r2) := by rw [if_neg (show ¬ (false = true) by decide)] at H; exact H
        clear H
        have H := H1
        clear H1
        replace H := Option.bind_eq_some_iff.mp H
        obtain ⟨t256, A90, H⟩ := H
        replace H : (spec_Patch.l0 kj3 l2 t256 (([] : List Int)) 0) = some (r1, r2) := H
        have A9 := Aside0.mk A90
        clear A90
        obtain ⟨y259, hy259⟩ : ∃ y_ : List Int, y_ = (([] : List Int)) := ⟨_, rfl⟩
        replace H : (spec_Patch.l0 kj3 l2 t256 y259 0) = some (r1, r2) := by first | (rw [hy259]; with_reducible exact H) | (have H2_ := (Option.bind_some _ _).symm.trans H; rw [hy259]; with_reducible exact H2_) | (have H2_ := (Option.bind_some _ _).symm.trans H; with_reducible exact H2_) | with_reducible exact H | (rw [hy259]; exact H) | exact H
        have Ny259 := Aside0.mk hy259
        clear hy259
        have H' := Aside0.mk H
        clear H
        go_wp2_with (first | ((with_reducible refine gate_callee (f := 57) rfl ?_); refine goesL_ (some 28) rfl rfl Try.func57 (by kernel_rfl) rfl #[.string a0, .int .i64 a1] rfl (by (try simp only [List.map_toArray, List.map_cons, List.map_nil]); first | done | rfl | (simp only [List.length_drop, List.length_take]; rfl)) ?_; (with_reducible refine (spec_l05Blocks.calls kj3 a0 a1 t256 _ A9.out).mono ?_); rintro e w10 ⟨v257, rfl, ho0, hb⟩; refine ⟨_, rfl, ?_⟩; have n0_ := Aside0.mk (Kd.R_lower ho0 (below_size (by repeat (first | (with_reducible first | exact HB.out | apply below_alloc | apply pw_below_drewN | apply below_drew1) | exact HB.out)))); have n1_ := Aside0.mk (below_step (by repeat (first | (with_reducible first | exact HB.out | apply below_alloc | apply pw_below_drewN | apply below_drew1) | exact HB.out)) hb); clear HB; have HO258 := n0_; have HB := n1_; clear n0_ n1_; (try clear hb); (try clear hb2); (try clear hk); (try clear hi); (try clear ho0)) | ((with_reducible refine gate_dst (N := 29) rfl ?_); (try (refine gate_guard (by rfl) ?_; dsimp only)); refine Kd.R_lit (Kd.int .u8) _ 5 ?hg (N := 29) ?hd (xs := ([] : List Int)) (inner := []) (ok := fun _ => True) (okp := fun _ => True) ?hr ?hp (fun _ hk => hk) trivial (Below.refl _ _) (Nat.le_refl _) (by simp) ?_; (case hd => rfl); (case hg => rfl); (case hr => first | (go_simp; done) | (go_simp; rfl)); (case hp => exact (Reps.none _ _)); intro v260 w11 ho12 hb hg_ hnew_; clear hg_ hnew_; (first | rw [← Ny259.out] at ho12 | (simp only [Int.reduceToNat] at ho12; rw [← Ny259.out] at ho12)); have n0_ := Aside0.mk (Kd.R_below (by (with_reducible repeat (first | apply Kd.R_alloc | apply Kd.R_drewN | apply Kd.R_drew)); exact HO258.out) hb); have n1_ := Aside0.mk (Kd.R_lower ho12 (below_size (by repeat (first | (with_reducible first | exact HB.out | apply below_alloc | apply pw_below_drewN | apply below_drew1) | exact HB.out)))); have n2_ := Aside0.mk (below_step (by repeat (first | (with_reducible first | exact HB.out | apply below_alloc | apply pw_below_drewN | apply below_drew1) | exact HB.out)) hb); clear HO258; clear HB; have HO258 := n0_; have HO261 := n1_; have HB := n2_; clear n0_ n1_ n2_; clear hb ho12))
        go_loopg [9, 10] kj3 (fun kq v9 v10 w' => ∃ (x9_2 : List Int) (x10_2 : Int), v10 = .int .i64 x10_2 ∧ Aside0 (spec_Patch.l0 kq l2 t256 x9_2 x10_2 = some (r1, r2)) ∧ Aside0 (kq ≤ kj3) ∧ Aside0 (Kd.R Kd.string 9 w' w.heap.size (fun _ => True) v257 t256) ∧ Aside0 (Kd.R (Kd.int .u8) 5 w' w.heap.size (fun _ => True) v9 x9_2) ∧ Aside0 (Below w.heap.size w w'))
        case atStart => exact ⟨(y259), (0), (by first | rfl | (simp; done) | (simp [*]; done)), H', ⟨Nat.le_refl _⟩, ⟨by (with_reducible repeat (first | apply Kd.R_alloc | apply Kd.R_drewN | apply Kd.R_drew)); exact HO258.out⟩, ⟨by (with_reducible repeat (first | apply Kd.R_alloc | apply Kd.R_drewN | apply Kd.R_drew)); exact HO261.out⟩, ⟨by repeat (first | (with_reducible first | exact HB.out | apply below_alloc | apply pw_below_drewN | apply below_drew1) | exact HB.out)⟩⟩
        case round =>
          clear H'
          try clear c2
          try clear p2
          try clear c3
          try clear c5
          try clear c6
          try clear c7
          try clear c7b0
          try clear c7b1
          try clear c8
          try clear p2
          obtain ⟨x9_2, x10_2, rfl, HA, HK2, HO_8, HO_9, HB⟩ := hrel
          cases gk with
          | zero => exact absurd HA.out (by simp [spec_Patch.l0])
          | succ k2 =>
            have H := HA.out
            clear HA
            simp only [spec_Patch.l0] at H
            by_cases c13 : x10_2 < (l2.length : Int)
            · rw [if_pos c13] at H
              have c13b0 : decide (x10_2 < (l2.length : Int)) = true := decide_eq_true c13
              clear c13
              by_cases c14 : 0 ≤ x10_2
              · rw [if_pos c14] at H
                have c14b0 : decide (0 ≤ x10_2) = true := decide_eq_true c14
                clear c14
                have HC15 := Aside0.mk H
                clear H
                have p262 : 0 ≤ (x10_2 : Int) := of_decide_eq_true (by first | (with_reducible assumption) | assumption)
                have q262 : x10_2 < (l2.length : Int) := of_decide_eq_true (by first | (with_reducible assumption) | assumption)
                obtain ⟨ad262, e262, hx262_0, hx262_1, hx262_2, hx262_3⟩ := at_T67 HR2.out x10_2 p262 q262
                cases e262
                replace hx262_0 := (HB.out.cell (World.block_lt_of_cell? w _ hx262_0)).trans hx262_0
                replace hx262_1 := (HB.out.cell (World.block_lt_of_cell? w _ hx262_1)).trans hx262_1
                replace hx262_2 := (HB.out.cell (World.block_lt_of_cell? w _ hx262_2)).trans hx262_2
                replace hx262_3 := (HB.out.cell (World.block_lt_of_cell? w _ hx262_3)).trans hx262_3
                replace p262 := eq_true p262
                replace q262 := eq_true q262
                go_upto_region 9 with (first | ((with_reducible refine gate_dst (N := 11) rfl ?_); (try (refine gate_guard (by rfl) ?_; dsimp only)); refine box_event ?hg (N := 11) ?hd (cs := #[.int .i64 0, .string (⟨#[]⟩ : ByteArray), .int .i64 0, .int .i64 0]) (t := 67) ?hr ?_; (case hd => rfl); (case hg => rfl); (case hr => first | (go_simp; done) | (go_simp; rfl)); intro gb263 hg w16 hbox hb; have n0_ := Aside0.mk (Kd.R_below (by (with_reducible repeat (first | apply Kd.R_alloc | apply Kd.R_drewN | apply Kd.R_drew)); exact HO_8.out) hb); have n1_ := Aside0.mk (Kd.R_below (by (with_reducible repeat (first | apply Kd.R_alloc | apply Kd.R_drewN | apply Kd.R_drew)); exact HO_9.out) hb); have n2_ := Aside0.mk (below_step (by repeat (first | (with_reducible first | exact HB.out | apply below_alloc | apply pw_below_drewN | apply below_drew1) | exact HB.out)) hb); have n3_ := Aside0.mk (hbox); have n4_ := Aside0.mk ((by rw [hg]; exact (below_size (by repeat (first | (with_reducible first | exact HB.out | apply below_alloc | apply pw_below_drewN | apply below_drew1) | exact HB.out))) : w.heap.size ≤ gb263)); have n5_ := Aside0.mk ((by rw [hg]; exact (below_size (by repeat (first | (with_reducible first | exact HB.out | apply below_alloc | apply pw_below_drewN | apply below_drew1) | exact HB.out))) : w.heap.size ≤ gb263)); clear HO_8; clear HO_9; clear HB; have HO_8 := n0_; have HO_9 := n1_; have HB := n2_; have BK263 := n3_; have GW263 := n4_; have GE263 := n5_; clear n0_ n1_ n2_ n3_ n4_ n5_; clear hb hbox hg; have hcz17_0 : w16.cell? ⟨gb263, 0, none⟩ = some (.int .i64 0) := (blk_cell BK263.out 0).trans rfl; have hcz17_1 : w16.cell? ⟨gb263, 1, none⟩ = some (.string (⟨#[]⟩ : ByteArray)) := (blk_cell BK263.out 1).trans rfl; have hcz17_2 : w16.cell? ⟨gb263, 2, none⟩ = some (.int .i64 0) := (blk_cell BK263.out 2).trans rfl; have hcz17_3 : w16.cell? ⟨gb263, 3, none⟩ = some (.int .i64 0) := (blk_cell BK263.out 3).trans rfl; have hfz17_0 := blk_frozen BK263.out 0; have hfz17_1 := blk_frozen BK263.out 1; have hfz17_2 := blk_frozen BK263.out 2; have hfz17_3 := blk_frozen BK263.out 3))
                (try simp only [Act.put, List.setIfInBounds_toArray, List.set_cons_zero, List.set_cons_succ])
                go_cut [64] (fun v64 wc => ∃ (kq : Nat) (x64_14 : Bool), v64 = .bool x64_14 ∧ Aside0 (spec_Patch.j2 kq l2 t256 x9_2 x10_2 x64_14 ((rd_T67 l2 x10_2).f0) ((rd_T67 l2 x10_2).f1) ((rd_T67 l2 x10_2).f2) ((rd_T67 l2 x10_2).f3) = some (r1, r2)) ∧ Aside0 (kq ≤ k2) ∧ Aside0 (Kd.R Kd.string 9 wc w.heap.size (fun _ => True) v257 t256) ∧ Aside0 (Kd.R (Kd.int .u8) 5 wc w.heap.size (fun _ => True) u9 x9_2) ∧ Aside0 (wc.heap[gb263]? = some (.cells #[.int .i64 ((rd_T67 l2 x10_2).f0), .string ((rd_T67 l2 x10_2).f1), .int .i64 ((rd_T67 l2 x10_2).f2), .int .i64 ((rd_T67 l2 x10_2).f3)] 67 (0, 0))) ∧ Aside0 (Below w.heap.size w wc))
                case first =>
                  have H := HC15.out
                  clear HC15
                  replace H := Option.bind_eq_some_iff.mp H
                  obtain ⟨t264, A180, H⟩ := H
                  replace H : (if t264 = true then (if ((rd_T67 l2 x10_2).f0) = 1 then (if ((rd_T67 l2 x10_2).f2) > (t256.length : Int) then (spec_Patch.j2 k2 l2 t256 x9_2 x10_2 true ((rd_T67 l2 x10_2).f0) ((rd_T67 l2 x10_2).f1) ((rd_T67 l2 x10_2).f2) ((rd_T67 l2 x10_2).f3)) else (spec_Patch.j2 k2 l2 t256 x9_2 x10_2 (decide (((rd_T67 l2 x10_2).f3) > (wrap64 ((t256.length : Int) - ((rd_T67 l2 x10_2).f2))))) ((rd_T67 l2 x10_2).f0) ((rd_T67 l2 x10_2).f1) ((rd_T67 l2 x10_2).f2) ((rd_T67 l2 x10_2).f3))) else (spec_Patch.j2 k2 l2 t256 x9_2 x10_2 false ((rd_T67 l2 x10_2).f0) ((rd_T67 l2 x10_2).f1) ((rd_T67 l2 x10_2).f2) ((rd_T67 l2 x10_2).f3))) else (spec_Patch.j2 k2 l2 t256 x9_2 x10_2 true ((rd_T67 l2 x10_2).f0) ((rd_T67 l2 x10_2).f1) ((rd_T67 l2 x10_2).f2) ((rd_T67 l2 x10_2).f3))) = some (r1, r2) := H
                  have A18 := Aside0.mk A180
                  clear A180
                  by_cases c19 : t264 = true
                  · subst c19
                    have H1 : (if ((rd_T67 l2 x10_2).f0) = 1 then (if ((rd_T67 l2 x10_2).f2) > (t256.length : Int) then (spec_Patch.j2 k2 l2 t256 x9_2 x10_2 true ((rd_T67 l2 x10_2).f0) ((rd_T67 l2 x10_2).f1) ((rd_T67 l2 x10_2).f2) ((rd_T67 l2 x10_2).f3)) else (spec_Patch.j2 k2 l2 t256 x9_2 x10_2 (decide (((rd_T67 l2 x10_2).f3) > (wrap64 ((t256.length : Int) - ((rd_T67 l2 x10_2).f2))))) ((rd_T67 l2 x10_2).f0) ((rd_T67 l2 x10_2).f1) ((rd_T67 l2 x10_2).f2) ((rd_T67 l2 x10_2).f3))) else (spec_Patch.j2 k2 l2 t256 x9_2 x10_2 false ((rd_T67 l2 x10_2).f0) ((rd_T67 l2 x10_2).f1) ((rd_T67 l2 x10_2).f2) ((rd_T67 l2 x10_2).f3))) = some (r1, r2) := by rw [if_pos rfl] at H; exact H
                    clear H
                    have H := H1
                    clear H1
                    by_cases c20 : ((rd_T67 l2 x10_2).f0) = 1
                    · rw [if_pos c20] at H
                      have c20b0 : (((rd_T67 l2 x10_2).f0) == 1) = true := beq_iff_eq.mpr c20
                      have c20b1 : (((rd_T67 l2 x10_2).f0) != 1) = false := bne_eq_false_iff_eq.mpr c20
                      clear c20
                      (first | rw [c20b0] | (simp only [i64_w, i32_w, IntKind.wrap_u8, IntKind.wrap_u32]; rw [c20b0]) | skip)
                      by_cases c21 : ((rd_T67 l2 x10_2).f2) > (t256.length : Int)
                      · rw [if_pos c21] at H
                        have c21b0 : decide ((t256.length : Int) < ((rd_T67 l2 x10_2).f2)) = true := decide_eq_true c21
                        clear c21
                        have H' := Aside0.mk H
                        clear H
                        have hcz22_0 : w16.cell? ⟨gb263, 0, none⟩ = some (.int .i64 0) := (blk_cell BK263.out 0).trans rfl
                        have hcz22_1 : w16.cell? ⟨gb263, 1, none⟩ = some (.string (⟨#[]⟩ : ByteArray)) := (blk_cell BK263.out 1).trans rfl
                        have hcz22_2 : w16.cell? ⟨gb263, 2, none⟩ = some (.int .i64 0) := (blk_cell BK263.out 2).trans rfl
                        have hcz22_3 : w16.cell? ⟨gb263, 3, none⟩ = some (.int .i64 0) := (blk_cell BK263.out 3).trans rfl
                        have hfz22_0 := blk_frozen BK263.out 0
                        have hfz22_1 := blk_frozen BK263.out 1
                        have hfz22_2 := blk_frozen BK263.out 2
                        have hfz22_3 := blk_frozen BK263.out 3
                        go_wp2_with (first | ((with_reducible refine gate_callee (f := 62) rfl ?_); refine goesL_ (some 41) rfl rfl Try.func62 (by kernel_rfl) rfl #[.agg #[.int .i64 ((rd_T67 l2 x10_2).f0), .string ((rd_T67 l2 x10_2).f1), .int .i64 ((rd_T67 l2 x10_2).f2), .int .i64 ((rd_T67 l2 x10_2).f3)]] rfl (by (try simp only [List.map_toArray, List.map_cons, List.map_nil]); first | done | rfl | (simp only [List.length_drop, List.length_take]; rfl)) ?_; (with_reducible refine (spec_TokenOk.calls ((rd_T67 l2 x10_2).f0) ((rd_T67 l2 x10_2).f1) ((rd_T67 l2 x10_2).f2) ((rd_T67 l2 x10_2).f3) true _ A18.out).mono ?_); rintro e w23 ⟨rfl, hb⟩; refine ⟨_, rfl, ?_⟩; have n0_ := Aside0.mk (Kd.R_below (by (with_reducible repeat (first | apply Kd.R_alloc | apply Kd.R_drewN | apply Kd.R_drew)); exact (Kd.R_mono (Kd.R_far (p := ⟨gb263, 3, none⟩) (Kd.R_far (p := ⟨gb263, 2, none⟩) (Kd.R_far (p := ⟨gb263, 1, none⟩) (Kd.R_far (p := ⟨gb263, 0, none⟩) (Kd.R_types HO_8.out BK263.out (by decide)) (fun _ hk => hk.2) (.int .i64 ((rd_T67 l2 x10_2).f0))) (fun _ hk => hk.2) (.string ((rd_T67 l2 x10_2).f1))) (fun _ hk => hk.2) (.int .i64 ((rd_T67 l2 x10_2).f2))) (fun _ hk => hk.2) (.int .i64 ((rd_T67 l2 x10_2).f3))) (fun _ h_ => h_.1))) hb); have n1_ := Aside0.mk (Kd.R_below (by (with_reducible repeat (first | apply Kd.R_alloc | apply Kd.R_drewN | apply Kd.R_drew)); exact (Kd.R_mono (Kd.R_far (p := ⟨gb263, 3, none⟩) (Kd.R_far (p := ⟨gb263, 2, none⟩) (Kd.R_far (p := ⟨gb263, 1, none⟩) (Kd.R_far (p := ⟨gb263, 0, none⟩) (Kd.R_types HO_9.out BK263.out (by decide)) (fun _ hk => hk.2) (.int .i64 ((rd_T67 l2 x10_2).f0))) (fun _ hk => hk.2) (.string ((rd_T67 l2 x10_2).f1))) (fun _ hk => hk.2) (.int .i64 ((rd_T67 l2 x10_2).f2))) (fun _ hk => hk.2) (.int .i64 ((rd_T67 l2 x10_2).f3))) (fun _ h_ => h_.1))) hb); have n2_ := Aside0.mk (blk_below (g := gb263) (o := .cells #[.int .i64 ((rd_T67 l2 x10_2).f0), .string ((rd_T67 l2 x10_2).f1), .int .i64 ((rd_T67 l2 x10_2).f2), .int .i64 ((rd_T67 l2 x10_2).f3)] 67 (0, 0)) (by (with_reducible repeat (first | refine blk_drewN ?_ _ | refine blk_drew ?_ | refine blk_alloc ?_ _)); refine blk_put (cs := #[.int .i64 ((rd_T67 l2 x10_2).f0), .string ((rd_T67 l2 x10_2).f1), .int .i64 ((rd_T67 l2 x10_2).f2), .int .i64 0]) ?_ 3 _ rfl; (with_reducible repeat (first | refine blk_drewN ?_ _ | refine blk_drew ?_ | refine blk_alloc ?_ _)); refine blk_put (cs := #[.int .i64 ((rd_T67 l2 x10_2).f0), .string ((rd_T67 l2 x10_2).f1), .int .i64 0, .int .i64 0]) ?_ 2 _ rfl; (with_reducible repeat (first | refine blk_drewN ?_ _ | refine blk_drew ?_ | refine blk_alloc ?_ _)); refine blk_put (cs := #[.int .i64 ((rd_T67 l2 x10_2).f0), .string (⟨#[]⟩ : ByteArray), .int .i64 0, .int .i64 0]) ?_ 1 _ rfl; (with_reducible repeat (first | refine blk_drewN ?_ _ | refine blk_drew ?_ | refine blk_alloc ?_ _)); refine blk_put (cs := #[.int .i64 0, .string (⟨#[]⟩ : ByteArray), .int .i64 0, .int .i64 0]) ?_ 0 _ rfl; (with_reducible repeat (first | refine blk_drewN ?_ _ | refine blk_drew ?_ | refine blk_alloc ?_ _)); exact BK263.out) hb); have n3_ := Aside0.mk (below_step (by repeat (first | (with_reducible first | exact HB.out | apply below_alloc | apply pw_below_drewN | apply below_drew1 | refine below_set ?_ GE263.out) | exact HB.out)) hb); clear HO_8; clear HO_9; clear BK263; clear HB; have HO_8 := n0_; have HO_9 := n1_; have BK263 := n2_; have HB := n3_; clear n0_ n1_ n2_ n3_; (try clear hb); (try clear hb2); (try clear hk); (try clear hi); have hcz24_0 : w23.cell? ⟨gb263, 0, none⟩ = some (.int .i64 ((rd_T67 l2 x10_2).f0)) := (blk_cell BK263.out 0).trans rfl; have hcz24_1 : w23.cell? ⟨gb263, 1, none⟩ = some (.string ((rd_T67 l2 x10_2).f1)) := (blk_cell BK263.out 1).trans rfl; have hcz24_2 : w23.cell? ⟨gb263, 2, none⟩ = some (.int .i64 ((rd_T67 l2 x10_2).f2)) := (blk_cell BK263.out 2).trans rfl; have hcz24_3 : w23.cell? ⟨gb263, 3, none⟩ = some (.int .i64 ((rd_T67 l2 x10_2).f3)) := (blk_cell BK263.out 3).trans rfl; have hfz24_0 := blk_frozen BK263.out 0; have hfz24_1 := blk_frozen BK263.out 1; have hfz24_2 := blk_frozen BK263.out 2; have hfz24_3 := blk_frozen BK263.out 3; obtain ⟨Ao25, co25, eo25⟩ := Kd.R_slice HO_8.out; subst eo25))
                        go_meet
                        case rel => exact ⟨_, (true), (by first | rfl | (simp; done) | (simp [*]; done)), H', ⟨by have := HJ3.out; have := HK2.out; first | omega | exact Nat.le_refl _⟩, ⟨by (with_reducible repeat (first | apply Kd.R_alloc | apply Kd.R_drewN | apply Kd.R_drew)); exact HO_8.out⟩, ⟨by (with_reducible repeat (first | apply Kd.R_alloc | apply Kd.R_drewN | apply Kd.R_drew)); exact HO_9.out⟩, ⟨by (with_reducible repeat (first | refine blk_drewN ?_ _ | refine blk_drew ?_ | refine blk_alloc ?_ _)); exact BK263.out⟩, ⟨by repeat (first | (with_reducible first | exact HB.out | apply below_alloc | apply pw_below_drewN | apply below_drew1 | refine below_set ?_ GE263.out) | exact HB.out)⟩⟩
                      · rw [if_neg c21] at H
                        have c21b0 : decide ((t256.length : Int) < ((rd_T67 l2 x10_2).f2)) = false := decide_eq_false c21
                        clear c21
                        have H' := Aside0.mk H
                        clear H
                        have hcz26_0 : w16.cell? ⟨gb263, 0, none⟩ = some (.int .i64 0) := (blk_cell BK263.out 0).trans rfl
                        have hcz26_1 : w16.cell? ⟨gb263, 1, none⟩ = some (.string (⟨#[]⟩ : ByteArray)) := (blk_cell BK263.out 1).trans rfl
                        have hcz26_2 : w16.cell? ⟨gb263, 2, none⟩ = some (.int .i64 0) := (blk_cell BK263.out 2).trans rfl
                        have hcz26_3 : w16.cell? ⟨gb263, 3, none⟩ = some (.int .i64 0) := (blk_cell BK263.out 3).trans rfl
                        have hfz26_0 := blk_frozen BK263.out 0
                        have hfz26_1 := blk_frozen BK263.out 1
                        have hfz26_2 := blk_frozen BK263.out 2
                        have hfz26_3 := blk_frozen BK263.out 3
                        go_wp2_with (first | ((with_reducible refine gate_callee (f := 62) rfl ?_); refine goesL_ (some 41) rfl rfl Try.func62 (by kernel_rfl) rfl #[.agg #[.int .i64 ((rd_T67 l2 x10_2).f0), .string ((rd_T67 l2 x10_2).f1), .int .i64 ((rd_T67 l2 x10_2).f2), .int .i64 ((rd_T67 l2 x10_2).f3)]] rfl (by (try simp only [List.map_toArray, List.map_cons, List.map_nil]); first | done | rfl | (simp only [List.length_drop, List.length_take]; rfl)) ?_; (with_reducible refine (spec_TokenOk.calls ((rd_T67 l2 x10_2).f0) ((rd_T67 l2 x10_2).f1) ((rd_T67 l2 x10_2).f2) ((rd_T67 l2 x10_2).f3) true _ A18.out).mono ?_); rintro e w27 ⟨rfl, hb⟩; refine ⟨_, rfl, ?_⟩; have n0_ := Aside0.mk (Kd.R_below (by (with_reducible repeat (first | apply Kd.R_alloc | apply Kd.R_drewN | apply Kd.R_drew)); exact (Kd.R_mono (Kd.R_far (p := ⟨gb263, 3, none⟩) (Kd.R_far (p := ⟨gb263, 2, none⟩) (Kd.R_far (p := ⟨gb263, 1, none⟩) (Kd.R_far (p := ⟨gb263, 0, none⟩) (Kd.R_types HO_8.out BK263.out (by decide)) (fun _ hk => hk.2) (.int .i64 ((rd_T67 l2 x10_2).f0))) (fun _ hk => hk.2) (.string ((rd_T67 l2 x10_2).f1))) (fun _ hk => hk.2) (.int .i64 ((rd_T67 l2 x10_2).f2))) (fun _ hk => hk.2) (.int .i64 ((rd_T67 l2 x10_2).f3))) (fun _ h_ => h_.1))) hb); have n1_ := Aside0.mk (Kd.R_below (by (with_reducible repeat (first | apply Kd.R_alloc | apply Kd.R_drewN | apply Kd.R_drew)); exact (Kd.R_mono (Kd.R_far (p := ⟨gb263, 3, none⟩) (Kd.R_far (p := ⟨gb263, 2, none⟩) (Kd.R_far (p := ⟨gb263, 1, none⟩) (Kd.R_far (p := ⟨gb263, 0, none⟩) (Kd.R_types HO_9.out BK263.out (by decide)) (fun _ hk => hk.2) (.int .i64 ((rd_T67 l2 x10_2).f0))) (fun _ hk => hk.2) (.string ((rd_T67 l2 x10_2).f1))) (fun _ hk => hk.2) (.int .i64 ((rd_T67 l2 x10_2).f2))) (fun _ hk => hk.2) (.int .i64 ((rd_T67 l2 x10_2).f3))) (fun _ h_ => h_.1))) hb); have n2_ := Aside0.mk (blk_below (g := gb263) (o := .cells #[.int .i64 ((rd_T67 l2 x10_2).f0), .string ((rd_T67 l2 x10_2).f1), .int .i64 ((rd_T67 l2 x10_2).f2), .int .i64 ((rd_T67 l2 x10_2).f3)] 67 (0, 0)) (by (with_reducible repeat (first | refine blk_drewN ?_ _ | refine blk_drew ?_ | refine blk_alloc ?_ _)); refine blk_put (cs := #[.int .i64 ((rd_T67 l2 x10_2).f0), .string ((rd_T67 l2 x10_2).f1), .int .i64 ((rd_T67 l2 x10_2).f2), .int .i64 0]) ?_ 3 _ rfl; (with_reducible repeat (first | refine blk_drewN ?_ _ | refine blk_drew ?_ | refine blk_alloc ?_ _)); refine blk_put (cs := #[.int .i64 ((rd_T67 l2 x10_2).f0), .string ((rd_T67 l2 x10_2).f1), .int .i64 0, .int .i64 0]) ?_ 2 _ rfl; (with_reducible repeat (first | refine blk_drewN ?_ _ | refine blk_drew ?_ | refine blk_alloc ?_ _)); refine blk_put (cs := #[.int .i64 ((rd_T67 l2 x10_2).f0), .string (⟨#[]⟩ : ByteArray), .int .i64 0, .int .i64 0]) ?_ 1 _ rfl; (with_reducible repeat (first | refine blk_drewN ?_ _ | refine blk_drew ?_ | refine blk_alloc ?_ _)); refine blk_put (cs := #[.int .i64 0, .string (⟨#[]⟩ : ByteArray), .int .i64 0, .int .i64 0]) ?_ 0 _ rfl; (with_reducible repeat (first | refine blk_drewN ?_ _ | refine blk_drew ?_ | refine blk_alloc ?_ _)); exact BK263.out) hb); have n3_ := Aside0.mk (below_step (by repeat (first | (with_reducible first | exact HB.out | apply below_alloc | apply pw_below_drewN | apply below_drew1 | refine below_set ?_ GE263.out) | exact HB.out)) hb); clear HO_8; clear HO_9; clear BK263; clear HB; have HO_8 := n0_; have HO_9 := n1_; have BK263 := n2_; have HB := n3_; clear n0_ n1_ n2_ n3_; (try clear hb); (try clear hb2); (try clear hk); (try clear hi); have hcz28_0 : w27.cell? ⟨gb263, 0, none⟩ = some (.int .i64 ((rd_T67 l2 x10_2).f0)) := (blk_cell BK263.out 0).trans rfl; have hcz28_1 : w27.cell? ⟨gb263, 1, none⟩ = some (.string ((rd_T67 l2 x10_2).f1)) := (blk_cell BK263.out 1).trans rfl; have hcz28_2 : w27.cell? ⟨gb263, 2, none⟩ = some (.int .i64 ((rd_T67 l2 x10_2).f2)) := (blk_cell BK263.out 2).trans rfl; have hcz28_3 : w27.cell? ⟨gb263, 3, none⟩ = some (.int .i64 ((rd_T67 l2 x10_2).f3)) := (blk_cell BK263.out 3).trans rfl; have hfz28_0 := blk_frozen BK263.out 0; have hfz28_1 := blk_frozen BK263.out 1; have hfz28_2 := blk_frozen BK263.out 2; have hfz28_3 := blk_frozen BK263.out 3; obtain ⟨Ao29, co29, eo29⟩ := Kd.R_slice HO_8.out; subst eo29))
                        go_meet
                        case rel => exact ⟨_, (decide (((rd_T67 l2 x10_2).f3) > (wrap64 ((t256.length : Int) - ((rd_T67 l2 x10_2).f2))))), (by first | rfl | (simp; done) | (simp [*]; done)), H', ⟨by have := HJ3.out; have := HK2.out; first | omega | exact Nat.le_refl _⟩, ⟨by (with_reducible repeat (first | apply Kd.R_alloc | apply Kd.R_drewN | apply Kd.R_drew)); exact HO_8.out⟩, ⟨by (with_reducible repeat (first | apply Kd.R_alloc | apply Kd.R_drewN | apply Kd.R_drew)); exact HO_9.out⟩, ⟨by (with_reducible repeat (first | refine blk_drewN ?_ _ | refine blk_drew ?_ | refine blk_alloc ?_ _)); exact BK263.out⟩, ⟨by repeat (first | (with_reducible first | exact HB.out | apply below_alloc | apply pw_below_drewN | apply below_drew1 | refine below_set ?_ GE263.out) | exact HB.out)⟩⟩
                    · rw [if_neg c20] at H
                      have c20b0 : (((rd_T67 l2 x10_2).f0) == 1) = false := beq_eq_false_iff_ne.mpr c20
                      have c20b1 : (((rd_T67 l2 x10_2).f0) != 1) = true := bne_iff_ne.mpr c20
                      (first | rw [c20b0] | (simp only [i64_w, i32_w, IntKind.wrap_u8, IntKind.wrap_u32]; rw [c20b0]) | skip)
                      have H' := Aside0.mk H
                      clear H
                      have hcz30_0 : w16.cell? ⟨gb263, 0, none⟩ = some (.int .i64 0) := (blk_cell BK263.out 0).trans rfl
                      have hcz30_1 : w16.cell? ⟨gb263, 1, none⟩ = some (.string (⟨#[]⟩ : ByteArray)) := (blk_cell BK263.out 1).trans rfl
                      have hcz30_2 : w16.cell? ⟨gb263, 2, none⟩ = some (.int .i64 0) := (blk_cell BK263.out 2).trans rfl
                      have hcz30_3 : w16.cell? ⟨gb263, 3, none⟩ = some (.int .i64 0) := (blk_cell BK263.out 3).trans rfl
                      have hfz30_0 := blk_frozen BK263.out 0
                      have hfz30_1 := blk_frozen BK263.out 1
                      have hfz30_2 := blk_frozen BK263.out 2
                      have hfz30_3 := blk_frozen BK263.out 3
                      go_wp2_with (first | ((with_reducible refine gate_callee (f := 62) rfl ?_); refine goesL_ (some 41) rfl rfl Try.func62 (by kernel_rfl) rfl #[.agg #[.int .i64 ((rd_T67 l2 x10_2).f0), .string ((rd_T67 l2 x10_2).f1), .int .i64 ((rd_T67 l2 x10_2).f2), .int .i64 ((rd_T67 l2 x10_2).f3)]] rfl (by (try simp only [List.map_toArray, List.map_cons, List.map_nil]); first | done | rfl | (simp only [List.length_drop, List.length_take]; rfl)) ?_; (with_reducible refine (spec_TokenOk.calls ((rd_T67 l2 x10_2).f0) ((rd_T67 l2 x10_2).f1) ((rd_T67 l2 x10_2).f2) ((rd_T67 l2 x10_2).f3) true _ A18.out).mono ?_); rintro e w31 ⟨rfl, hb⟩; refine ⟨_, rfl, ?_⟩; have n0_ := Aside0.mk (Kd.R_below (by (with_reducible repeat (first | apply Kd.R_alloc | apply Kd.R_drewN | apply Kd.R_drew)); exact (Kd.R_mono (Kd.R_far (p := ⟨gb263, 3, none⟩) (Kd.R_far (p := ⟨gb263, 2, none⟩) (Kd.R_far (p := ⟨gb263, 1, none⟩) (Kd.R_far (p := ⟨gb263, 0, none⟩) (Kd.R_types HO_8.out BK263.out (by decide)) (fun _ hk => hk.2) (.int .i64 ((rd_T67 l2 x10_2).f0))) (fun _ hk => hk.2) (.string ((rd_T67 l2 x10_2).f1))) (fun _ hk => hk.2) (.int .i64 ((rd_T67 l2 x10_2).f2))) (fun _ hk => hk.2) (.int .i64 ((rd_T67 l2 x10_2).f3))) (fun _ h_ => h_.1))) hb); have n1_ := Aside0.mk (Kd.R_below (by (with_reducible repeat (first | apply Kd.R_alloc | apply Kd.R_drewN | apply Kd.R_drew)); exact (Kd.R_mono (Kd.R_far (p := ⟨gb263, 3, none⟩) (Kd.R_far (p := ⟨gb263, 2, none⟩) (Kd.R_far (p := ⟨gb263, 1, none⟩) (Kd.R_far (p := ⟨gb263, 0, none⟩) (Kd.R_types HO_9.out BK263.out (by decide)) (fun _ hk => hk.2) (.int .i64 ((rd_T67 l2 x10_2).f0))) (fun _ hk => hk.2) (.string ((rd_T67 l2 x10_2).f1))) (fun _ hk => hk.2) (.int .i64 ((rd_T67 l2 x10_2).f2))) (fun _ hk => hk.2) (.int .i64 ((rd_T67 l2 x10_2).f3))) (fun _ h_ => h_.1))) hb); have n2_ := Aside0.mk (blk_below (g := gb263) (o := .cells #[.int .i64 ((rd_T67 l2 x10_2).f0), .string ((rd_T67 l2 x10_2).f1), .int .i64 ((rd_T67 l2 x10_2).f2), .int .i64 ((rd_T67 l2 x10_2).f3)] 67 (0, 0)) (by (with_reducible repeat (first | refine blk_drewN ?_ _ | refine blk_drew ?_ | refine blk_alloc ?_ _)); refine blk_put (cs := #[.int .i64 ((rd_T67 l2 x10_2).f0), .string ((rd_T67 l2 x10_2).f1), .int .i64 ((rd_T67 l2 x10_2).f2), .int .i64 0]) ?_ 3 _ rfl; (with_reducible repeat (first | refine blk_drewN ?_ _ | refine blk_drew ?_ | refine blk_alloc ?_ _)); refine blk_put (cs := #[.int .i64 ((rd_T67 l2 x10_2).f0), .string ((rd_T67 l2 x10_2).f1), .int .i64 0, .int .i64 0]) ?_ 2 _ rfl; (with_reducible repeat (first | refine blk_drewN ?_ _ | refine blk_drew ?_ | refine blk_alloc ?_ _)); refine blk_put (cs := #[.int .i64 ((rd_T67 l2 x10_2).f0), .string (⟨#[]⟩ : ByteArray), .int .i64 0, .int .i64 0]) ?_ 1 _ rfl; (with_reducible repeat (first | refine blk_drewN ?_ _ | refine blk_drew ?_ | refine blk_alloc ?_ _)); refine blk_put (cs := #[.int .i64 0, .string (⟨#[]⟩ : ByteArray), .int .i64 0, .int .i64 0]) ?_ 0 _ rfl; (with_reducible repeat (first | refine blk_drewN ?_ _ | refine blk_drew ?_ | refine blk_alloc ?_ _)); exact BK263.out) hb); have n3_ := Aside0.mk (below_step (by repeat (first | (with_reducible first | exact HB.out | apply below_alloc | apply pw_below_drewN | apply below_drew1 | refine below_set ?_ GE263.out) | exact HB.out)) hb); clear HO_8; clear HO_9; clear BK263; clear HB; have HO_8 := n0_; have HO_9 := n1_; have BK263 := n2_; have HB := n3_; clear n0_ n1_ n2_ n3_; (try clear hb); (try clear hb2); (try clear hk); (try clear hi); have hcz32_0 : w31.cell? ⟨gb263, 0, none⟩ = some (.int .i64 ((rd_T67 l2 x10_2).f0)) := (blk_cell BK263.out 0).trans rfl; have hcz32_1 : w31.cell? ⟨gb263, 1, none⟩ = some (.string ((rd_T67 l2 x10_2).f1)) := (blk_cell BK263.out 1).trans rfl; have hcz32_2 : w31.cell? ⟨gb263, 2, none⟩ = some (.int .i64 ((rd_T67 l2 x10_2).f2)) := (blk_cell BK263.out 2).trans rfl; have hcz32_3 : w31.cell? ⟨gb263, 3, none⟩ = some (.int .i64 ((rd_T67 l2 x10_2).f3)) := (blk_cell BK263.out 3).trans rfl; have hfz32_0 := blk_frozen BK263.out 0; have hfz32_1 := blk_frozen BK263.out 1; have hfz32_2 := blk_frozen BK263.out 2; have hfz32_3 := blk_frozen BK263.out 3))
                      go_meet
                      case rel => exact ⟨_, (false), (by first | rfl | (simp; done) | (simp [*]; done)), H', ⟨by have := HJ3.out; have := HK2.out; first | omega | exact Nat.le_refl _⟩, ⟨by (with_reducible repeat (first | apply Kd.R_alloc | apply Kd.R_drewN | apply Kd.R_drew)); exact HO_8.out⟩, ⟨by (with_reducible repeat (first | apply Kd.R_alloc | apply Kd.R_drewN | apply Kd.R_drew)); exact HO_9.out⟩, ⟨by (with_reducible repeat (first | refine blk_drewN ?_ _ | refine blk_drew ?_ | refine blk_alloc ?_ _)); exact BK263.out⟩, ⟨by repeat (first | (with_reducible first | exact HB.out | apply below_alloc | apply pw_below_drewN | apply below_drew1 | refine below_set ?_ GE263.out) | exact HB.out)⟩⟩
                  · replace c19 := Bool.eq_false_iff.mpr c19
                    subst c19
                    have H1 : (spec_Patch.j2 k2 l2 t256 x9_2 x10_2 true ((rd_T67 l2 x10_2).f0) ((rd_T67 l2 x10_2).f1) ((rd_T67 l2 x10_2).f2) ((rd_T67 l2 x10_2).f3)) = some (r1, r2) := by rw [if_neg (show ¬ (false = true) by decide)] at H; exact H
                    clear H
                    have H := H1
                    clear H1
                    have H' := Aside0.mk H
                    clear H
                    have hcz33_0 : w16.cell? ⟨gb263, 0, none⟩ = some (.int .i64 0) := (blk_cell BK263.out 0).trans rfl
                    have hcz33_1 : w16.cell? ⟨gb263, 1, none⟩ = some (.string (⟨#[]⟩ : ByteArray)) := (blk_cell BK263.out 1).trans rfl
                    have hcz33_2 : w16.cell? ⟨gb263, 2, none⟩ = some (.int .i64 0) := (blk_cell BK263.out 2).trans rfl
                    have hcz33_3 : w16.cell? ⟨gb263, 3, none⟩ = some (.int .i64 0) := (blk_cell BK263.out 3).trans rfl
                    have hfz33_0 := blk_frozen BK263.out 0
                    have hfz33_1 := blk_frozen BK263.out 1
                    have hfz33_2 := blk_frozen BK263.out 2
                    have hfz33_3 := blk_frozen BK263.out 3
                    go_wp2_with (first | ((with_reducible refine gate_callee (f := 62) rfl ?_); refine goesL_ (some 41) rfl rfl Try.func62 (by kernel_rfl) rfl #[.agg #[.int .i64 ((rd_T67 l2 x10_2).f0), .string ((rd_T67 l2 x10_2).f1), .int .i64 ((rd_T67 l2 x10_2).f2), .int .i64 ((rd_T67 l2 x10_2).f3)]] rfl (by (try simp only [List.map_toArray, List.map_cons, List.map_nil]); first | done | rfl | (simp only [List.length_drop, List.length_take]; rfl)) ?_; (with_reducible refine (spec_TokenOk.calls ((rd_T67 l2 x10_2).f0) ((rd_T67 l2 x10_2).f1) ((rd_T67 l2 x10_2).f2) ((rd_T67 l2 x10_2).f3) false _ A18.out).mono ?_); rintro e w34 ⟨rfl, hb⟩; refine ⟨_, rfl, ?_⟩; have n0_ := Aside0.mk (Kd.R_below (by (with_reducible repeat (first | apply Kd.R_alloc | apply Kd.R_drewN | apply Kd.R_drew)); exact (Kd.R_mono (Kd.R_far (p := ⟨gb263, 3, none⟩) (Kd.R_far (p := ⟨gb263, 2, none⟩) (Kd.R_far (p := ⟨gb263, 1, none⟩) (Kd.R_far (p := ⟨gb263, 0, none⟩) (Kd.R_types HO_8.out BK263.out (by decide)) (fun _ hk => hk.2) (.int .i64 ((rd_T67 l2 x10_2).f0))) (fun _ hk => hk.2) (.string ((rd_T67 l2 x10_2).f1))) (fun _ hk => hk.2) (.int .i64 ((rd_T67 l2 x10_2).f2))) (fun _ hk => hk.2) (.int .i64 ((rd_T67 l2 x10_2).f3))) (fun _ h_ => h_.1))) hb); have n1_ := Aside0.mk (Kd.R_below (by (with_reducible repeat (first | apply Kd.R_alloc | apply Kd.R_drewN | apply Kd.R_drew)); exact (Kd.R_mono (Kd.R_far (p := ⟨gb263, 3, none⟩) (Kd.R_far (p := ⟨gb263, 2, none⟩) (Kd.R_far (p := ⟨gb263, 1, none⟩) (Kd.R_far (p := ⟨gb263, 0, none⟩) (Kd.R_types HO_9.out BK263.out (by decide)) (fun _ hk => hk.2) (.int .i64 ((rd_T67 l2 x10_2).f0))) (fun _ hk => hk.2) (.string ((rd_T67 l2 x10_2).f1))) (fun _ hk => hk.2) (.int .i64 ((rd_T67 l2 x10_2).f2))) (fun _ hk => hk.2) (.int .i64 ((rd_T67 l2 x10_2).f3))) (fun _ h_ => h_.1))) hb); have n2_ := Aside0.mk (blk_below (g := gb263) (o := .cells #[.int .i64 ((rd_T67 l2 x10_2).f0), .string ((rd_T67 l2 x10_2).f1), .int .i64 ((rd_T67 l2 x10_2).f2), .int .i64 ((rd_T67 l2 x10_2).f3)] 67 (0, 0)) (by (with_reducible repeat (first | refine blk_drewN ?_ _ | refine blk_drew ?_ | refine blk_alloc ?_ _)); refine blk_put (cs := #[.int .i64 ((rd_T67 l2 x10_2).f0), .string ((rd_T67 l2 x10_2).f1), .int .i64 ((rd_T67 l2 x10_2).f2), .int .i64 0]) ?_ 3 _ rfl; (with_reducible repeat (first | refine blk_drewN ?_ _ | refine blk_drew ?_ | refine blk_alloc ?_ _)); refine blk_put (cs := #[.int .i64 ((rd_T67 l2 x10_2).f0), .string ((rd_T67 l2 x10_2).f1), .int .i64 0, .int .i64 0]) ?_ 2 _ rfl; (with_reducible repeat (first | refine blk_drewN ?_ _ | refine blk_drew ?_ | refine blk_alloc ?_ _)); refine blk_put (cs := #[.int .i64 ((rd_T67 l2 x10_2).f0), .string (⟨#[]⟩ : ByteArray), .int .i64 0, .int .i64 0]) ?_ 1 _ rfl; (with_reducible repeat (first | refine blk_drewN ?_ _ | refine blk_drew ?_ | refine blk_alloc ?_ _)); refine blk_put (cs := #[.int .i64 0, .string (⟨#[]⟩ : ByteArray), .int .i64 0, .int .i64 0]) ?_ 0 _ rfl; (with_reducible repeat (first | refine blk_drewN ?_ _ | refine blk_drew ?_ | refine blk_alloc ?_ _)); exact BK263.out) hb); have n3_ := Aside0.mk (below_step (by repeat (first | (with_reducible first | exact HB.out | apply below_alloc | apply pw_below_drewN | apply below_drew1 | refine below_set ?_ GE263.out) | exact HB.out)) hb); clear HO_8; clear HO_9; clear BK263; clear HB; have HO_8 := n0_; have HO_9 := n1_; have BK263 := n2_; have HB := n3_; clear n0_ n1_ n2_ n3_; (try clear hb); (try clear hb2); (try clear hk); (try clear hi)))
                    go_meet
                    case rel => exact ⟨_, (true), (by first | rfl | (simp; done) | (simp [*]; done)), H', ⟨by have := HJ3.out; have := HK2.out; first | omega | exact Nat.le_refl _⟩, ⟨by (with_reducible repeat (first | apply Kd.R_alloc | apply Kd.R_drewN | apply Kd.R_drew)); exact HO_8.out⟩, ⟨by (with_reducible repeat (first | apply Kd.R_alloc | apply Kd.R_drewN | apply Kd.R_drew)); exact HO_9.out⟩, ⟨by (with_reducible repeat (first | refine blk_drewN ?_ _ | refine blk_drew ?_ | refine blk_alloc ?_ _)); exact BK263.out⟩, ⟨by repeat (first | (with_reducible first | exact HB.out | apply below_alloc | apply pw_below_drewN | apply below_drew1 | refine below_set ?_ GE263.out) | exact HB.out)⟩⟩
                case rest =>
                  clear HC15
                  try clear c1
                  try clear c2
                  try clear p2
                  try clear q2
                  try clear hx2
                  try clear c3
                  try clear c5
                  try clear c6
                  try clear p6
                  try clear c7
                  try clear c7b0
                  try clear c7b1
                  try clear c8
                  try clear c13
                  try clear c13b0
                  try clear c14
                  try clear c14b0
                  try clear c19
                  try clear c20
                  try clear c20b0
                  try clear c20b1
                  try clear c21
                  try clear c21b0
                  try clear p26
                  try clear q26
                  try clear hx26
                  try clear hcz17_0
                  try clear hcz17_1
                  try clear hcz17_2
                  try clear hcz17_3
                  try clear hcz22_0
                  try clear hcz22_1
                  try clear hcz22_2
                  try clear hcz22_3
                  try clear hcz24_0
                  try clear hcz24_1
                  try clear hcz24_2
                  try clear hcz24_3
                  try clear hcz26_0
                  try clear hcz26_1
                  try clear hcz26_2
                  try clear hcz26_3
                  try clear hcz28_0
                  try clear hcz28_1
                  try clear hcz28_2
                  try clear hcz28_3
                  try clear hcz30_0
                  try clear hcz30_1
                  try clear hcz30_2
                  try clear hcz30_3
                  try clear hcz32_0
                  try clear hcz32_1
                  try clear hcz32_2
                  try clear hcz32_3
                  try clear hcz33_0
                  try clear hcz33_1
                  try clear hcz33_2
                  try clear hcz33_3
                  try clear hfz17_0
                  try clear hfz17_1
                  try clear hfz17_2
                  try clear hfz17_3
                  try clear hfz22_0
                  try clear hfz22_1
                  try clear hfz22_2
                  try clear hfz22_3
                  try clear hfz24_0
                  try clear hfz24_1
                  try clear hfz24_2
                  try clear hfz24_3
                  try clear hfz26_0
                  try clear hfz26_1
                  try clear hfz26_2
                  try clear hfz26_3
                  try clear hfz28_0
                  try clear hfz28_1
                  try clear hfz28_2
                  try clear hfz28_3
                  try clear hfz30_0
                  try clear hfz30_1
                  try clear hfz30_2
                  try clear hfz30_3
                  try clear hfz32_0
                  try clear hfz32_1
                  try clear hfz32_2
                  try clear hfz32_3
                  try clear hfz33_0
                  try clear hfz33_1
                  try clear hfz33_2
                  try clear hfz33_3
                  try clear hx262_0
                  try clear hx262_1
                  try clear hx262_2
                  try clear hx262_3
                  try clear p2
                  try clear p262
                  try clear q262
                  obtain ⟨kq, x64_14, rfl, HA, HJ14, HO_8, HO_9, BK263, HB⟩ := hcut
                  cases kq with
                  | zero => exact absurd HA.out (by simp [spec_Patch.j2])
                  | succ kj14 =>
                    have H := HA.out
                    clear HA
                    simp only [spec_Patch.j2] at H
                    by_cases c35 : x64_14 = true
                    · subst c35
                      have H1 : (some ((⟨#[]⟩ : ByteArray), false)) = some (r1, r2) := by rw [if_pos rfl] at H; exact H
                      clear H
                      have H := H1
                      clear H1
                      simp only [Option.some.injEq, Prod.mk.injEq] at H
                      obtain ⟨rfl, rfl⟩ := H
                      go_wp2
                      go_ret2
                      exact ⟨by first | rfl | (simp [errW_none, errW_some] <;> rfl) | (simp [*, errW_none, errW_some] <;> rfl), by repeat (first | (with_reducible first | exact HB.out | apply below_alloc | apply pw_below_drewN | apply below_drew1 | refine below_set ?_ GE263.out) | exact HB.out)⟩
                    · replace c35 := Bool.eq_false_iff.mpr c35
                      subst c35
                      have H1 : ((conv.f ((rd_T67 l2 x10_2).f1)).bind fun t265 => (if x9_2.length + t265.length < 140737488355328 then (spec_Patch.l1 kj14 l2 t256 (x9_2 ++ t265) x10_2 ((rd_T67 l2 x10_2).f2) ((rd_T67 l2 x10_2).f0) ((rd_T67 l2 x10_2).f1) ((rd_T67 l2 x10_2).f2) ((rd_T67 l2 x10_2).f3)) else (none))) = some (r1, r2) := by rw [if_neg (show ¬ (false = true) by decide)] at H; exact H
                      clear H
                      have H := H1
                      clear H1
                      replace H := Option.bind_eq_some_iff.mp H
                      obtain ⟨t265, A360, H⟩ := H
                      replace H : (if x9_2.length + t265.length < 140737488355328 then (spec_Patch.l1 kj14 l2 t256 (x9_2 ++ t265) x10_2 ((rd_T67 l2 x10_2).f2) ((rd_T67 l2 x10_2).f0) ((rd_T67 l2 x10_2).f1) ((rd_T67 l2 x10_2).f2) ((rd_T67 l2 x10_2).f3)) else (none)) = some (r1, r2) := H
                      have A36 := Aside0.mk A360
                      clear A360
                      by_cases c37 : x9_2.length + t265.length < 140737488355328
                      · rw [if_pos c37] at H
                        have LMc37 := Aside0.mk c37
                        clear c37
                        obtain ⟨y268, hy268⟩ : ∃ y_ : List Int, y_ = (x9_2 ++ t265) := ⟨_, rfl⟩
                        replace H : (spec_Patch.l1 kj14 l2 t256 y268 x10_2 ((rd_T67 l2 x10_2).f2) ((rd_T67 l2 x10_2).f0) ((rd_T67 l2 x10_2).f1) ((rd_T67 l2 x10_2).f2) ((rd_T67 l2 x10_2).f3)) = some (r1, r2) := by first | (rw [hy268]; with_reducible exact H) | (have H2_ := (Option.bind_some _ _).symm.trans H; rw [hy268]; with_reducible exact H2_) | (have H2_ := (Option.bind_some _ _).symm.trans H; with_reducible exact H2_) | with_reducible exact H | (rw [hy268]; exact H) | exact H
                        have Ny268 := Aside0.mk hy268
                        clear hy268
                        have H' := Aside0.mk H
                        clear H
                        have hcz38_0 : wc.cell? ⟨gb263, 0, none⟩ = some (.int .i64 ((rd_T67 l2 x10_2).f0)) := (blk_cell BK263.out 0).trans rfl
                        have hcz38_1 : wc.cell? ⟨gb263, 1, none⟩ = some (.string ((rd_T67 l2 x10_2).f1)) := (blk_cell BK263.out 1).trans rfl
                        have hcz38_2 : wc.cell? ⟨gb263, 2, none⟩ = some (.int .i64 ((rd_T67 l2 x10_2).f2)) := (blk_cell BK263.out 2).trans rfl
                        have hcz38_3 : wc.cell? ⟨gb263, 3, none⟩ = some (.int .i64 ((rd_T67 l2 x10_2).f3)) := (blk_cell BK263.out 3).trans rfl
                        have hfz38_0 := blk_frozen BK263.out 0
                        have hfz38_1 := blk_frozen BK263.out 1
                        have hfz38_2 := blk_frozen BK263.out 2
                        have hfz38_3 := blk_frozen BK263.out 3
                        go_wp2_with (first | ((with_reducible refine gate_dst (N := 68) rfl ?_); (try (refine gate_guard (by rfl) ?_; dsimp only)); refine conv_wp ?hg (N := 68) ?hd _ 9 22 5 rfl (((rd_T67 l2 x10_2).f1)) rfl Try.underlying9 Try.underlying22 Try.underlying5 A36.out ?_; (case hd => rfl); (case hg => rfl); rintro e w39 ⟨v266, rfl, ho0, hb⟩; refine ⟨_, rfl, ?_⟩; have n0_ := Aside0.mk (Kd.R_below (by (with_reducible repeat (first | apply Kd.R_alloc | apply Kd.R_drewN | apply Kd.R_drew)); exact HO_8.out) hb); have n1_ := Aside0.mk (Kd.R_below (by (with_reducible repeat (first | apply Kd.R_alloc | apply Kd.R_drewN | apply Kd.R_drew)); exact HO_9.out) hb); have n2_ := Aside0.mk (Kd.V_lower (Kd.V_mono (ok' := fun k_ => some k_ ≠ (v257 : Value).ownBlock ∧ some k_ ≠ (u9 : Value).ownBlock ∧ k_ ≠ gb263) ho0 (fun k_ hk_ => ⟨(Kd.fresh' (Kd.R_lt (by (with_reducible repeat (first | apply Kd.R_alloc | apply Kd.R_drewN | apply Kd.R_drew)); exact HO_8.out)) k_ hk_), (Kd.fresh' (Kd.R_lt (by (with_reducible repeat (first | apply Kd.R_alloc | apply Kd.R_drewN | apply Kd.R_drew)); exact HO_9.out)) k_ hk_), (Kd.freshB (g := gb263) (o := .cells #[.int .i64 ((rd_T67 l2 x10_2).f0), .string ((rd_T67 l2 x10_2).f1), .int .i64 ((rd_T67 l2 x10_2).f2), .int .i64 ((rd_T67 l2 x10_2).f3)] 67 (0, 0)) (by (with_reducible repeat (first | refine blk_drewN ?_ _ | refine blk_drew ?_ | refine blk_alloc ?_ _)); exact BK263.out) k_ hk_)⟩)) (below_size (by repeat (first | (with_reducible first | exact HB.out | apply below_alloc | apply pw_below_drewN | apply below_drew1 | refine below_set ?_ GE263.out) | exact HB.out)))); have n3_ := Aside0.mk (blk_below (g := gb263) (o := .cells #[.int .i64 ((rd_T67 l2 x10_2).f0), .string ((rd_T67 l2 x10_2).f1), .int .i64 ((rd_T67 l2 x10_2).f2), .int .i64 ((rd_T67 l2 x10_2).f3)] 67 (0, 0)) (by (with_reducible repeat (first | refine blk_drewN ?_ _ | refine blk_drew ?_ | refine blk_alloc ?_ _)); exact BK263.out) hb); have n4_ := Aside0.mk (below_step (by repeat (first | (with_reducible first | exact HB.out | apply below_alloc | apply pw_below_drewN | apply below_drew1 | refine below_set ?_ GE263.out) | exact HB.out)) hb); clear HO_8; clear HO_9; clear BK263; clear HB; have HO_8 := n0_; have HO_9 := n1_; have HO267 := n2_; have BK263 := n3_; have HB := n4_; clear n0_ n1_ n2_ n3_ n4_; (try clear hb); (try clear hb2); (try clear hk); (try clear hi); (try clear ho0); obtain ⟨Ao41, co41, eo41⟩ := Kd.V_slice HO267.out; subst eo41) | ((with_reducible refine gate_builtin (b := .append) (xs := #[.tmp 65, .tmp 68]) rfl ?_); (try (refine gate_guard (by rfl) ?_; dsimp only)); at_builtin; refine Kd.R_append_rows (Kd.int .u8) (w0 := w) w.heap.size rfl (.tmp 65) (.tmp 68) 22 5 (.int .u8 0) 1 rfl Try.underlying22 info5 rfl (by decide) (by omega) u9 x9_2 t265 _ _ _ (fun _ => True) (fun _ => False) rfl rfl ?aO ?aR (fun _ _ h => h) (fun _ h => h.elim) ?aF ?aB ?aS ?aL ?_; (case aR => repeat (first | exact (Kd.V_reads' HO267.out).2.2 | (with_reducible refine Kd.C_alloc ?_ _) | (with_reducible refine Kd.C_drewN ?_ _) | (with_reducible refine Kd.C_drew ?_))); (case aB => exact (by repeat (first | (with_reducible first | exact HB.out | apply below_alloc | apply pw_below_drewN | apply below_drew1 | refine below_set ?_ GE263.out) | exact HB.out))); (case aF => exact (fun _ _ => trivial)); (case aO => exact (by (with_reducible repeat (first | apply Kd.R_alloc | apply Kd.R_drewN | apply Kd.R_drew)); exact HO_9.out)); (case aS => exact (below_size (by repeat (first | (with_reducible first | exact HB.out | apply below_alloc | apply pw_below_drewN | apply below_drew1 | refine below_set ?_ GE263.out) | exact HB.out)))); (case aL => have := LMc37.out; omega); intro v269 w40 ho hb hg hat; rw [← Ny268.out] at ho; have n0_ := Aside0.mk (Kd.R_over' (by (with_reducible repeat (first | apply Kd.R_alloc | apply Kd.R_drewN | apply Kd.R_drew)); exact HO_8.out) (Kd.R_typed (by (with_reducible repeat (first | apply Kd.R_alloc | apply Kd.R_drewN | apply Kd.R_drew)); exact HO_9.out)) (by decide) hg); have n1_ := Aside0.mk (blk_grown (g := gb263) (o := .cells #[.int .i64 ((rd_T67 l2 x10_2).f0), .string ((rd_T67 l2 x10_2).f1), .int .i64 ((rd_T67 l2 x10_2).f2), .int .i64 ((rd_T67 l2 x10_2).f3)] 67 (0, 0)) (by (with_reducible repeat (first | refine blk_drewN ?_ _ | refine blk_drew ?_ | refine blk_alloc ?_ _)); exact BK263.out) hg (Kd.R_ne HO_9.out BK263.out (by decide))); have n2_ := Aside0.mk (Kd.V_afterv (ok := (fun k_ => some k_ ≠ (v257 : Value).ownBlock ∧ k_ ≠ gb263)) (by (with_reducible repeat (first | apply Kd.V_alloc | apply Kd.V_drewN | apply Kd.V_drew)); exact Kd.V_mono HO267.out (fun _ hk => ⟨⟨hk.1, hk.2.2⟩, hk.2.1⟩)) hg hat); have n3_ := Aside0.mk (hb); have n4_ := Aside0.mk (ho); clear HO_8; clear BK263; clear HO267; clear HB; clear HO_9; have HO_8 := n0_; have BK263 := n1_; have HO267 := n2_; have HB := n3_; have HO270 := n4_; clear n0_ n1_ n2_ n3_ n4_; clear ho hb hg hat; have hcz42_0 : w40.cell? ⟨gb263, 0, none⟩ = some (.int .i64 ((rd_T67 l2 x10_2).f0)) := (blk_cell BK263.out 0).trans rfl; have hcz42_1 : w40.cell? ⟨gb263, 1, none⟩ = some (.string ((rd_T67 l2 x10_2).f1)) := (blk_cell BK263.out 1).trans rfl; have hcz42_2 : w40.cell? ⟨gb263, 2, none⟩ = some (.int .i64 ((rd_T67 l2 x10_2).f2)) := (blk_cell BK263.out 2).trans rfl; have hcz42_3 : w40.cell? ⟨gb263, 3, none⟩ = some (.int .i64 ((rd_T67 l2 x10_2).f3)) := (blk_cell BK263.out 3).trans rfl; have hfz42_0 := blk_frozen BK263.out 0; have hfz42_1 := blk_frozen BK263.out 1; have hfz42_2 := blk_frozen BK263.out 2; have hfz42_3 := blk_frozen BK263.out 3))
                        go_loopg [9, 12] kj14 (fun kq v9 v12 w' => ∃ (x9_4 : List Int) (x12_4 : Int), v12 = .int .i64 x12_4 ∧ Aside0 (spec_Patch.l1 kq l2 t256 x9_4 x10_2 x12_4 ((rd_T67 l2 x10_2).f0) ((rd_T67 l2 x10_2).f1) ((rd_T67 l2 x10_2).f2) ((rd_T67 l2 x10_2).f3) = some (r1, r2)) ∧ Aside0 (kq ≤ kj14) ∧ Aside0 (Kd.R Kd.string 9 w' w.heap.size (fun _ => True) v257 t256) ∧ Aside0 (Kd.R (Kd.int .u8) 5 w' w.heap.size (fun _ => True) v9 x9_4) ∧ Aside0 (w'.heap[gb263]? = some (.cells #[.int .i64 ((rd_T67 l2 x10_2).f0), .string ((rd_T67 l2 x10_2).f1), .int .i64 ((rd_T67 l2 x10_2).f2), .int .i64 ((rd_T67 l2 x10_2).f3)] 67 (0, 0))) ∧ Aside0 (Below w.heap.size w w'))
                        case atStart => exact ⟨(y268), (((rd_T67 l2 x10_2).f2)), (by first | rfl | (simp; done) | (simp [*]; done)), H', ⟨Nat.le_refl _⟩, ⟨by (with_reducible repeat (first | apply Kd.R_alloc | apply Kd.R_drewN | apply Kd.R_drew)); exact HO_8.out⟩, ⟨by (with_reducible repeat (first | apply Kd.R_alloc | apply Kd.R_drewN | apply Kd.R_drew)); exact HO270.out⟩, ⟨by (with_reducible repeat (first | refine blk_drewN ?_ _ | refine blk_drew ?_ | refine blk_alloc ?_ _)); exact BK263.out⟩, ⟨by repeat (first | (with_reducible first | exact HB.out | apply below_alloc | apply pw_below_drewN | apply below_drew1 | refine below_set ?_ GE263.out) | exact HB.out)⟩⟩
                        case round =>
                          clear H'
                          try clear c1
                          try clear c2
                          try clear p2
                          try clear q2
                          try clear hx2
                          try clear c3
                          try clear c5
                          try clear c6
                          try clear p6
                          try clear c7
                          try clear c7b0
                          try clear c7b1
                          try clear c8
                          try clear c13
                          try clear c13b0
                          try clear c14
                          try clear c14b0
                          try clear c19
                          try clear c20
                          try clear c20b0
                          try clear c20b1
                          try clear c21
                          try clear c21b0
                          try clear p26
                          try clear q26
                          try clear hx26
                          try clear c35
                          try clear c37
                          try clear c38
                          try clear hcz17_0
                          try clear hcz17_1
                          try clear hcz17_2
                          try clear hcz17_3
                          try clear hcz22_0
                          try clear hcz22_1
                          try clear hcz22_2
                          try clear hcz22_3
                          try clear hcz24_0
                          try clear hcz24_1
                          try clear hcz24_2
                          try clear hcz24_3
                          try clear hcz26_0
                          try clear hcz26_1
                          try clear hcz26_2
                          try clear hcz26_3
                          try clear hcz28_0
                          try clear hcz28_1
                          try clear hcz28_2
                          try clear hcz28_3
                          try clear hcz30_0
                          try clear hcz30_1
                          try clear hcz30_2
                          try clear hcz30_3
                          try clear hcz32_0
                          try clear hcz32_1
                          try clear hcz32_2
                          try clear hcz32_3
                          try clear hcz33_0
                          try clear hcz33_1
                          try clear hcz33_2
                          try clear hcz33_3
                          try clear hcz38_0
                          try clear hcz38_1
                          try clear hcz38_2
                          try clear hcz38_3
                          try clear hcz42_0
                          try clear hcz42_1
                          try clear hcz42_2
                          try clear hcz42_3
                          try clear hfz17_0
                          try clear hfz17_1
                          try clear hfz17_2
                          try clear hfz17_3
                          try clear hfz22_0
                          try clear hfz22_1
                          try clear hfz22_2
                          try clear hfz22_3
                          try clear hfz24_0
                          try clear hfz24_1
                          try clear hfz24_2
                          try clear hfz24_3
                          try clear hfz26_0
                          try clear hfz26_1
                          try clear hfz26_2
                          try clear hfz26_3
                          try clear hfz28_0
                          try clear hfz28_1
                          try clear hfz28_2
                          try clear hfz28_3
                          try clear hfz30_0
                          try clear hfz30_1
                          try clear hfz30_2
                          try clear hfz30_3
                          try clear hfz32_0
                          try clear hfz32_1
                          try clear hfz32_2
                          try clear hfz32_3
                          try clear hfz33_0
                          try clear hfz33_1
                          try clear hfz33_2
                          try clear hfz33_3
                          try clear hfz38_0
                          try clear hfz38_1
                          try clear hfz38_2
                          try clear hfz38_3
                          try clear hfz42_0
                          try clear hfz42_1
                          try clear hfz42_2
                          try clear hfz42_3
                          try clear hx262_0
                          try clear hx262_1
                          try clear hx262_2
                          try clear hx262_3
                          try clear p2
                          try clear p26
                          try clear p262
                          try clear p6
                          try clear q2
                          try clear q26
                          try clear q262
                          obtain ⟨x9_4, x12_4, rfl, HA, HK4, HO_8, HO_9, BK263, HB⟩ := hrel
                          cases gk with
                          | zero => exact absurd HA.out (by simp [spec_Patch.l1])
                          | succ k4 =>
                            have H := HA.out
                            clear HA
                            simp only [spec_Patch.l1] at H
                            by_cases c43 : x12_4 < (wrap64 (((rd_T67 l2 x10_2).f2) + ((rd_T67 l2 x10_2).f3)))
                            · rw [if_pos c43] at H
                              have c43b0 : decide (x12_4 < (wrap64 (((rd_T67 l2 x10_2).f2) + ((rd_T67 l2 x10_2).f3)))) = true := decide_eq_true c43
                              clear c43
                              by_cases c44 : 0 ≤ x12_4
                              · rw [if_pos c44] at H
                                have c44b0 : decide (0 ≤ x12_4) = true := decide_eq_true c44
                                clear c44
                                by_cases c45 : x12_4 < (t256.length : Int)
                                · rw [if_pos c45] at H
                                  have c45b0 : decide (x12_4 < (t256.length : Int)) = true := decide_eq_true c45
                                  clear c45
                                  replace H := Option.bind_eq_some_iff.mp H
                                  obtain ⟨t272, A460, H⟩ := H
                                  replace H : (if x9_4.length + t272.length < 140737488355328 then (spec_Patch.l1 k4 l2 t256 (x9_4 ++ t272) x10_2 (wrap64 (x12_4 + 1)) ((rd_T67 l2 x10_2).f0) ((rd_T67 l2 x10_2).f1) ((rd_T67 l2 x10_2).f2) ((rd_T67 l2 x10_2).f3)) else (none)) = some (r1, r2) := H
                                  have A46 := Aside0.mk A460
                                  clear A460
                                  by_cases c47 : x9_4.length + t272.length < 140737488355328
                                  · rw [if_pos c47] at H
                                    have LMc47 := Aside0.mk c47
                                    clear c47
                                    obtain ⟨y275, hy275⟩ : ∃ y_ : List Int, y_ = (x9_4 ++ t272) := ⟨_, rfl⟩
                                    replace H : (spec_Patch.l1 k4 l2 t256 y275 x10_2 (wrap64 (x12_4 + 1)) ((rd_T67 l2 x10_2).f0) ((rd_T67 l2 x10_2).f1) ((rd_T67 l2 x10_2).f2) ((rd_T67 l2 x10_2).f3)) = some (r1, r2) := by first | (rw [hy275]; with_reducible exact H) | (have H2_ := (Option.bind_some _ _).symm.trans H; rw [hy275]; with_reducible exact H2_) | (have H2_ := (Option.bind_some _ _).symm.trans H; with_reducible exact H2_) | with_reducible exact H | (rw [hy275]; exact H) | exact H
                                    have Ny275 := Aside0.mk hy275
                                    clear hy275
                                    have H' := Aside0.mk H
                                    clear H
                                    have hcz48_0 : wr.cell? ⟨gb263, 0, none⟩ = some (.int .i64 ((rd_T67 l2 x10_2).f0)) := (blk_cell BK263.out 0).trans rfl
                                    have hcz48_1 : wr.cell? ⟨gb263, 1, none⟩ = some (.string ((rd_T67 l2 x10_2).f1)) := (blk_cell BK263.out 1).trans rfl
                                    have hcz48_2 : wr.cell? ⟨gb263, 2, none⟩ = some (.int .i64 ((rd_T67 l2 x10_2).f2)) := (blk_cell BK263.out 2).trans rfl
                                    have hcz48_3 : wr.cell? ⟨gb263, 3, none⟩ = some (.int .i64 ((rd_T67 l2 x10_2).f3)) := (blk_cell BK263.out 3).trans rfl
                                    have hfz48_0 := blk_frozen BK263.out 0
                                    have hfz48_1 := blk_frozen BK263.out 1
                                    have hfz48_2 := blk_frozen BK263.out 2
                                    have hfz48_3 := blk_frozen BK263.out 3
                                    obtain ⟨Ao49, co49, eo49⟩ := Kd.R_slice HO_8.out
                                    subst eo49
                                    have p271 : 0 ≤ (x12_4 : Int) := of_decide_eq_true (by first | (with_reducible assumption) | assumption)
                                    have q271 : x12_4 < (t256.length : Int) := of_decide_eq_true (by first | (with_reducible assumption) | assumption)
                                    obtain ⟨ad271, e271, hx271_0⟩ := Kd.at_string (Kd.R_reads' HO_8.out).2.2 x12_4 p271 q271
                                    cases e271
                                    replace p271 := eq_true p271
                                    replace q271 := eq_true q271
                                    go_wp2_with (first | ((with_reducible refine gate_dst (N := 86) rfl ?_); (try (refine gate_guard (by rfl) ?_; dsimp only)); refine conv_wp ?hg (N := 86) ?hd _ 9 22 5 rfl (rdOf ByteArray.empty t256 x12_4) rfl Try.underlying9 Try.underlying22 Try.underlying5 A46.out ?_; (case hd => rfl); (case hg => rfl); rintro e w50 ⟨v273, rfl, ho0, hb⟩; refine ⟨_, rfl, ?_⟩; have n0_ := Aside0.mk (Kd.R_below (by (with_reducible repeat (first | apply Kd.R_alloc | apply Kd.R_drewN | apply Kd.R_drew)); exact HO_8.out) hb); have n1_ := Aside0.mk (Kd.R_below (by (with_reducible repeat (first | apply Kd.R_alloc | apply Kd.R_drewN | apply Kd.R_drew)); exact HO_9.out) hb); have n2_ := Aside0.mk (Kd.V_lower (Kd.V_mono (ok' := fun k_ => some k_ ≠ (.slice (some ad271) t256.length co49 : Value).ownBlock ∧ some k_ ≠ (u9 : Value).ownBlock ∧ k_ ≠ gb263) ho0 (fun k_ hk_ => ⟨(Kd.fresh' (Kd.R_lt (by (with_reducible repeat (first | apply Kd.R_alloc | apply Kd.R_drewN | apply Kd.R_drew)); exact HO_8.out)) k_ hk_), (Kd.fresh' (Kd.R_lt (by (with_reducible repeat (first | apply Kd.R_alloc | apply Kd.R_drewN | apply Kd.R_drew)); exact HO_9.out)) k_ hk_), (Kd.freshB (g := gb263) (o := .cells #[.int .i64 ((rd_T67 l2 x10_2).f0), .string ((rd_T67 l2 x10_2).f1), .int .i64 ((rd_T67 l2 x10_2).f2), .int .i64 ((rd_T67 l2 x10_2).f3)] 67 (0, 0)) (by (with_reducible repeat (first | refine blk_drewN ?_ _ | refine blk_drew ?_ | refine blk_alloc ?_ _)); exact BK263.out) k_ hk_)⟩)) (below_size (by repeat (first | (with_reducible first | exact HB.out | apply below_alloc | apply pw_below_drewN | apply below_drew1 | refine below_set ?_ GE263.out) | exact HB.out)))); have n3_ := Aside0.mk (blk_below (g := gb263) (o := .cells #[.int .i64 ((rd_T67 l2 x10_2).f0), .string ((rd_T67 l2 x10_2).f1), .int .i64 ((rd_T67 l2 x10_2).f2), .int .i64 ((rd_T67 l2 x10_2).f3)] 67 (0, 0)) (by (with_reducible repeat (first | refine blk_drewN ?_ _ | refine blk_drew ?_ | refine blk_alloc ?_ _)); exact BK263.out) hb); have n4_ := Aside0.mk (below_step (by repeat (first | (with_reducible first | exact HB.out | apply below_alloc | apply pw_below_drewN | apply below_drew1 | refine below_set ?_ GE263.out) | exact HB.out)) hb); clear HO_8; clear HO_9; clear BK263; clear HB; have HO_8 := n0_; have HO_9 := n1_; have HO274 := n2_; have BK263 := n3_; have HB := n4_; clear n0_ n1_ n2_ n3_ n4_; (try clear hb); (try clear hb2); (try clear hk); (try clear hi); (try clear ho0); obtain ⟨Ao52, co52, eo52⟩ := Kd.V_slice HO274.out; subst eo52) | ((with_reducible refine gate_builtin (b := .append) (xs := #[.tmp 81, .tmp 86]) rfl ?_); (try (refine gate_guard (by rfl) ?_; dsimp only)); at_builtin; refine Kd.R_append_rows (Kd.int .u8) (w0 := w) w.heap.size rfl (.tmp 81) (.tmp 86) 22 5 (.int .u8 0) 1 rfl Try.underlying22 info5 rfl (by decide) (by omega) u9 x9_4 t272 _ _ _ (fun _ => True) (fun _ => False) rfl rfl ?aO ?aR (fun _ _ h => h) (fun _ h => h.elim) ?aF ?aB ?aS ?aL ?_; (case aR => repeat (first | exact (Kd.V_reads' HO274.out).2.2 | (with_reducible refine Kd.C_alloc ?_ _) | (with_reducible refine Kd.C_drewN ?_ _) | (with_reducible refine Kd.C_drew ?_))); (case aB => exact (by repeat (first | (with_reducible first | exact HB.out | apply below_alloc | apply pw_below_drewN | apply below_drew1 | refine below_set ?_ GE263.out) | exact HB.out))); (case aF => exact (fun _ _ => trivial)); (case aO => exact (by (with_reducible repeat (first | apply Kd.R_alloc | apply Kd.R_drewN | apply Kd.R_drew)); exact HO_9.out)); (case aS => exact (below_size (by repeat (first | (with_reducible first | exact HB.out | apply below_alloc | apply pw_below_drewN | apply below_drew1 | refine below_set ?_ GE263.out) | exact HB.out)))); (case aL => have := LMc47.out; omega); intro v276 w51 ho hb hg hat; rw [← Ny275.out] at ho; have n0_ := Aside0.mk (Kd.R_over' (by (with_reducible repeat (first | apply Kd.R_alloc | apply Kd.R_drewN | apply Kd.R_drew)); exact HO_8.out) (Kd.R_typed (by (with_reducible repeat (first | apply Kd.R_alloc | apply Kd.R_drewN | apply Kd.R_drew)); exact HO_9.out)) (by decide) hg); have n1_ := Aside0.mk (blk_grown (g := gb263) (o := .cells #[.int .i64 ((rd_T67 l2 x10_2).f0), .string ((rd_T67 l2 x10_2).f1), .int .i64 ((rd_T67 l2 x10_2).f2), .int .i64 ((rd_T67 l2 x10_2).f3)] 67 (0, 0)) (by (with_reducible repeat (first | refine blk_drewN ?_ _ | refine blk_drew ?_ | refine blk_alloc ?_ _)); exact BK263.out) hg (Kd.R_ne HO_9.out BK263.out (by decide))); have n2_ := Aside0.mk (Kd.V_afterv (ok := (fun k_ => some k_ ≠ (.slice (some ad271) t256.length co49 : Value).ownBlock ∧ k_ ≠ gb263)) (by (with_reducible repeat (first | apply Kd.V_alloc | apply Kd.V_drewN | apply Kd.V_drew)); exact Kd.V_mono HO274.out (fun _ hk => ⟨⟨hk.1, hk.2.2⟩, hk.2.1⟩)) hg hat); have n3_ := Aside0.mk (hb); have n4_ := Aside0.mk (ho); clear HO_8; clear BK263; clear HO274; clear HB; clear HO_9; have HO_8 := n0_; have BK263 := n1_; have HO274 := n2_; have HB := n3_; have HO277 := n4_; clear n0_ n1_ n2_ n3_ n4_; clear ho hb hg hat))
                                    go_roundg k4
                                    case measure => have := HJ3.out; have := HK2.out; have := HJ14.out; have := HK4.out; omega
                                    case rel => exact ⟨(y275), (wrap64 (x12_4 + 1)), (by first | rfl | (simp; done) | (simp [*]; done)), H', ⟨by have := HJ3.out; have := HK2.out; have := HJ14.out; have := HK4.out; omega⟩, ⟨by (with_reducible repeat (first | apply Kd.R_alloc | apply Kd.R_drewN | apply Kd.R_drew)); exact HO_8.out⟩, ⟨by (with_reducible repeat (first | apply Kd.R_alloc | apply Kd.R_drewN | apply Kd.R_drew)); exact HO277.out⟩, ⟨by (with_reducible repeat (first | refine blk_drewN ?_ _ | refine blk_drew ?_ | refine blk_alloc ?_ _)); exact BK263.out⟩, ⟨by repeat (first | (with_reducible first | exact HB.out | apply below_alloc | apply pw_below_drewN | apply below_drew1 | refine below_set ?_ GE263.out) | exact HB.out)⟩⟩
                                  · rw [if_neg c47] at H
                                    exact absurd H (by simp)
                                · rw [if_neg c45] at H
                                  exact absurd H (by simp)
                              · rw [if_neg c44] at H
                                exact absurd H (by simp)
                            · rw [if_neg c43] at H
                              have c43b0 : decide (x12_4 < (wrap64 (((rd_T67 l2 x10_2).f2) + ((rd_T67 l2 x10_2).f3)))) = false := decide_eq_false c43
                              clear c43
                              by_cases c53 : (x9_4.length : Int) > 20000
                              · rw [if_pos c53] at H
                                have c53b0 : decide (20000 < (x9_4.length : Int)) = true := decide_eq_true c53
                                have c53b1 : decide (20000 < x9_4.length) = true := decide_eq_true (by omega)
                                clear c53
                                simp only [Option.some.injEq, Prod.mk.injEq] at H
                                obtain ⟨rfl, rfl⟩ := H
                                have hcz54_0 : wr.cell? ⟨gb263, 0, none⟩ = some (.int .i64 ((rd_T67 l2 x10_2).f0)) := (blk_cell BK263.out 0).trans rfl
                                have hcz54_1 : wr.cell? ⟨gb263, 1, none⟩ = some (.string ((rd_T67 l2 x10_2).f1)) := (blk_cell BK263.out 1).trans rfl
                                have hcz54_2 : wr.cell? ⟨gb263, 2, none⟩ = some (.int .i64 ((rd_T67 l2 x10_2).f2)) := (blk_cell BK263.out 2).trans rfl
                                have hcz54_3 : wr.cell? ⟨gb263, 3, none⟩ = some (.int .i64 ((rd_T67 l2 x10_2).f3)) := (blk_cell BK263.out 3).trans rfl
                                have hfz54_0 := blk_frozen BK263.out 0
                                have hfz54_1 := blk_frozen BK263.out 1
                                have hfz54_2 := blk_frozen BK263.out 2
                                have hfz54_3 := blk_frozen BK263.out 3
                                obtain ⟨Ao55, co55, eo55⟩ := Kd.R_slice HO_9.out
                                subst eo55
                                go_wp2
                                go_ret2
                                exact ⟨by first | rfl | (simp [errW_none, errW_some] <;> rfl) | (simp [*, errW_none, errW_some] <;> rfl), by repeat (first | (with_reducible first | exact HB.out | apply below_alloc | apply pw_below_drewN | apply below_drew1 | refine below_set ?_ GE263.out) | exact HB.out)⟩
                              · rw [if_neg c53] at H
                                have c53b0 : decide (20000 < (x9_4.length : Int)) = false := decide_eq_false c53
                                have c53b1 : decide (20000 < x9_4.length) = false := decide_eq_false (by omega)
                                clear c53
                                have H' := Aside0.mk H
                                clear H
                                have hcz56_0 : wr.cell? ⟨gb263, 0, none⟩ = some (.int .i64 ((rd_T67 l2 x10_2).f0)) := (blk_cell BK263.out 0).trans rfl
                                have hcz56_1 : wr.cell? ⟨gb263, 1, none⟩ = some (.string ((rd_T67 l2 x10_2).f1)) := (blk_cell BK263.out 1).trans rfl
                                have hcz56_2 : wr.cell? ⟨gb263, 2, none⟩ = some (.int .i64 ((rd_T67 l2 x10_2).f2)) := (blk_cell BK263.out 2).trans rfl
                                have hcz56_3 : wr.cell? ⟨gb263, 3, none⟩ = some (.int .i64 ((rd_T67 l2 x10_2).f3)) := (blk_cell BK263.out 3).trans rfl
                                have hfz56_0 := blk_frozen BK263.out 0
                                have hfz56_1 := blk_frozen BK263.out 1
                                have hfz56_2 := blk_frozen BK263.out 2
                                have hfz56_3 := blk_frozen BK263.out 3
                                obtain ⟨Ao57, co57, eo57⟩ := Kd.R_slice HO_9.out
                                subst eo57
                                go_wp2
                                go_roundg k4
                                case measure => have := HJ3.out; have := HK2.out; have := HJ14.out; have := HK4.out; omega
                                case rel => exact ⟨(x9_4), (wrap64 (x10_2 + 1)), (by first | rfl | (simp; done) | (simp [*]; done)), H', ⟨by have := HJ3.out; have := HK2.out; have := HJ14.out; have := HK4.out; omega⟩, ⟨by (with_reducible repeat (first | apply Kd.R_alloc | apply Kd.R_drewN | apply Kd.R_drew)); exact HO_8.out⟩, ⟨by (with_reducible repeat (first | apply Kd.R_alloc | apply Kd.R_drewN | apply Kd.R_drew)); exact HO_9.out⟩, ⟨by repeat (first | (with_reducible first | exact HB.out | apply below_alloc | apply pw_below_drewN | apply below_drew1 | refine below_set ?_ GE263.out) | exact HB.out)⟩⟩
                      · rw [if_neg c37] at H
                        exact absurd H (by simp)
              · rw [if_neg c14] at H
                exact absurd H (by simp)
            · rw [if_neg c13] at H
              have c13b0 : decide (x10_2 < (l2.length : Int)) = false := decide_eq_false c13
              clear c13
              simp only [Option.some.injEq, Prod.mk.injEq] at H
              obtain ⟨rfl, rfl⟩ := H
              have hcv58 := own_string (P := Try.prog) Try.underlying22 Try.underlying5 Try.underlying9 (Kd.own_of_R HO_9.out)
              go_wp2
              go_ret2
              exact ⟨by first | rfl | (simp [errW_none, errW_some] <;> rfl) | (simp [*, errW_none, errW_some] <;> rfl), by repeat (first | (with_reducible first | exact HB.out | apply below_alloc | apply pw_below_drewN | apply below_drew1) | exact HB.out)⟩

end Go.Proofs.Ytbkodnhnadkhdaa.PCm
