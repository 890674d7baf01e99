-- Made by a program of this session (tools/pr.sh) out of the translation; Lean checks it.
import Derived.Test.YtbkodnhnadkhdaaDoorPTrx0
import Derived.Test.YtbkodnhnadkhdaaDoorPTrx8
import Derived.Test.YtbkodnhnadkhdaaDoorPTrx9
namespace Go.Proofs.YtbkodnhnadkhdaaDoor.PTr
open Go.RowKit Go.Proofs.YtbkodnhnadkhdaaDoorW.PrintWords Go.Proofs.YtbkodnhnadkhdaaDoorW.PrintLast Go.Proofs.YtbkodnhnadkhdaaDoorW.PrintMore
attribute [local go_sem] max2_int min2_int max_two min_two max_three min_three max_four min_four   -- for this text's walks alone
set_option linter.unusedVariables false
set_option linter.unusedSimpArgs false

/-! ### spec_l06Sums: function 83 -/
def spec_l06Sums.f (k : Nat) (a0 : Int) (a1 : ByteArray) (a2 : Int) : Option (Int × ByteArray) := if (a1.size : Int) < a2 then (some (0, (⟨#[]⟩ : ByteArray))) else (if 0 ≤ a2 then (if a2 ≤ (a1.size : Int) then ((spec_WeakOf.f k (a1.extract 0 (a2 : Int).toNat)).bind fun t243 => ((spec_ShortSum.f a0 (a1.extract 0 (a2 : Int).toNat) 4).bind fun t244 => (some (t243, t244)))) else (none)) else (none))
theorem spec_l06Sums.mono : ∀ a0 a1 a2 k, LeO (spec_l06Sums.f k a0 a1 a2) (spec_l06Sums.f (k + 1) a0 a1 a2) := by
 intro a0 a1 a2 k
 unfold spec_l06Sums.f
 repeat' first
  | (with_reducible exact spec_WeakOf.mono _ _)
  | (with_reducible exact LeO.refl _)
  | (with_reducible exact LeO.none _)
  | (with_reducible refine LeO.ite ?_ ?_)
  | (with_reducible refine LeO.bind ?_ (fun _ => ?_))
  | exact spec_WeakOf.mono _ _
  | exact LeO.none _
  | refine LeO.ite ?_ ?_
  | refine LeO.bind ?_ (fun _ => ?_)
def spec_l06Sums.T3 : Bool × List (List Nat × List Nat) := (true, [([], []), ([], []), ([0, 1], [0, 1]), ([2], [2]), ([], []), ([], []), ([], []), ([5, 6], [5, 6]), ([4, 7, 3], [4, 7]), ([3, 8, 0, 1, 2, 3], [3]), ([8, 9, 0, 1, 2, 3, 4, 5, 6, 7, 8, 9], [8])])
def spec_l06Sums.B3 : List Nat := [0, 0, 3, 7, 0, 0, 0, 96, 255, 511, 1023]
theorem spec_l06Sums.tab3 : rtab .any (opsOf Tryd.f83 3) = spec_l06Sums.T3 := by kernel_rfl
theorem spec_l06Sums.bits3 : waitsOk spec_l06Sums.T3.2 spec_l06Sums.B3 = true := by kernel_rfl
set_option maxHeartbeats 8000000 in
set_option maxRecDepth 100000 in
theorem spec_l06Sums.calls (k : Nat) (a0 : Int) (a1 : ByteArray) (a2 : Int) (r1 : Int) (r2 : ByteArray) (w : World) (h : spec_l06Sums.f k a0 a1 a2 = some (r1, r2)) :
 Calls Tryd.prog 83 #[.int .u32 a0, .string a1, .int .i64 a2] w fun e w' => e = .returned (.tuple #[.int .u32 r1, .string r2]) ∧ Below w.heap.size w w' := by
 have HB := Aside0.mk (Below.refl w.heap.size w)
 have H : (if (a1.size : Int) < a2 then (some (0, (⟨#[]⟩ : ByteArray))) else (if 0 ≤ a2 then (if a2 ≤ (a1.size : Int) then ((spec_WeakOf.f k (a1.extract 0 (a2 : Int).toNat)).bind fun t243 => ((spec_ShortSum.f a0 (a1.extract 0 (a2 : Int).toNat) 4).bind fun t244 => (some (t243, t244)))) else (none)) else (none))) = some (r1, r2) := h
 clear h
 by_cases c4 : (a1.size : Int) < a2
 ·
  rw [if_pos c4] at H
  have c4b0 : decide ((a1.size : Int) < a2) = true := decide_eq_true c4
  clear c4
  simp only [Option.some.injEq, Prod.mk.injEq] at H
  obtain ⟨rfl, rfl⟩ := H
  go_enter Tryd.func83, Tryd.ntmps83
  go_wp2
  go_ret2
  exact ⟨by first | rfl | (simp [errW_none, errW_some] <;> rfl) | (simp [*, errW_none, errW_some] <;> rfl), by repeat (first | exact HB.out | apply below_alloc | apply pw_below_drewN | apply below_drew1)⟩
 ·
  rw [if_neg c4] at H
  have c4b0 : decide ((a1.size : Int) < a2) = false := decide_eq_false c4
  clear c4
  by_cases c5 : 0 ≤ a2
  ·
   rw [if_pos c5] at H
   have c5b0 := eq_true c5
   have c5b1 : decide (0 ≤ a2) = true := decide_eq_true c5
   clear c5
   by_cases c6 : a2 ≤ (a1.size : Int)
   ·
    rw [if_pos c6] at H
    have c6b0 := eq_true c6
    have c6b1 : decide (a2 ≤ (a1.size : Int)) = true := decide_eq_true c6
    clear c6
    replace H := Option.bind_eq_some_iff.mp H
    obtain ⟨t243, A70, H⟩ := H
    replace H : ((spec_ShortSum.f a0 (a1.extract 0 (a2 : Int).toNat) 4).bind fun t244 => (some (t243, t244))) = some (r1, r2) := H
    have A7 := Aside0.mk A70
    clear A70
    have c8b0 := eq_true (of_decide_eq_true (by assumption) : 0 ≤ a2)
    have c9b0 := eq_true (of_decide_eq_true (by assumption) : a2 ≤ (a1.size : Int))
    replace H := Option.bind_eq_some_iff.mp H
    obtain ⟨t244, A100, H⟩ := H
    replace H : (some (t243, t244)) = some (r1, r2) := H
    have A10 := Aside0.mk A100
    clear A100
    simp only [Option.some.injEq, Prod.mk.injEq] at H
    obtain ⟨rfl, rfl⟩ := H
    go_enter Tryd.func83, Tryd.ntmps83
    try go_wp2
    have n0_ := Aside0.mk (below_drew1 HB.out)
    clear HB
    have HB := n0_
    clear n0_
    refine start_ (n := 11) (S := fun w' => True) (ds := []) (bm 11 0) (by kernel_rfl) rfl rfl trivial (fun hHeld => ?_); refine with_tabW spec_l06Sums.tab3 spec_l06Sums.bits3 (fun HT_ HW_ => ?_)
    generalize w.drew = w11 at HB hHeld ⊢
    refine pure_ (i := 0) (N := some 12) (v := ?_) (a' := ?_) (bm 11 1) rfl rfl (any_of HT_.out (by kernel_rfl)) (fun _ _ _ h => h) (Or.inl ⟨by rfl, ?_⟩) ?_ ?_; rotate_left; · (intro w'; go_simp; with_reducible rfl)
    rotate_left; · (simp only [Act.put, q1, q2, q3, q4, q5, q6, q7]; rfl)
    refine pure_ (i := 1) (N := some 13) (v := ?_) (a' := ?_) (bm 11 3) rfl rfl (any_of HT_.out (by kernel_rfl)) (fun _ _ _ h => h) (Or.inl ⟨by rfl, ?_⟩) ?_ ?_; rotate_left; · (intro w'; go_simp; with_reducible rfl)
    rotate_left; · (simp only [Act.put, q1, q2, q3, q4, q5, q6, q7]; rfl)
    refine pure_ (i := 2) (N := some 14) (v := ?_) (a' := ?_) (bm 11 7) rfl rfl (any_of HT_.out (by kernel_rfl)) (fun _ _ _ h => h) (Or.inl ⟨by rfl, ?_⟩) ?_ ?_; rotate_left; · (intro w'; go_simp; with_reducible rfl)
    rotate_left; · (simp only [Act.put, q1, q2, q3, q4, q5, q6, q7]; rfl)
    refine pure_ (i := 4) (N := some 16) (v := ?_) (a' := ?_) (bm 11 23) rfl rfl (any_of HT_.out (by kernel_rfl)) (fun _ _ _ h => h) (Or.inl ⟨by rfl, ?_⟩) ?_ ?_; rotate_left; · (intro w'; go_simp; with_reducible rfl)
    rotate_left; · (simp only [Act.put, q1, q2, q3, q4, q5, q6, q7]; rfl)
    refine pure_ (i := 5) (N := some 17) (v := ?_) (a' := ?_) (bm 11 55) rfl rfl (any_of HT_.out (by kernel_rfl)) (fun _ _ _ h => h) (Or.inl ⟨by rfl, ?_⟩) ?_ ?_; rotate_left; · (intro w'; go_simp; with_reducible rfl)
    rotate_left; · (simp only [Act.put, q1, q2, q3, q4, q5, q6, q7]; rfl)
    refine pure_ (i := 6) (N := some 18) (v := ?_) (a' := ?_) (bm 11 119) rfl rfl (any_of HT_.out (by kernel_rfl)) (fun _ _ _ h => h) (Or.inl ⟨by rfl, ?_⟩) ?_ ?_; rotate_left; · (intro w'; go_simp; with_reducible rfl)
    rotate_left; · (simp only [Act.put, q1, q2, q3, q4, q5, q6, q7]; rfl)
    refine pure_ (i := 7) (N := some 19) (v := ?_) (a' := ?_) (bm 11 247) rfl rfl (any_of HT_.out (by kernel_rfl)) (fun _ _ _ h => h) (Or.inl ⟨by rfl, ?_⟩) ?_ ?_; rotate_left; · (intro w'; go_simp; with_reducible rfl)
    rotate_left; · (simp only [Act.put, q1, q2, q3, q4, q5, q6, q7]; rfl)
    refine one_ (i := 3) (N := some 15) (bm 11 255) rfl rfl (one_of HT_.out (by kernel_rfl)) (by decide) (fun K hK => ?_)
    refine goes_ Tryd.func58 (by kernel_rfl) rfl #[.string (a1.extract 0 (a2 : Int).toNat)] (by rfl) rfl rfl (by (try simp only [List.map_toArray, List.map_cons, List.map_nil]); first | done | rfl | (simp only [List.length_drop, List.length_take]; rfl)) ?_
    with_reducible refine (spec_WeakOf.calls k (a1.extract 0 (a2 : Int).toNat) t243 _ A7.out).mono ?_
    rintro e w' ⟨rfl, ⟨nd, rfl⟩⟩
    refine ⟨_, rfl, ?_⟩
    refine hK.out _ _ trivial (fun hHeld => ?_)
    clear hK K
    refine norm_ (a' := ?_) ?_ ?_
    rotate_left
    ·
     show Act.put _ (some 15) _ = _
     simp only [Act.put, q1, q2, q3, q4, q5, q6, q7]
     rfl
    refine one_ (i := 8) (N := some 20) (bm 11 511) rfl rfl (one_of HT_.out (by kernel_rfl)) (by decide) (fun K hK => ?_)
    refine goes_ Tryd.func21 (by kernel_rfl) rfl #[.int .u32 a0, .string (a1.extract 0 (a2 : Int).toNat), .int .i64 4] (by rfl) rfl rfl (by (try simp only [List.map_toArray, List.map_cons, List.map_nil]); first | done | rfl | (simp only [List.length_drop, List.length_take]; rfl)) ?_
    with_reducible refine (spec_ShortSum.calls a0 (a1.extract 0 (a2 : Int).toNat) 4 t244 _ A10.out).mono ?_
    rintro e w12 ⟨rfl, hb⟩
    refine ⟨_, rfl, ?_⟩
    have n0_ := Aside0.mk (below_step (by repeat (first | exact HB.out | apply below_alloc | apply pw_below_drewN | apply below_drew1)) hb)
    clear HB
    have HB := n0_
    clear n0_
    (try clear hb)
    (try clear hb2)
    (try clear hk)
    (try clear hi)
    refine hK.out _ _ trivial (fun hHeld => ?_)
    clear hK K
    refine norm_ (a' := ?_) ?_ ?_
    rotate_left
    ·
     show Act.put _ (some 20) _ = _
     simp only [Act.put, q1, q2, q3, q4, q5, q6, q7]
     rfl
    refine pure_ (i := 9) (N := some 6) (v := ?_) (a' := ?_) (bm 11 1023) rfl rfl (any_of HT_.out (by kernel_rfl)) (fun _ _ _ h => h) (Or.inl ⟨by rfl, ?_⟩) ?_ ?_; rotate_left; · (intro w'; go_simp; with_reducible rfl)
    rotate_left; · (simp only [Act.put, q1, q2, q3, q4, q5, q6, q7]; rfl)
    refine pure_ (i := 10) (N := some 7) (v := ?_) (a' := ?_) (bm 11 2047) rfl rfl (any_of HT_.out (by kernel_rfl)) (fun _ _ _ h => h) (Or.inl ⟨by rfl, ?_⟩) ?_ ?_; rotate_left; · (intro w'; go_simp; with_reducible rfl)
    rotate_left; · (simp only [Act.put, q1, q2, q3, q4, q5, q6, q7]; rfl)
    refine done_ (done_of HT_.out (by kernel_rfl)) ?_
    try go_wp2
    go_ret2
    exact ⟨by first | rfl | (simp [errW_none, errW_some] <;> rfl) | (simp [*, errW_none, errW_some] <;> rfl), by repeat (first | exact HB.out | apply below_alloc | apply pw_below_drewN | apply below_drew1)⟩
   ·
    rw [if_neg c6] at H
    exact absurd H (by simp)
  ·
   rw [if_neg c5] at H
   exact absurd H (by simp)

/-! ### spec_l06Here: function 84 -/
def spec_l06Here.j0 : Nat → Int → Int → ByteArray → Int → ByteArray → Bool → Int → Int → List Int → List ByteArray → Option (Bool)
 | 0, _, _, _, _, _, _, _, _, _, _ => none
 | k + 1, x1, x2, x3, x4, x5, x21, x246000, x246001, x246002, x246003 => if x21 = true then (some false) else (if x1 = (wrap64 ((x246002.length : Int) - 1)) then (if x246001 > 0 then (if 0 ≤ x1 then (if x1 < (x246002.length : Int) then (if x4 = (rd x246002 x1) then (if x1 < (x246003.length : Int) then (some (x5.toList == (rdOf ByteArray.empty x246003 x1).toList)) else (none)) else (some false)) else (none)) else (none)) else (if 0 ≤ x1 then (if x1 < (x246002.length : Int) then (if x2 = (rd x246002 x1) then (if x1 < (x246003.length : Int) then (some (x3.toList == (rdOf ByteArray.empty x246003 x1).toList)) else (none)) else (some false)) else (none)) else (none))) else (if 0 ≤ x1 then (if x1 < (x246002.length : Int) then (if x2 = (rd x246002 x1) then (if x1 < (x246003.length : Int) then (some (x3.toList == (rdOf ByteArray.empty x246003 x1).toList)) else (none)) else (some false)) else (none)) else (none)))
def spec_l06Here.f (k : Nat) (a0_0 : Int) (a0_1 : Int) (l0_2 : List Int) (l0_3 : List ByteArray) (a1 : Int) (a2 : Int) (a3 : ByteArray) (a4 : Int) (a5 : ByteArray) : Option (Bool) := if a1 < 0 then (spec_l06Here.j0 k a1 a2 a3 a4 a5 true a0_0 a0_1 l0_2 l0_3) else (spec_l06Here.j0 k a1 a2 a3 a4 a5 (decide (a1 ≥ (l0_2.length : Int))) a0_0 a0_1 l0_2 l0_3)
theorem spec_l06Here.mono_l : ∀ k, (∀ y0 y1 y2 y3 y4 y5 y6 y7 y8 y9, LeO (spec_l06Here.j0 k y0 y1 y2 y3 y4 y5 y6 y7 y8 y9) (spec_l06Here.j0 (k + 1) y0 y1 y2 y3 y4 y5 y6 y7 y8 y9))
 | 0 => fun _ _ _ _ _ _ _ _ _ _ r h => by simp [spec_l06Here.j0] at h
 | k + 1 => by
  have ih0 := spec_l06Here.mono_l k
  ·
   intro y0 y1 y2 y3 y4 y5 y6 y7 y8 y9
   unfold spec_l06Here.j0
   repeat' first
   | (with_reducible exact ih0 _ _ _ _ _ _ _ _ _ _)
   | (with_reducible exact LeO.refl _)
   | (with_reducible exact LeO.none _)
   | (with_reducible refine LeO.ite ?_ ?_)
   | (with_reducible refine LeO.bind ?_ (fun _ => ?_))
   | exact ih0 _ _ _ _ _ _ _ _ _ _
   | exact LeO.none _
   | refine LeO.ite ?_ ?_
   | refine LeO.bind ?_ (fun _ => ?_)
theorem spec_l06Here.mono : ∀ a0 a1 a2 a3 a4 a5 a6 a7 a8 k, LeO (spec_l06Here.f k a0 a1 a2 a3 a4 a5 a6 a7 a8) (spec_l06Here.f (k + 1) a0 a1 a2 a3 a4 a5 a6 a7 a8) := by
 intro a0 a1 a2 a3 a4 a5 a6 a7 a8 k
 have ih0 := spec_l06Here.mono_l k
 unfold spec_l06Here.f
 repeat' first
  | (with_reducible exact ih0 _ _ _ _ _ _ _ _ _ _)
  | (with_reducible exact LeO.refl _)
  | (with_reducible exact LeO.none _)
  | (with_reducible refine LeO.ite ?_ ?_)
  | (with_reducible refine LeO.bind ?_ (fun _ => ?_))
  | exact ih0 _ _ _ _ _ _ _ _ _ _
  | exact LeO.none _
  | refine LeO.ite ?_ ?_
  | refine LeO.bind ?_ (fun _ => ?_)
set_option maxHeartbeats 8000000 in
set_option maxRecDepth 100000 in
theorem spec_l06Here.calls (k : Nat) (a0_0 : Int) (a0_1 : Int) (A0_2 : Option Addr) (c0_2 : Nat) (l0_2 : List Int) (A0_3 : Option Addr) (c0_3 : Nat) (l0_3 : List ByteArray) (a1 : Int) (a2 : Int) (a3 : ByteArray) (a4 : Int) (a5 : ByteArray) (r : Bool) (w : World) (hr0_2 : Kd.C (Kd.int .u32) w A0_2 l0_2.length l0_2) (hc0_2 : l0_2.length ≤ c0_2) (hr0_3 : Kd.C Kd.string w A0_3 l0_3.length l0_3) (hc0_3 : l0_3.length ≤ c0_3) (h : spec_l06Here.f k a0_0 a0_1 l0_2 l0_3 a1 a2 a3 a4 a5 = some r) :
 Calls Tryd.prog 84 #[.agg #[.int .i64 a0_0, .int .i64 a0_1, .slice A0_2 l0_2.length c0_2, .slice A0_3 l0_3.length c0_3], .int .i64 a1, .int .u32 a2, .string a3, .int .u32 a4, .string a5] w fun e w' => e = .returned (.bool r) ∧ Below w.heap.size w w' := by
 have hu39 := Tryd.underlying39
 have HR0_2 := Aside0.mk hr0_2
 have HC0_2 := Aside0.mk hc0_2
 clear hr0_2 hc0_2
 have HR0_3 := Aside0.mk hr0_3
 have HC0_3 := Aside0.mk hc0_3
 clear hr0_3 hc0_3
 have HB := Aside0.mk (Below.refl w.heap.size w)
 have H : (if a1 < 0 then (spec_l06Here.j0 k a1 a2 a3 a4 a5 true a0_0 a0_1 l0_2 l0_3) else (spec_l06Here.j0 k a1 a2 a3 a4 a5 (decide (a1 ≥ (l0_2.length : Int))) a0_0 a0_1 l0_2 l0_3)) = some r := h
 clear h
 have HC7 := Aside0.mk H
 clear H
 go_enter Tryd.func84, Tryd.ntmps84
 go_upto_region 1 with (first | ((with_reducible refine gate_dst (N := 6) rfl ?_); (try (refine gate_guard (by rfl) ?_; dsimp only)); refine box_event ?hg (N := 6) ?hd (cs := #[.int .i64 a0_0, .int .i64 a0_1, .slice A0_2 l0_2.length c0_2, .slice A0_3 l0_3.length c0_3]) (t := 39) ?hr ?_; (case hd => rfl); (case hg => rfl); (case hr => first | (go_simp; done) | (go_simp; rfl)); intro gb245 hg w8 hbox hb; have n0_ := Aside0.mk (below_step (by repeat (first | exact HB.out | apply below_alloc | apply pw_below_drewN | apply below_drew1)) hb); have n1_ := Aside0.mk (hbox); have n2_ := Aside0.mk ((by rw [hg]; exact (below_size (by repeat (first | exact HB.out | apply below_alloc | apply pw_below_drewN | apply below_drew1))) : w.heap.size ≤ gb245)); have n3_ := Aside0.mk ((by rw [hg]; exact (below_size (by repeat (first | exact HB.out | apply below_alloc | apply pw_below_drewN | apply below_drew1))) : w.heap.size ≤ gb245)); clear HB; have HB := n0_; have BK245 := n1_; have GW245 := n2_; have GE245 := n3_; clear n0_ n1_ n2_ n3_; clear hb hbox hg))
 (try simp only [Act.put, List.setIfInBounds_toArray, List.set_cons_zero, List.set_cons_succ])
 go_cut [21] (fun v21 wc => ∃ (kq : Nat) (x21_6 : Bool), v21 = .bool x21_6 ∧ Aside0 (spec_l06Here.j0 kq a1 a2 a3 a4 a5 x21_6 a0_0 a0_1 l0_2 l0_3 = some r) ∧ Aside0 (kq ≤ k) ∧ Aside0 (wc.heap[gb245]? = some (.cells #[.int .i64 a0_0, .int .i64 a0_1, (.slice A0_2 l0_2.length c0_2), (.slice A0_3 l0_3.length c0_3)] 39 (0, 0))) ∧ Aside0 (Below w.heap.size w wc))
 case first =>
  have H := HC7.out
  clear HC7
  by_cases c9 : a1 < 0
  ·
   rw [if_pos c9] at H
   have c9b0 : decide (a1 < 0) = true := decide_eq_true c9
   clear c9
   (first | rw [c9b0] | (simp only [i64_w, i32_w, IntKind.wrap_u8, IntKind.wrap_u32]; rw [c9b0]) | skip)
   (try rw [c9b0e])
   have H' := Aside0.mk H
   clear H
   go_wp2
   go_meet
   case rel => exact ⟨_, (true), (by first | rfl | (simp; done) | (simp [*]; done)), H', ⟨by first | omega | exact Nat.le_refl _⟩, ⟨by (with_reducible repeat (first | refine blk_drewN ?_ _ | refine blk_drew ?_ | refine blk_alloc ?_ _)); exact BK245.out⟩, ⟨by repeat (first | (with_reducible first | exact HB.out | apply below_alloc | apply pw_below_drewN | apply below_drew1 | refine below_set ?_ GE245.out) | exact HB.out)⟩⟩
  ·
   rw [if_neg c9] at H
   have c9b0 : decide (a1 < 0) = false := decide_eq_false c9
   clear c9
   (first | rw [c9b0] | (simp only [i64_w, i32_w, IntKind.wrap_u8, IntKind.wrap_u32]; rw [c9b0]) | skip)
   (try rw [c9b0e])
   have H' := Aside0.mk H
   clear H
   have hcz10_0 : w8.cell? ⟨gb245, 0, none⟩ = some (.int .i64 a0_0) := (blk_cell BK245.out 0).trans rfl
   have hcz10_1 : w8.cell? ⟨gb245, 1, none⟩ = some (.int .i64 a0_1) := (blk_cell BK245.out 1).trans rfl
   have hcz10_2 : w8.cell? ⟨gb245, 2, none⟩ = some (.slice A0_2 l0_2.length c0_2) := (blk_cell BK245.out 2).trans rfl
   have hcz10_3 : w8.cell? ⟨gb245, 3, none⟩ = some (.slice A0_3 l0_3.length c0_3) := (blk_cell BK245.out 3).trans rfl
   have hfz10_0 := blk_frozen BK245.out 0
   have hfz10_1 := blk_frozen BK245.out 1
   have hfz10_2 := blk_frozen BK245.out 2
   have hfz10_3 := blk_frozen BK245.out 3
   go_wp2
   go_meet
   case rel => exact ⟨_, (decide (a1 ≥ (l0_2.length : Int))), (by first | rfl | (simp; done) | (simp [*]; done)), H', ⟨by first | omega | exact Nat.le_refl _⟩, ⟨by (with_reducible repeat (first | refine blk_drewN ?_ _ | refine blk_drew ?_ | refine blk_alloc ?_ _)); exact BK245.out⟩, ⟨by repeat (first | (with_reducible first | exact HB.out | apply below_alloc | apply pw_below_drewN | apply below_drew1 | refine below_set ?_ GE245.out) | exact HB.out)⟩⟩
 case rest =>
  clear HC7
  try clear p2
  try clear c8
  try clear c9
  try clear c9b0
  try clear hcz10_0
  try clear hcz10_1
  try clear hcz10_2
  try clear hcz10_3
  try clear hfz10_0
  try clear hfz10_1
  try clear hfz10_2
  try clear hfz10_3
  obtain ⟨kq, x21_6, rfl, HA, HJ6, BK245, HB⟩ := hcut
  cases kq with
  | zero => exact absurd HA.out (by simp [spec_l06Here.j0])
  | succ kj6 =>
   have H := HA.out
   clear HA
   simp only [spec_l06Here.j0] at H
   by_cases c11 : x21_6 = true
   ·
    subst c11
    have H1 : (some false) = some r := by rw [if_pos rfl] at H; exact H
    clear H
    have H := H1
    clear H1
    obtain rfl := Option.some.inj H
    go_wp2
    go_ret
    exact ⟨by first | rfl | (simp [errW_none, errW_some] <;> rfl) | (simp [*, errW_none, errW_some] <;> rfl), by repeat (first | (with_reducible first | exact HB.out | apply below_alloc | apply pw_below_drewN | apply below_drew1 | refine below_set ?_ GE245.out) | exact HB.out)⟩
   ·
    replace c11 := Bool.eq_false_iff.mpr c11
    subst c11
    have H1 : (if a1 = (wrap64 ((l0_2.length : Int) - 1)) then (if a0_1 > 0 then (if 0 ≤ a1 then (if a1 < (l0_2.length : Int) then (if a4 = (rd l0_2 a1) then (if a1 < (l0_3.length : Int) then (some (a5.toList == (rdOf ByteArray.empty l0_3 a1).toList)) else (none)) else (some false)) else (none)) else (none)) else (if 0 ≤ a1 then (if a1 < (l0_2.length : Int) then (if a2 = (rd l0_2 a1) then (if a1 < (l0_3.length : Int) then (some (a3.toList == (rdOf ByteArray.empty l0_3 a1).toList)) else (none)) else (some false)) else (none)) else (none))) else (if 0 ≤ a1 then (if a1 < (l0_2.length : Int) then (if a2 = (rd l0_2 a1) then (if a1 < (l0_3.length : Int) then (some (a3.toList == (rdOf ByteArray.empty l0_3 a1).toList)) else (none)) else (some false)) else (none)) else (none))) = some r := by rw [if_neg (show ¬ (false = true) by decide)] at H; exact H
    clear H
    have H := H1
    clear H1
    by_cases c12 : a1 = (wrap64 ((l0_2.length : Int) - 1))
    ·
     rw [if_pos c12] at H
     have c12b0 : (a1 == (wrap64 ((l0_2.length : Int) - 1))) = true := beq_iff_eq.mpr c12
     have c12b1 : (a1 != (wrap64 ((l0_2.length : Int) - 1))) = false := bne_eq_false_iff_eq.mpr c12
     clear c12
     by_cases c13 : a0_1 > 0
     ·
      rw [if_pos c13] at H
      have c13b0 : decide (0 < a0_1) = true := decide_eq_true c13
      clear c13
      by_cases c14 : 0 ≤ a1
      ·
       rw [if_pos c14] at H
       have c14b0 : decide (0 ≤ a1) = true := decide_eq_true c14
       clear c14
       by_cases c15 : a1 < (l0_2.length : Int)
       ·
        rw [if_pos c15] at H
        have c15b0 : decide (a1 < (l0_2.length : Int)) = true := decide_eq_true c15
        clear c15
        by_cases c16 : a4 = (rd l0_2 a1)
        ·
         rw [if_pos c16] at H
         have c16b0 : (a4 == (rd l0_2 a1)) = true := beq_iff_eq.mpr c16
         have c16b1 : (a4 != (rd l0_2 a1)) = false := bne_eq_false_iff_eq.mpr c16
         clear c16
         by_cases c17 : a1 < (l0_3.length : Int)
         ·
          rw [if_pos c17] at H
          have c17b0 : decide (a1 < (l0_3.length : Int)) = true := decide_eq_true c17
          clear c17
          obtain rfl := Option.some.inj H
          have hcz18_0 : wc.cell? ⟨gb245, 0, none⟩ = some (.int .i64 a0_0) := (blk_cell BK245.out 0).trans rfl
          have hcz18_1 : wc.cell? ⟨gb245, 1, none⟩ = some (.int .i64 a0_1) := (blk_cell BK245.out 1).trans rfl
          have hcz18_2 : wc.cell? ⟨gb245, 2, none⟩ = some (.slice A0_2 l0_2.length c0_2) := (blk_cell BK245.out 2).trans rfl
          have hcz18_3 : wc.cell? ⟨gb245, 3, none⟩ = some (.slice A0_3 l0_3.length c0_3) := (blk_cell BK245.out 3).trans rfl
          have hfz18_0 := blk_frozen BK245.out 0
          have hfz18_1 := blk_frozen BK245.out 1
          have hfz18_2 := blk_frozen BK245.out 2
          have hfz18_3 := blk_frozen BK245.out 3
          have p246 : 0 ≤ (a1 : Int) := of_decide_eq_true (by assumption)
          have q246 : a1 < (l0_2.length : Int) := of_decide_eq_true (by assumption)
          obtain ⟨ad246, e246, hx246_0⟩ := Kd.at_int HR0_2.out a1 p246 q246
          cases e246
          replace hx246_0 := (HB.out.cell (World.block_lt_of_cell? w _ hx246_0)).trans hx246_0
          replace p246 := eq_true p246
          replace q246 := eq_true q246
          have p247 : 0 ≤ (a1 : Int) := of_decide_eq_true (by assumption)
          have q247 : a1 < (l0_3.length : Int) := of_decide_eq_true (by assumption)
          obtain ⟨ad247, e247, hx247_0⟩ := Kd.at_string HR0_3.out a1 p247 q247
          cases e247
          replace hx247_0 := (HB.out.cell (World.block_lt_of_cell? w _ hx247_0)).trans hx247_0
          replace p247 := eq_true p247
          replace q247 := eq_true q247
          go_wp2
          go_ret
          exact ⟨by first | rfl | (simp [errW_none, errW_some] <;> rfl) | (simp [*, errW_none, errW_some] <;> rfl), by repeat (first | (with_reducible first | exact HB.out | apply below_alloc | apply pw_below_drewN | apply below_drew1 | refine below_set ?_ GE245.out) | exact HB.out)⟩
         ·
          rw [if_neg c17] at H
          exact absurd H (by simp)
        ·
         rw [if_neg c16] at H
         have c16b0 : (a4 == (rd l0_2 a1)) = false := beq_eq_false_iff_ne.mpr c16
         have c16b1 : (a4 != (rd l0_2 a1)) = true := bne_iff_ne.mpr c16
         obtain rfl := Option.some.inj H
         have hcz19_0 : wc.cell? ⟨gb245, 0, none⟩ = some (.int .i64 a0_0) := (blk_cell BK245.out 0).trans rfl
         have hcz19_1 : wc.cell? ⟨gb245, 1, none⟩ = some (.int .i64 a0_1) := (blk_cell BK245.out 1).trans rfl
         have hcz19_2 : wc.cell? ⟨gb245, 2, none⟩ = some (.slice A0_2 l0_2.length c0_2) := (blk_cell BK245.out 2).trans rfl
         have hcz19_3 : wc.cell? ⟨gb245, 3, none⟩ = some (.slice A0_3 l0_3.length c0_3) := (blk_cell BK245.out 3).trans rfl
         have hfz19_0 := blk_frozen BK245.out 0
         have hfz19_1 := blk_frozen BK245.out 1
         have hfz19_2 := blk_frozen BK245.out 2
         have hfz19_3 := blk_frozen BK245.out 3
         have p246 : 0 ≤ (a1 : Int) := of_decide_eq_true (by assumption)
         have q246 : a1 < (l0_2.length : Int) := of_decide_eq_true (by assumption)
         obtain ⟨ad246, e246, hx246_0⟩ := Kd.at_int HR0_2.out a1 p246 q246
         cases e246
         replace hx246_0 := (HB.out.cell (World.block_lt_of_cell? w _ hx246_0)).trans hx246_0
         replace p246 := eq_true p246
         replace q246 := eq_true q246
         go_wp2
         go_ret
         exact ⟨by first | rfl | (simp [errW_none, errW_some] <;> rfl) | (simp [*, errW_none, errW_some] <;> rfl), by repeat (first | (with_reducible first | exact HB.out | apply below_alloc | apply pw_below_drewN | apply below_drew1 | refine below_set ?_ GE245.out) | exact HB.out)⟩
       ·
        rw [if_neg c15] at H
        exact absurd H (by simp)
      ·
       rw [if_neg c14] at H
       exact absurd H (by simp)
     ·
      rw [if_neg c13] at H
      have c13b0 : decide (0 < a0_1) = false := decide_eq_false c13
      clear c13
      by_cases c20 : 0 ≤ a1
      ·
       rw [if_pos c20] at H
       have c20b0 : decide (0 ≤ a1) = true := decide_eq_true c20
       clear c20
       by_cases c21 : a1 < (l0_2.length : Int)
       ·
        rw [if_pos c21] at H
        have c21b0 : decide (a1 < (l0_2.length : Int)) = true := decide_eq_true c21
        clear c21
        by_cases c22 : a2 = (rd l0_2 a1)
        ·
         rw [if_pos c22] at H
         have c22b0 : (a2 == (rd l0_2 a1)) = true := beq_iff_eq.mpr c22
         have c22b1 : (a2 != (rd l0_2 a1)) = false := bne_eq_false_iff_eq.mpr c22
         clear c22
         by_cases c23 : a1 < (l0_3.length : Int)
         ·
          rw [if_pos c23] at H
          have c23b0 : decide (a1 < (l0_3.length : Int)) = true := decide_eq_true c23
          clear c23
          obtain rfl := Option.some.inj H
          have hcz24_0 : wc.cell? ⟨gb245, 0, none⟩ = some (.int .i64 a0_0) := (blk_cell BK245.out 0).trans rfl
          have hcz24_1 : wc.cell? ⟨gb245, 1, none⟩ = some (.int .i64 a0_1) := (blk_cell BK245.out 1).trans rfl
          have hcz24_2 : wc.cell? ⟨gb245, 2, none⟩ = some (.slice A0_2 l0_2.length c0_2) := (blk_cell BK245.out 2).trans rfl
          have hcz24_3 : wc.cell? ⟨gb245, 3, none⟩ = some (.slice A0_3 l0_3.length c0_3) := (blk_cell BK245.out 3).trans rfl
          have hfz24_0 := blk_frozen BK245.out 0
          have hfz24_1 := blk_frozen BK245.out 1
          have hfz24_2 := blk_frozen BK245.out 2
          have hfz24_3 := blk_frozen BK245.out 3
          have p248 : 0 ≤ (a1 : Int) := of_decide_eq_true (by assumption)
          have q248 : a1 < (l0_2.length : Int) := of_decide_eq_true (by assumption)
          obtain ⟨ad248, e248, hx248_0⟩ := Kd.at_int HR0_2.out a1 p248 q248
          cases e248
          replace hx248_0 := (HB.out.cell (World.block_lt_of_cell? w _ hx248_0)).trans hx248_0
          replace p248 := eq_true p248
          replace q248 := eq_true q248
          have p249 : 0 ≤ (a1 : Int) := of_decide_eq_true (by assumption)
          have q249 : a1 < (l0_3.length : Int) := of_decide_eq_true (by assumption)
          obtain ⟨ad249, e249, hx249_0⟩ := Kd.at_string HR0_3.out a1 p249 q249
          cases e249
          replace hx249_0 := (HB.out.cell (World.block_lt_of_cell? w _ hx249_0)).trans hx249_0
          replace p249 := eq_true p249
          replace q249 := eq_true q249
          go_wp2
          go_ret
          exact ⟨by first | rfl | (simp [errW_none, errW_some] <;> rfl) | (simp [*, errW_none, errW_some] <;> rfl), by repeat (first | (with_reducible first | exact HB.out | apply below_alloc | apply pw_below_drewN | apply below_drew1 | refine below_set ?_ GE245.out) | exact HB.out)⟩
         ·
          rw [if_neg c23] at H
          exact absurd H (by simp)
        ·
         rw [if_neg c22] at H
         have c22b0 : (a2 == (rd l0_2 a1)) = false := beq_eq_false_iff_ne.mpr c22
         have c22b1 : (a2 != (rd l0_2 a1)) = true := bne_iff_ne.mpr c22
         obtain rfl := Option.some.inj H
         have hcz25_0 : wc.cell? ⟨gb245, 0, none⟩ = some (.int .i64 a0_0) := (blk_cell BK245.out 0).trans rfl
         have hcz25_1 : wc.cell? ⟨gb245, 1, none⟩ = some (.int .i64 a0_1) := (blk_cell BK245.out 1).trans rfl
         have hcz25_2 : wc.cell? ⟨gb245, 2, none⟩ = some (.slice A0_2 l0_2.length c0_2) := (blk_cell BK245.out 2).trans rfl
         have hcz25_3 : wc.cell? ⟨gb245, 3, none⟩ = some (.slice A0_3 l0_3.length c0_3) := (blk_cell BK245.out 3).trans rfl
         have hfz25_0 := blk_frozen BK245.out 0
         have hfz25_1 := blk_frozen BK245.out 1
         have hfz25_2 := blk_frozen BK245.out 2
         have hfz25_3 := blk_frozen BK245.out 3
         have p248 : 0 ≤ (a1 : Int) := of_decide_eq_true (by assumption)
         have q248 : a1 < (l0_2.length : Int) := of_decide_eq_true (by assumption)
         obtain ⟨ad248, e248, hx248_0⟩ := Kd.at_int HR0_2.out a1 p248 q248
         cases e248
         replace hx248_0 := (HB.out.cell (World.block_lt_of_cell? w _ hx248_0)).trans hx248_0
         replace p248 := eq_true p248
         replace q248 := eq_true q248
         go_wp2
         go_ret
         exact ⟨by first | rfl | (simp [errW_none, errW_some] <;> rfl) | (simp [*, errW_none, errW_some] <;> rfl), by repeat (first | (with_reducible first | exact HB.out | apply below_alloc | apply pw_below_drewN | apply below_drew1 | refine below_set ?_ GE245.out) | exact HB.out)⟩
       ·
        rw [if_neg c21] at H
        exact absurd H (by simp)
      ·
       rw [if_neg c20] at H
       exact absurd H (by simp)
    ·
     rw [if_neg c12] at H
     have c12b0 : (a1 == (wrap64 ((l0_2.length : Int) - 1))) = false := beq_eq_false_iff_ne.mpr c12
     have c12b1 : (a1 != (wrap64 ((l0_2.length : Int) - 1))) = true := bne_iff_ne.mpr c12
     by_cases c26 : 0 ≤ a1
     ·
      rw [if_pos c26] at H
      have c26b0 : decide (0 ≤ a1) = true := decide_eq_true c26
      clear c26
      by_cases c27 : a1 < (l0_2.length : Int)
      ·
       rw [if_pos c27] at H
       have c27b0 : decide (a1 < (l0_2.length : Int)) = true := decide_eq_true c27
       clear c27
       by_cases c28 : a2 = (rd l0_2 a1)
       ·
        rw [if_pos c28] at H
        have c28b0 : (a2 == (rd l0_2 a1)) = true := beq_iff_eq.mpr c28
        have c28b1 : (a2 != (rd l0_2 a1)) = false := bne_eq_false_iff_eq.mpr c28
        clear c28
        by_cases c29 : a1 < (l0_3.length : Int)
        ·
         rw [if_pos c29] at H
         have c29b0 : decide (a1 < (l0_3.length : Int)) = true := decide_eq_true c29
         clear c29
         obtain rfl := Option.some.inj H
         have hcz30_0 : wc.cell? ⟨gb245, 0, none⟩ = some (.int .i64 a0_0) := (blk_cell BK245.out 0).trans rfl
         have hcz30_1 : wc.cell? ⟨gb245, 1, none⟩ = some (.int .i64 a0_1) := (blk_cell BK245.out 1).trans rfl
         have hcz30_2 : wc.cell? ⟨gb245, 2, none⟩ = some (.slice A0_2 l0_2.length c0_2) := (blk_cell BK245.out 2).trans rfl
         have hcz30_3 : wc.cell? ⟨gb245, 3, none⟩ = some (.slice A0_3 l0_3.length c0_3) := (blk_cell BK245.out 3).trans rfl
         have hfz30_0 := blk_frozen BK245.out 0
         have hfz30_1 := blk_frozen BK245.out 1
         have hfz30_2 := blk_frozen BK245.out 2
         have hfz30_3 := blk_frozen BK245.out 3
         have p250 : 0 ≤ (a1 : Int) := of_decide_eq_true (by assumption)
         have q250 : a1 < (l0_2.length : Int) := of_decide_eq_true (by assumption)
         obtain ⟨ad250, e250, hx250_0⟩ := Kd.at_int HR0_2.out a1 p250 q250
         cases e250
         replace hx250_0 := (HB.out.cell (World.block_lt_of_cell? w _ hx250_0)).trans hx250_0
         replace p250 := eq_true p250
         replace q250 := eq_true q250
         have p251 : 0 ≤ (a1 : Int) := of_decide_eq_true (by assumption)
         have q251 : a1 < (l0_3.length : Int) := of_decide_eq_true (by assumption)
         obtain ⟨ad251, e251, hx251_0⟩ := Kd.at_string HR0_3.out a1 p251 q251
         cases e251
         replace hx251_0 := (HB.out.cell (World.block_lt_of_cell? w _ hx251_0)).trans hx251_0
         replace p251 := eq_true p251
         replace q251 := eq_true q251
         go_wp2
         go_ret
         exact ⟨by first | rfl | (simp [errW_none, errW_some] <;> rfl) | (simp [*, errW_none, errW_some] <;> rfl), by repeat (first | (with_reducible first | exact HB.out | apply below_alloc | apply pw_below_drewN | apply below_drew1 | refine below_set ?_ GE245.out) | exact HB.out)⟩
        ·
         rw [if_neg c29] at H
         exact absurd H (by simp)
       ·
        rw [if_neg c28] at H
        have c28b0 : (a2 == (rd l0_2 a1)) = false := beq_eq_false_iff_ne.mpr c28
        have c28b1 : (a2 != (rd l0_2 a1)) = true := bne_iff_ne.mpr c28
        obtain rfl := Option.some.inj H
        have hcz31_0 : wc.cell? ⟨gb245, 0, none⟩ = some (.int .i64 a0_0) := (blk_cell BK245.out 0).trans rfl
        have hcz31_1 : wc.cell? ⟨gb245, 1, none⟩ = some (.int .i64 a0_1) := (blk_cell BK245.out 1).trans rfl
        have hcz31_2 : wc.cell? ⟨gb245, 2, none⟩ = some (.slice A0_2 l0_2.length c0_2) := (blk_cell BK245.out 2).trans rfl
        have hcz31_3 : wc.cell? ⟨gb245, 3, none⟩ = some (.slice A0_3 l0_3.length c0_3) := (blk_cell BK245.out 3).trans rfl
        have hfz31_0 := blk_frozen BK245.out 0
        have hfz31_1 := blk_frozen BK245.out 1
        have hfz31_2 := blk_frozen BK245.out 2
        have hfz31_3 := blk_frozen BK245.out 3
        have p250 : 0 ≤ (a1 : Int) := of_decide_eq_true (by assumption)
        have q250 : a1 < (l0_2.length : Int) := of_decide_eq_true (by assumption)
        obtain ⟨ad250, e250, hx250_0⟩ := Kd.at_int HR0_2.out a1 p250 q250
        cases e250
        replace hx250_0 := (HB.out.cell (World.block_lt_of_cell? w _ hx250_0)).trans hx250_0
        replace p250 := eq_true p250
        replace q250 := eq_true q250
        go_wp2
        go_ret
        exact ⟨by first | rfl | (simp [errW_none, errW_some] <;> rfl) | (simp [*, errW_none, errW_some] <;> rfl), by repeat (first | (with_reducible first | exact HB.out | apply below_alloc | apply pw_below_drewN | apply below_drew1 | refine below_set ?_ GE245.out) | exact HB.out)⟩
      ·
       rw [if_neg c27] at H
       exact absurd H (by simp)
     ·
      rw [if_neg c26] at H
      exact absurd H (by simp)

end Go.Proofs.YtbkodnhnadkhdaaDoor.PTr
