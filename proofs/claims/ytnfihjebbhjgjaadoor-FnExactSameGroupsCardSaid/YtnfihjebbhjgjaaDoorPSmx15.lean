-- Made by a program of this session (tools/pr.sh) out of the translation; Lean checks it.
import Derived.Test.YtnfihjebbhjgjaaDoorPSmx0
import Derived.Test.YtnfihjebbhjgjaaDoorPSmx7
import Derived.Test.YtnfihjebbhjgjaaDoorPSmx9
namespace Go.Proofs.YtnfihjebbhjgjaaDoor.PSm
open Go.RowKit Go.Proofs.YtnfihjebbhjgjaaDoorW.PrintWords Go.Proofs.YtnfihjebbhjgjaaDoorW.PrintLast Go.Proofs.YtnfihjebbhjgjaaDoorW.PrintMore
attribute [local go_sem] geq_str max2_int min2_int max_two min_two max_three min_three max_four min_four   -- for this text's walks alone
set_option linter.unusedVariables false
set_option linter.unusedSimpArgs false

/-! ### spec_TreeOk: function 43 -/
mutual
def spec_TreeOk.l0 : Nat → List (S41) → Int → Int → Option (Bool)
 | 0, _, _, _ => none
 | k + 1, x0, x3, x4 => if x4 < (x0.length : Int) then (if 0 ≤ x4 then ((spec_NodeOk.f k ((rd_T41 x0 x4).f0) ((rd_T41 x0 x4).f1) ((rd_T41 x0 x4).f2) ((rd_T41 x0 x4).f3) ((rd_T41 x0 x4).f4) ((rd_T41 x0 x4).f5) ((rd_T41 x0 x4).f6)).bind fun t173 => (if t173 = true then (if x4 > 0 then (if 0 ≤ (wrap64 (x4 - 1)) then (if (wrap64 (x4 - 1)) < (x0.length : Int) then (spec_TreeOk.j1 k x0 x3 x4 (!(Op.bytesLess (((rd_T41 x0 (wrap64 (x4 - 1))).f0).toList) (((rd_T41 x0 x4).f0).toList))) ((rd_T41 x0 x4).f0) ((rd_T41 x0 x4).f1) ((rd_T41 x0 x4).f2) ((rd_T41 x0 x4).f3) ((rd_T41 x0 x4).f4) ((rd_T41 x0 x4).f5) ((rd_T41 x0 x4).f6)) else (none)) else (none)) else (spec_TreeOk.j1 k x0 x3 x4 false ((rd_T41 x0 x4).f0) ((rd_T41 x0 x4).f1) ((rd_T41 x0 x4).f2) ((rd_T41 x0 x4).f3) ((rd_T41 x0 x4).f4) ((rd_T41 x0 x4).f5) ((rd_T41 x0 x4).f6))) else (spec_TreeOk.j1 k x0 x3 x4 true ((rd_T41 x0 x4).f0) ((rd_T41 x0 x4).f1) ((rd_T41 x0 x4).f2) ((rd_T41 x0 x4).f3) ((rd_T41 x0 x4).f4) ((rd_T41 x0 x4).f5) ((rd_T41 x0 x4).f6)))) else (none)) else (spec_TreeOk.l1 k x0 x3 0)
def spec_TreeOk.j1 : Nat → List (S41) → Int → Int → Bool → ByteArray → Int → Int → Int → ByteArray → ByteArray → Int → Option (Bool)
 | 0, _, _, _, _, _, _, _, _, _, _, _ => none
 | k + 1, x0, x3, x4, x41, x173000, x173001, x173002, x173003, x173004, x173005, x173006 => if x41 = true then (some false) else ((spec_ParentOf.f k x173000).bind fun t175 => ((spec_l10At.f k x0 t175).bind fun t176 => (if t175.toList = ([] : List UInt8) then (spec_TreeOk.l0 k x0 (wrap64 (x3 + (x173004.size : Int))) (wrap64 (x4 + 1))) else (if t176 < 0 then (some false) else (if 0 ≤ t176 then (if t176 < (x0.length : Int) then (if ((rd_T41 x0 t176).f1) = 0 then (spec_TreeOk.l0 k x0 (wrap64 (x3 + (x173004.size : Int))) (wrap64 (x4 + 1))) else (some false)) else (none)) else (none))))))
def spec_TreeOk.l1 : Nat → List (S41) → Int → Int → Option (Bool)
 | 0, _, _, _ => none
 | k + 1, x0, x3, x8 => if x8 < (x0.length : Int) then (if 0 ≤ x8 then (if ((rd_T41 x0 x8).f6) = 0 then (spec_TreeOk.l1 k x0 x3 (wrap64 (x8 + 1))) else (spec_TreeOk.l2 k x0 x3 x8 0 0)) else (none)) else (some (decide (x3 ≤ 20000)))
def spec_TreeOk.l2 : Nat → List (S41) → Int → Int → Int → Int → Option (Bool)
 | 0, _, _, _, _, _ => none
 | k + 1, x0, x3, x8, x9, x10 => if x10 < (x0.length : Int) then (if 0 ≤ x10 then (if 0 ≤ x8 then (if x8 < (x0.length : Int) then (if ((rd_T41 x0 x10).f6) = ((rd_T41 x0 x8).f6) then (if ((rd_T41 x0 x10).f2) = ((rd_T41 x0 x8).f2) then (if ((rd_T41 x0 x10).f3) = ((rd_T41 x0 x8).f3) then (if ((rd_T41 x0 x10).f4).toList = ((rd_T41 x0 x8).f4).toList then (spec_TreeOk.l2 k x0 x3 x8 (wrap64 (x9 + 1)) (wrap64 (x10 + 1))) else (some false)) else (some false)) else (some false)) else (spec_TreeOk.l2 k x0 x3 x8 x9 (wrap64 (x10 + 1)))) else (none)) else (none)) else (none)) else (if x9 < 2 then (some false) else (spec_TreeOk.l1 k x0 x3 (wrap64 (x8 + 1))))
end
def spec_TreeOk.f (k : Nat) (l0 : List (S41)) : Option (Bool) := if (l0.length : Int) > 200 then (some false) else (spec_TreeOk.l0 k l0 0 0)
theorem spec_TreeOk.mono_l : ∀ k, (∀ y0 y1 y2, LeO (spec_TreeOk.l0 k y0 y1 y2) (spec_TreeOk.l0 (k + 1) y0 y1 y2)) ∧ (∀ y0 y1 y2 y3 y4 y5 y6 y7 y8 y9 y10, LeO (spec_TreeOk.j1 k y0 y1 y2 y3 y4 y5 y6 y7 y8 y9 y10) (spec_TreeOk.j1 (k + 1) y0 y1 y2 y3 y4 y5 y6 y7 y8 y9 y10)) ∧ (∀ y0 y1 y2, LeO (spec_TreeOk.l1 k y0 y1 y2) (spec_TreeOk.l1 (k + 1) y0 y1 y2)) ∧ (∀ y0 y1 y2 y3 y4, LeO (spec_TreeOk.l2 k y0 y1 y2 y3 y4) (spec_TreeOk.l2 (k + 1) y0 y1 y2 y3 y4))
 | 0 => ⟨fun _ _ _ r h => by simp [spec_TreeOk.l0] at h, fun _ _ _ _ _ _ _ _ _ _ _ r h => by simp [spec_TreeOk.j1] at h, fun _ _ _ r h => by simp [spec_TreeOk.l1] at h, fun _ _ _ _ _ r h => by simp [spec_TreeOk.l2] at h⟩
 | k + 1 => by
  obtain ⟨ih0, ih1, ih2, ih3⟩ := spec_TreeOk.mono_l k
  refine ⟨?_, ?_, ?_, ?_⟩
  ·
   intro y0 y1 y2
   unfold spec_TreeOk.l0
   repeat' first
   | (with_reducible exact ih0 _ _ _)
   | (with_reducible exact ih1 _ _ _ _ _ _ _ _ _ _ _)
   | (with_reducible exact ih2 _ _ _)
   | (with_reducible exact ih3 _ _ _ _ _)
   | (with_reducible exact spec_NodeOk.mono _ _ _ _ _ _ _ _)
   | (with_reducible exact spec_ParentOf.mono _ _)
   | (with_reducible exact spec_l10At.mono _ _ _)
   | (with_reducible exact LeO.refl _)
   | (with_reducible exact LeO.none _)
   | (with_reducible refine LeO.ite ?_ ?_)
   | (with_reducible refine LeO.bind ?_ (fun _ => ?_))
   | exact ih0 _ _ _
   | exact ih1 _ _ _ _ _ _ _ _ _ _ _
   | exact ih2 _ _ _
   | exact ih3 _ _ _ _ _
   | exact spec_NodeOk.mono _ _ _ _ _ _ _ _
   | exact spec_ParentOf.mono _ _
   | exact spec_l10At.mono _ _ _
   | exact LeO.none _
   | refine LeO.ite ?_ ?_
   | refine LeO.bind ?_ (fun _ => ?_)
  ·
   intro y0 y1 y2 y3 y4 y5 y6 y7 y8 y9 y10
   unfold spec_TreeOk.j1
   repeat' first
   | (with_reducible exact ih0 _ _ _)
   | (with_reducible exact ih1 _ _ _ _ _ _ _ _ _ _ _)
   | (with_reducible exact ih2 _ _ _)
   | (with_reducible exact ih3 _ _ _ _ _)
   | (with_reducible exact spec_NodeOk.mono _ _ _ _ _ _ _ _)
   | (with_reducible exact spec_ParentOf.mono _ _)
   | (with_reducible exact spec_l10At.mono _ _ _)
   | (with_reducible exact LeO.refl _)
   | (with_reducible exact LeO.none _)
   | (with_reducible refine LeO.ite ?_ ?_)
   | (with_reducible refine LeO.bind ?_ (fun _ => ?_))
   | exact ih0 _ _ _
   | exact ih1 _ _ _ _ _ _ _ _ _ _ _
   | exact ih2 _ _ _
   | exact ih3 _ _ _ _ _
   | exact spec_NodeOk.mono _ _ _ _ _ _ _ _
   | exact spec_ParentOf.mono _ _
   | exact spec_l10At.mono _ _ _
   | exact LeO.none _
   | refine LeO.ite ?_ ?_
   | refine LeO.bind ?_ (fun _ => ?_)
  ·
   intro y0 y1 y2
   unfold spec_TreeOk.l1
   repeat' first
   | (with_reducible exact ih0 _ _ _)
   | (with_reducible exact ih1 _ _ _ _ _ _ _ _ _ _ _)
   | (with_reducible exact ih2 _ _ _)
   | (with_reducible exact ih3 _ _ _ _ _)
   | (with_reducible exact spec_NodeOk.mono _ _ _ _ _ _ _ _)
   | (with_reducible exact spec_ParentOf.mono _ _)
   | (with_reducible exact spec_l10At.mono _ _ _)
   | (with_reducible exact LeO.refl _)
   | (with_reducible exact LeO.none _)
   | (with_reducible refine LeO.ite ?_ ?_)
   | (with_reducible refine LeO.bind ?_ (fun _ => ?_))
   | exact ih0 _ _ _
   | exact ih1 _ _ _ _ _ _ _ _ _ _ _
   | exact ih2 _ _ _
   | exact ih3 _ _ _ _ _
   | exact spec_NodeOk.mono _ _ _ _ _ _ _ _
   | exact spec_ParentOf.mono _ _
   | exact spec_l10At.mono _ _ _
   | exact LeO.none _
   | refine LeO.ite ?_ ?_
   | refine LeO.bind ?_ (fun _ => ?_)
  ·
   intro y0 y1 y2 y3 y4
   unfold spec_TreeOk.l2
   repeat' first
   | (with_reducible exact ih0 _ _ _)
   | (with_reducible exact ih1 _ _ _ _ _ _ _ _ _ _ _)
   | (with_reducible exact ih2 _ _ _)
   | (with_reducible exact ih3 _ _ _ _ _)
   | (with_reducible exact spec_NodeOk.mono _ _ _ _ _ _ _ _)
   | (with_reducible exact spec_ParentOf.mono _ _)
   | (with_reducible exact spec_l10At.mono _ _ _)
   | (with_reducible exact LeO.refl _)
   | (with_reducible exact LeO.none _)
   | (with_reducible refine LeO.ite ?_ ?_)
   | (with_reducible refine LeO.bind ?_ (fun _ => ?_))
   | exact ih0 _ _ _
   | exact ih1 _ _ _ _ _ _ _ _ _ _ _
   | exact ih2 _ _ _
   | exact ih3 _ _ _ _ _
   | exact spec_NodeOk.mono _ _ _ _ _ _ _ _
   | exact spec_ParentOf.mono _ _
   | exact spec_l10At.mono _ _ _
   | exact LeO.none _
   | refine LeO.ite ?_ ?_
   | refine LeO.bind ?_ (fun _ => ?_)
theorem spec_TreeOk.mono : ∀ a0 k, LeO (spec_TreeOk.f k a0) (spec_TreeOk.f (k + 1) a0) := by
 intro a0 k
 obtain ⟨ih0, ih1, ih2, ih3⟩ := spec_TreeOk.mono_l k
 unfold spec_TreeOk.f
 repeat' first
  | (with_reducible exact ih0 _ _ _)
  | (with_reducible exact ih1 _ _ _ _ _ _ _ _ _ _ _)
  | (with_reducible exact ih2 _ _ _)
  | (with_reducible exact ih3 _ _ _ _ _)
  | (with_reducible exact spec_NodeOk.mono _ _ _ _ _ _ _ _)
  | (with_reducible exact spec_ParentOf.mono _ _)
  | (with_reducible exact spec_l10At.mono _ _ _)
  | (with_reducible exact LeO.refl _)
  | (with_reducible exact LeO.none _)
  | (with_reducible refine LeO.ite ?_ ?_)
  | (with_reducible refine LeO.bind ?_ (fun _ => ?_))
  | exact ih0 _ _ _
  | exact ih1 _ _ _ _ _ _ _ _ _ _ _
  | exact ih2 _ _ _
  | exact ih3 _ _ _ _ _
  | exact spec_NodeOk.mono _ _ _ _ _ _ _ _
  | exact spec_ParentOf.mono _ _
  | exact spec_l10At.mono _ _ _
  | exact LeO.none _
  | refine LeO.ite ?_ ?_
  | refine LeO.bind ?_ (fun _ => ?_)
def spec_TreeOk.T8 : Bool × List (List Nat × List Nat) := (true, [([], []), ([0], [0]), ([1], [1]), ([2, 1], [2]), ([3], [3]), ([4, 3], [3, 4]), ([5, 3, 3], [3, 5]), ([6], [6]), ([6], [6]), ([8, 6], [6, 8]), ([7, 9, 6], [6, 7, 9]), ([10, 6], [6, 10]), ([11, 6], [6, 11]), ([6], [6]), ([13, 6], [6, 13]), ([12, 14, 6], [6, 12, 14]), ([6, 15, 3], [3, 6, 15]), ([3, 16], [3, 16])])
def spec_TreeOk.B8 : List Nat := [0, 1, 3, 7, 15, 31, 63, 127, 127, 383, 1023, 2047, 4095, 127, 8319, 32767, 65535, 131071]
theorem spec_TreeOk.tab8 : rtab .any (opsOf Tryd.f43 8) = spec_TreeOk.T8 := by kernel_rfl
theorem spec_TreeOk.bits8 : waitsOk spec_TreeOk.T8.2 spec_TreeOk.B8 = true := by kernel_rfl
def spec_TreeOk.T23 : Bool × List (List Nat × List Nat) := (true, [([], []), ([], []), ([0, 1], [0, 1]), ([2], [2]), ([3], [3]), ([], []), ([], []), ([5, 6], [5, 6]), ([7], [7]), ([8], [8]), ([4, 9], [4, 9])])
def spec_TreeOk.B23 : List Nat := [0, 0, 3, 7, 15, 0, 0, 96, 224, 480, 1023]
theorem spec_TreeOk.tab23 : rtab .any (opsOf Tryd.f43 23) = spec_TreeOk.T23 := by kernel_rfl
theorem spec_TreeOk.bits23 : waitsOk spec_TreeOk.T23.2 spec_TreeOk.B23 = true := by kernel_rfl
def spec_TreeOk.T25 : Bool × List (List Nat × List Nat) := (true, [([], []), ([], []), ([0, 1], [0, 1]), ([2], [2]), ([3], [3]), ([], []), ([], []), ([5, 6], [5, 6]), ([7], [7]), ([8], [8]), ([4, 9], [4, 9]), ([10], [10]), ([11], [11]), ([11], [11]), ([12, 13, 11], [11, 12, 13]), ([14, 11], [11, 14]), ([15, 11], [11, 15]), ([11], [11]), ([11], [11]), ([17, 18, 11], [11, 17, 18]), ([19, 11], [11, 19]), ([20, 11], [11, 20]), ([16, 21, 11], [11, 16, 21]), ([11, 22], [11, 22]), ([23, 11], [23]), ([24], [24]), ([24], [24]), ([25, 26, 24], [24, 25, 26]), ([27, 24], [24, 27]), ([28, 24], [24, 28]), ([24], [24]), ([24], [24]), ([30, 31, 24], [24, 30, 31]), ([32, 24], [24, 32]), ([33, 24], [24, 33]), ([29, 34, 24], [24, 29, 34]), ([24, 35], [24, 35])])
def spec_TreeOk.B25 : List Nat := [0, 0, 3, 7, 15, 0, 0, 96, 224, 480, 1023, 2047, 4095, 4095, 16383, 32767, 65535, 4095, 4095, 397311, 921599, 1970175, 4194303, 8388607, 16777215, 33554431, 33554431, 134217727, 268435455, 536870911, 33554431, 33554431, 3254779903, 7549747199, 16139681791, 34359738367, 68719476735]
theorem spec_TreeOk.tab25 : rtab .any (opsOf Tryd.f43 25) = spec_TreeOk.T25 := by kernel_rfl
theorem spec_TreeOk.bits25 : waitsOk spec_TreeOk.T25.2 spec_TreeOk.B25 = true := by kernel_rfl
set_option maxHeartbeats 8000000 in
set_option maxRecDepth 100000 in
theorem spec_TreeOk.calls (k : Nat) (A0 : Option Addr) (c0 : Nat) (l0 : List (S41)) (r : Bool) (w : World) (hr0 : Kd.C k41 w A0 l0.length l0) (hc0 : l0.length ≤ c0) (h : spec_TreeOk.f k l0 = some r) :
 Calls Tryd.prog 43 #[.slice A0 l0.length c0] w fun e w' => e = .returned (.bool r) ∧ Below w.heap.size w w' := by
 have hu41 := Tryd.underlying41
 have HR0 := Aside0.mk hr0
 have HC0 := Aside0.mk hc0
 clear hr0 hc0
 have HB := Aside0.mk (Below.refl w.heap.size w)
 have H : (if (l0.length : Int) > 200 then (some false) else (spec_TreeOk.l0 k l0 0 0)) = some r := h
 clear h
 by_cases c2 : (l0.length : Int) > 200
 ·
  rw [if_pos c2] at H
  have c2b0 : decide (200 < (l0.length : Int)) = true := decide_eq_true c2
  have c2b1 : decide (200 < l0.length) = true := decide_eq_true (by omega)
  clear c2
  obtain rfl := Option.some.inj H
  go_enter Tryd.func43, Tryd.ntmps43
  go_wp2
  go_ret
  exact ⟨by first | rfl | (simp [errW_none, errW_some] <;> rfl) | (simp [*, errW_none, errW_some] <;> rfl), by repeat (first | exact HB.out | apply below_alloc | apply pw_below_drewN | apply below_drew1)⟩
 ·
  rw [if_neg c2] at H
  have c2b0 : decide (200 < (l0.length : Int)) = false := decide_eq_false c2
  have c2b1 : decide (200 < l0.length) = false := decide_eq_false (by omega)
  clear c2
  have H' := Aside0.mk H
  clear H
  go_enter Tryd.func43, Tryd.ntmps43
  go_wp2
  go_loopg [3, 4] k (fun kq v3 v4 w' => ∃ (x3_1 : Int) (x4_1 : Int), v3 = .int .i64 x3_1 ∧ v4 = .int .i64 x4_1 ∧ Aside0 (spec_TreeOk.l0 kq l0 x3_1 x4_1 = some r) ∧ Aside0 (kq ≤ k) ∧ Aside0 (Below w.heap.size w w'))
  case atStart => exact ⟨(0), (0), (by first | rfl | (simp; done) | (simp [*]; done)), (by first | rfl | (simp; done) | (simp [*]; done)), H', ⟨Nat.le_refl _⟩, ⟨by repeat (first | exact HB.out | apply below_alloc | apply pw_below_drewN | apply below_drew1)⟩⟩
  case round =>
   clear H'
   try clear c2
   try clear c2b0
   try clear c2b1
   try clear p2
   obtain ⟨x3_1, x4_1, rfl, rfl, HA, HK1, HB⟩ := hrel
   cases gk with
   | zero => exact absurd HA.out (by simp [spec_TreeOk.l0])
   | succ k1 =>
    have H := HA.out
    clear HA
    simp only [spec_TreeOk.l0] at H
    by_cases c3 : x4_1 < (l0.length : Int)
    ·
     rw [if_pos c3] at H
     have c3b0 : decide (x4_1 < (l0.length : Int)) = true := decide_eq_true c3
     clear c3
     by_cases c4 : 0 ≤ x4_1
     ·
      rw [if_pos c4] at H
      have c4b0 : decide (0 ≤ x4_1) = true := decide_eq_true c4
      clear c4
      have HC5 := Aside0.mk H
      clear H
      have p171 : 0 ≤ (x4_1 : Int) := of_decide_eq_true (by assumption)
      have q171 : x4_1 < (l0.length : Int) := of_decide_eq_true (by assumption)
      obtain ⟨ad171, e171, hx171_0, hx171_1, hx171_2, hx171_3, hx171_4, hx171_5, hx171_6⟩ := at_T41 HR0.out x4_1 p171 q171
      cases e171
      replace hx171_0 := cb HB.out hx171_0
      replace hx171_1 := cb HB.out hx171_1
      replace hx171_2 := cb HB.out hx171_2
      replace hx171_3 := cb HB.out hx171_3
      replace hx171_4 := cb HB.out hx171_4
      replace hx171_5 := cb HB.out hx171_5
      replace hx171_6 := cb HB.out hx171_6
      replace p171 := eq_true p171
      replace q171 := eq_true q171
      go_upto_region 8 with (first | ((with_reducible refine gate_dst (N := 5) rfl ?_); refine box_event ?hg (N := 5) ?hd (cs := #[.string (⟨#[]⟩ : ByteArray), .int .i64 0, .int .i64 0, .int .i64 0, .string (⟨#[]⟩ : ByteArray), .string (⟨#[]⟩ : ByteArray), .int .i64 0]) (t := 41) ?hr ?_; (case hd => rfl); (case hg => rfl); (case hr => first | (go_simp; done) | (go_simp; rfl)); intro gb172 hg w6 hbox hb; have n0_ := Aside0.mk (below_step (by repeat (first | exact HB.out | apply below_alloc | apply pw_below_drewN | apply below_drew1)) hb); have n1_ := Aside0.mk (hbox); have n2_ := Aside0.mk ((by rw [hg]; exact (below_size (by repeat (first | exact HB.out | apply below_alloc | apply pw_below_drewN | apply below_drew1))) : w.heap.size ≤ gb172)); have n3_ := Aside0.mk ((by rw [hg]; exact (below_size (by repeat (first | exact HB.out | apply below_alloc | apply pw_below_drewN | apply below_drew1))) : w.heap.size ≤ gb172)); clear HB; have HB := n0_; have BK172 := n1_; have GW172 := n2_; have GE172 := n3_; clear n0_ n1_ n2_ n3_; clear hb hbox hg; have hcz7_0 : w6.cell? ⟨gb172, 0, none⟩ = some (.string (⟨#[]⟩ : ByteArray)) := (blk_cell BK172.out 0).trans rfl; have hcz7_1 : w6.cell? ⟨gb172, 1, none⟩ = some (.int .i64 0) := (blk_cell BK172.out 1).trans rfl; have hcz7_2 : w6.cell? ⟨gb172, 2, none⟩ = some (.int .i64 0) := (blk_cell BK172.out 2).trans rfl; have hcz7_3 : w6.cell? ⟨gb172, 3, none⟩ = some (.int .i64 0) := (blk_cell BK172.out 3).trans rfl; have hcz7_4 : w6.cell? ⟨gb172, 4, none⟩ = some (.string (⟨#[]⟩ : ByteArray)) := (blk_cell BK172.out 4).trans rfl; have hcz7_5 : w6.cell? ⟨gb172, 5, none⟩ = some (.string (⟨#[]⟩ : ByteArray)) := (blk_cell BK172.out 5).trans rfl; have hcz7_6 : w6.cell? ⟨gb172, 6, none⟩ = some (.int .i64 0) := (blk_cell BK172.out 6).trans rfl; have hfz7_0 := blk_frozen BK172.out 0; have hfz7_1 := blk_frozen BK172.out 1; have hfz7_2 := blk_frozen BK172.out 2; have hfz7_3 := blk_frozen BK172.out 3; have hfz7_4 := blk_frozen BK172.out 4; have hfz7_5 := blk_frozen BK172.out 5; have hfz7_6 := blk_frozen BK172.out 6))
      (try simp only [Act.put, List.setIfInBounds_toArray, List.set_cons_zero, List.set_cons_succ])
      go_cut [41] (fun v41 wc => ∃ (kq : Nat) (x41_4 : Bool), v41 = .bool x41_4 ∧ Aside0 (spec_TreeOk.j1 kq l0 x3_1 x4_1 x41_4 ((rd_T41 l0 x4_1).f0) ((rd_T41 l0 x4_1).f1) ((rd_T41 l0 x4_1).f2) ((rd_T41 l0 x4_1).f3) ((rd_T41 l0 x4_1).f4) ((rd_T41 l0 x4_1).f5) ((rd_T41 l0 x4_1).f6) = some r) ∧ Aside0 (kq ≤ k1) ∧ Aside0 (wc.heap[gb172]? = some (.cells #[.string ((rd_T41 l0 x4_1).f0), .int .i64 ((rd_T41 l0 x4_1).f1), .int .i64 ((rd_T41 l0 x4_1).f2), .int .i64 ((rd_T41 l0 x4_1).f3), .string ((rd_T41 l0 x4_1).f4), .string ((rd_T41 l0 x4_1).f5), .int .i64 ((rd_T41 l0 x4_1).f6)] 41 (0, 0))) ∧ Aside0 (Below w.heap.size w wc))
      case first =>
       have H := HC5.out
       clear HC5
       replace H := Option.bind_eq_some_iff.mp H
       obtain ⟨t173, A80, H⟩ := H
       replace H : (if t173 = true then (if x4_1 > 0 then (if 0 ≤ (wrap64 (x4_1 - 1)) then (if (wrap64 (x4_1 - 1)) < (l0.length : Int) then (spec_TreeOk.j1 k1 l0 x3_1 x4_1 (!(Op.bytesLess (((rd_T41 l0 (wrap64 (x4_1 - 1))).f0).toList) (((rd_T41 l0 x4_1).f0).toList))) ((rd_T41 l0 x4_1).f0) ((rd_T41 l0 x4_1).f1) ((rd_T41 l0 x4_1).f2) ((rd_T41 l0 x4_1).f3) ((rd_T41 l0 x4_1).f4) ((rd_T41 l0 x4_1).f5) ((rd_T41 l0 x4_1).f6)) else (none)) else (none)) else (spec_TreeOk.j1 k1 l0 x3_1 x4_1 false ((rd_T41 l0 x4_1).f0) ((rd_T41 l0 x4_1).f1) ((rd_T41 l0 x4_1).f2) ((rd_T41 l0 x4_1).f3) ((rd_T41 l0 x4_1).f4) ((rd_T41 l0 x4_1).f5) ((rd_T41 l0 x4_1).f6))) else (spec_TreeOk.j1 k1 l0 x3_1 x4_1 true ((rd_T41 l0 x4_1).f0) ((rd_T41 l0 x4_1).f1) ((rd_T41 l0 x4_1).f2) ((rd_T41 l0 x4_1).f3) ((rd_T41 l0 x4_1).f4) ((rd_T41 l0 x4_1).f5) ((rd_T41 l0 x4_1).f6))) = some r := H
       have A8 := Aside0.mk A80
       clear A80
       by_cases c9 : t173 = true
       ·
        subst c9
        have H1 : (if x4_1 > 0 then (if 0 ≤ (wrap64 (x4_1 - 1)) then (if (wrap64 (x4_1 - 1)) < (l0.length : Int) then (spec_TreeOk.j1 k1 l0 x3_1 x4_1 (!(Op.bytesLess (((rd_T41 l0 (wrap64 (x4_1 - 1))).f0).toList) (((rd_T41 l0 x4_1).f0).toList))) ((rd_T41 l0 x4_1).f0) ((rd_T41 l0 x4_1).f1) ((rd_T41 l0 x4_1).f2) ((rd_T41 l0 x4_1).f3) ((rd_T41 l0 x4_1).f4) ((rd_T41 l0 x4_1).f5) ((rd_T41 l0 x4_1).f6)) else (none)) else (none)) else (spec_TreeOk.j1 k1 l0 x3_1 x4_1 false ((rd_T41 l0 x4_1).f0) ((rd_T41 l0 x4_1).f1) ((rd_T41 l0 x4_1).f2) ((rd_T41 l0 x4_1).f3) ((rd_T41 l0 x4_1).f4) ((rd_T41 l0 x4_1).f5) ((rd_T41 l0 x4_1).f6))) = some r := by rw [if_pos rfl] at H; exact H
        clear H
        have H := H1
        clear H1
        by_cases c10 : x4_1 > 0
        ·
         rw [if_pos c10] at H
         have c10b0 : decide (0 < x4_1) = true := decide_eq_true c10
         clear c10
         (first | rw [c10b0] | (simp only [i64_w, i32_w, IntKind.wrap_u8, IntKind.wrap_u32]; rw [c10b0]) | skip)
         (try rw [c10b0e])
         obtain ⟨ji11, hji11⟩ : ∃ j_ : Int, (wrap64 (x4_1 - 1)) = j_ := ⟨_, rfl⟩
         replace H : (if 0 ≤ (ji11) then (if (ji11) < (l0.length : Int) then (spec_TreeOk.j1 k1 l0 x3_1 x4_1 (!(Op.bytesLess (((rd_T41 l0 (ji11)).f0).toList) (((rd_T41 l0 x4_1).f0).toList))) ((rd_T41 l0 x4_1).f0) ((rd_T41 l0 x4_1).f1) ((rd_T41 l0 x4_1).f2) ((rd_T41 l0 x4_1).f3) ((rd_T41 l0 x4_1).f4) ((rd_T41 l0 x4_1).f5) ((rd_T41 l0 x4_1).f6)) else (none)) else (none)) = some r := by first | (rw [hji11] at H; exact H) | (simp only [hji11] at H ⊢; exact H)
         (try rw [hji11] at A8)
         have hji11w : (IntKind.i64.wrap (x4_1 - 1)) = ji11 := (i64_w _).trans hji11
         by_cases c12 : 0 ≤ (ji11)
         ·
          rw [if_pos c12] at H
          have c12b0 : decide (0 ≤ (ji11)) = true := decide_eq_true c12
          clear c12
          by_cases c13 : (ji11) < (l0.length : Int)
          ·
           rw [if_pos c13] at H
           have c13b0 : decide ((ji11) < (l0.length : Int)) = true := decide_eq_true c13
           clear c13
           have H' := Aside0.mk H
           clear H
           try go_wp2
           have n0_ : Aside0 ((((((((w6.setCell ⟨gb172, 0, none⟩ (.string ((rd_T41 l0 x4_1).f0))).setCell ⟨gb172, 1, none⟩ (.int .i64 ((rd_T41 l0 x4_1).f1))).setCell ⟨gb172, 2, none⟩ (.int .i64 ((rd_T41 l0 x4_1).f2))).setCell ⟨gb172, 3, none⟩ (.int .i64 ((rd_T41 l0 x4_1).f3))).setCell ⟨gb172, 4, none⟩ (.string ((rd_T41 l0 x4_1).f4))).setCell ⟨gb172, 5, none⟩ (.string ((rd_T41 l0 x4_1).f5))).setCell ⟨gb172, 6, none⟩ (.int .i64 ((rd_T41 l0 x4_1).f6))).heap[gb172]? = some (.cells #[.string ((rd_T41 l0 x4_1).f0), .int .i64 ((rd_T41 l0 x4_1).f1), .int .i64 ((rd_T41 l0 x4_1).f2), .int .i64 ((rd_T41 l0 x4_1).f3), .string ((rd_T41 l0 x4_1).f4), .string ((rd_T41 l0 x4_1).f5), .int .i64 ((rd_T41 l0 x4_1).f6)] 41 (0, 0))) := ⟨by (with_reducible repeat (first | refine blk_drewN ?_ _ | refine blk_drew ?_ | refine blk_alloc ?_ _)); refine blk_put (cs := #[.string ((rd_T41 l0 x4_1).f0), .int .i64 ((rd_T41 l0 x4_1).f1), .int .i64 ((rd_T41 l0 x4_1).f2), .int .i64 ((rd_T41 l0 x4_1).f3), .string ((rd_T41 l0 x4_1).f4), .string ((rd_T41 l0 x4_1).f5), .int .i64 0]) ?_ 6 _ rfl; (with_reducible repeat (first | refine blk_drewN ?_ _ | refine blk_drew ?_ | refine blk_alloc ?_ _)); refine blk_put (cs := #[.string ((rd_T41 l0 x4_1).f0), .int .i64 ((rd_T41 l0 x4_1).f1), .int .i64 ((rd_T41 l0 x4_1).f2), .int .i64 ((rd_T41 l0 x4_1).f3), .string ((rd_T41 l0 x4_1).f4), .string (⟨#[]⟩ : ByteArray), .int .i64 0]) ?_ 5 _ rfl; (with_reducible repeat (first | refine blk_drewN ?_ _ | refine blk_drew ?_ | refine blk_alloc ?_ _)); refine blk_put (cs := #[.string ((rd_T41 l0 x4_1).f0), .int .i64 ((rd_T41 l0 x4_1).f1), .int .i64 ((rd_T41 l0 x4_1).f2), .int .i64 ((rd_T41 l0 x4_1).f3), .string (⟨#[]⟩ : ByteArray), .string (⟨#[]⟩ : ByteArray), .int .i64 0]) ?_ 4 _ rfl; (with_reducible repeat (first | refine blk_drewN ?_ _ | refine blk_drew ?_ | refine blk_alloc ?_ _)); refine blk_put (cs := #[.string ((rd_T41 l0 x4_1).f0), .int .i64 ((rd_T41 l0 x4_1).f1), .int .i64 ((rd_T41 l0 x4_1).f2), .int .i64 0, .string (⟨#[]⟩ : ByteArray), .string (⟨#[]⟩ : ByteArray), .int .i64 0]) ?_ 3 _ rfl; (with_reducible repeat (first | refine blk_drewN ?_ _ | refine blk_drew ?_ | refine blk_alloc ?_ _)); refine blk_put (cs := #[.string ((rd_T41 l0 x4_1).f0), .int .i64 ((rd_T41 l0 x4_1).f1), .int .i64 0, .int .i64 0, .string (⟨#[]⟩ : ByteArray), .string (⟨#[]⟩ : ByteArray), .int .i64 0]) ?_ 2 _ rfl; (with_reducible repeat (first | refine blk_drewN ?_ _ | refine blk_drew ?_ | refine blk_alloc ?_ _)); refine blk_put (cs := #[.string ((rd_T41 l0 x4_1).f0), .int .i64 0, .int .i64 0, .int .i64 0, .string (⟨#[]⟩ : ByteArray), .string (⟨#[]⟩ : ByteArray), .int .i64 0]) ?_ 1 _ rfl; (with_reducible repeat (first | refine blk_drewN ?_ _ | refine blk_drew ?_ | refine blk_alloc ?_ _)); refine blk_put (cs := #[.string (⟨#[]⟩ : ByteArray), .int .i64 0, .int .i64 0, .int .i64 0, .string (⟨#[]⟩ : ByteArray), .string (⟨#[]⟩ : ByteArray), .int .i64 0]) ?_ 0 _ rfl; (with_reducible repeat (first | refine blk_drewN ?_ _ | refine blk_drew ?_ | refine blk_alloc ?_ _)); exact BK172.out⟩
           have n1_ : Aside0 (Below w.heap.size w (((((((w6.setCell ⟨gb172, 0, none⟩ (.string ((rd_T41 l0 x4_1).f0))).setCell ⟨gb172, 1, none⟩ (.int .i64 ((rd_T41 l0 x4_1).f1))).setCell ⟨gb172, 2, none⟩ (.int .i64 ((rd_T41 l0 x4_1).f2))).setCell ⟨gb172, 3, none⟩ (.int .i64 ((rd_T41 l0 x4_1).f3))).setCell ⟨gb172, 4, none⟩ (.string ((rd_T41 l0 x4_1).f4))).setCell ⟨gb172, 5, none⟩ (.string ((rd_T41 l0 x4_1).f5))).setCell ⟨gb172, 6, none⟩ (.int .i64 ((rd_T41 l0 x4_1).f6)))) := ⟨by repeat (first | (with_reducible first | exact HB.out | apply below_alloc | apply pw_below_drewN | apply below_drew1 | refine below_set ?_ GE172.out) | exact HB.out)⟩
           (try clear BK172)
           (try clear HB)
           generalize (((((((w6.setCell ⟨gb172, 0, none⟩ (.string ((rd_T41 l0 x4_1).f0))).setCell ⟨gb172, 1, none⟩ (.int .i64 ((rd_T41 l0 x4_1).f1))).setCell ⟨gb172, 2, none⟩ (.int .i64 ((rd_T41 l0 x4_1).f2))).setCell ⟨gb172, 3, none⟩ (.int .i64 ((rd_T41 l0 x4_1).f3))).setCell ⟨gb172, 4, none⟩ (.string ((rd_T41 l0 x4_1).f4))).setCell ⟨gb172, 5, none⟩ (.string ((rd_T41 l0 x4_1).f5))).setCell ⟨gb172, 6, none⟩ (.int .i64 ((rd_T41 l0 x4_1).f6))) = w14 at n0_ n1_ ⊢
           have BK172 := n0_
           have HB := n1_
           clear n0_ n1_
           have n0_ := Aside0.mk (blk_drew BK172.out)
           have n1_ := Aside0.mk (below_drew1 HB.out)
           clear BK172
           clear HB
           have BK172 := n0_
           have HB := n1_
           clear n0_ n1_
           have p174 : 0 ≤ ((ji11) : Int) := of_decide_eq_true (by assumption)
           have q174 : (ji11) < (l0.length : Int) := of_decide_eq_true (by assumption)
           obtain ⟨ad174, e174, hx174_0, hx174_1, hx174_2, hx174_3, hx174_4, hx174_5, hx174_6⟩ := at_T41 HR0.out (ji11) p174 q174
           have hw174_6 := hx174_6
           have hw174_5 := hx174_5
           have hw174_4 := hx174_4
           have hw174_3 := hx174_3
           have hw174_2 := hx174_2
           have hw174_1 := hx174_1
           have hw174_0 := hx174_0
           obtain rfl : ad171 = ad174 := (by injection e174)
           replace hx174_0 := cb HB.out hx174_0
           replace hx174_1 := cb HB.out hx174_1
           replace hx174_2 := cb HB.out hx174_2
           replace hx174_3 := cb HB.out hx174_3
           replace hx174_4 := cb HB.out hx174_4
           replace hx174_5 := cb HB.out hx174_5
           replace hx174_6 := cb HB.out hx174_6
           replace p174 := eq_true p174
           replace q174 := eq_true q174
           refine start_ (n := 18) (S := fun w' => w'.cell? ⟨gb172, 0, none⟩ = some (.string ((rd_T41 l0 x4_1).f0)) ∧ w'.cell? ⟨gb172, 1, none⟩ = some (.int .i64 ((rd_T41 l0 x4_1).f1)) ∧ w'.cell? ⟨gb172, 2, none⟩ = some (.int .i64 ((rd_T41 l0 x4_1).f2)) ∧ w'.cell? ⟨gb172, 3, none⟩ = some (.int .i64 ((rd_T41 l0 x4_1).f3)) ∧ w'.cell? ⟨gb172, 4, none⟩ = some (.string ((rd_T41 l0 x4_1).f4)) ∧ w'.cell? ⟨gb172, 5, none⟩ = some (.string ((rd_T41 l0 x4_1).f5)) ∧ w'.cell? ⟨gb172, 6, none⟩ = some (.int .i64 ((rd_T41 l0 x4_1).f6)) ∧ w'.cell? (ad171.add (((ji11)).toNat * 7)) = some (.string ((rd_T41 l0 (ji11)).f0)) ∧ w'.cell? ⟨(ad171.add (((ji11)).toNat * 7)).block, (ad171.add (((ji11)).toNat * 7)).off + 1, none⟩ = some (.int .i64 ((rd_T41 l0 (ji11)).f1)) ∧ w'.cell? ⟨(ad171.add (((ji11)).toNat * 7)).block, (ad171.add (((ji11)).toNat * 7)).off + 2, none⟩ = some (.int .i64 ((rd_T41 l0 (ji11)).f2)) ∧ w'.cell? ⟨(ad171.add (((ji11)).toNat * 7)).block, (ad171.add (((ji11)).toNat * 7)).off + 3, none⟩ = some (.int .i64 ((rd_T41 l0 (ji11)).f3)) ∧ w'.cell? ⟨(ad171.add (((ji11)).toNat * 7)).block, (ad171.add (((ji11)).toNat * 7)).off + 4, none⟩ = some (.string ((rd_T41 l0 (ji11)).f4)) ∧ w'.cell? ⟨(ad171.add (((ji11)).toNat * 7)).block, (ad171.add (((ji11)).toNat * 7)).off + 5, none⟩ = some (.string ((rd_T41 l0 (ji11)).f5)) ∧ w'.cell? ⟨(ad171.add (((ji11)).toNat * 7)).block, (ad171.add (((ji11)).toNat * 7)).off + 6, none⟩ = some (.int .i64 ((rd_T41 l0 (ji11)).f6))) (ds := []) (bm 18 0) (by kernel_rfl) rfl rfl ⟨(blk_cell BK172.out 0).trans rfl, (blk_cell BK172.out 1).trans rfl, (blk_cell BK172.out 2).trans rfl, (blk_cell BK172.out 3).trans rfl, (blk_cell BK172.out 4).trans rfl, (blk_cell BK172.out 5).trans rfl, (blk_cell BK172.out 6).trans rfl, (cb HB.out hw174_0), (cb HB.out hw174_1), (cb HB.out hw174_2), (cb HB.out hw174_3), (cb HB.out hw174_4), (cb HB.out hw174_5), (cb HB.out hw174_6)⟩ (fun hHeld => ?_); refine with_tabW spec_TreeOk.tab8 spec_TreeOk.bits8 (fun HT_ HW_ => ?_)
           generalize w14.drew = w15 at BK172 HB hx174_0 hx174_1 hx174_2 hx174_3 hx174_4 hx174_5 hx174_6 hHeld ⊢
           refine take_ (i := 0) (N := some 24) (v := ?_) (a' := ?_) (bm 18 1) rfl rfl (take_ofW HT_.out HW_.out (by kernel_rfl)) (fun _ _ _ h => h) (Or.inl ⟨by rfl, ?_⟩) hHeld ?_ ?_; rotate_left; · (rintro w' ⟨s0, s1, s2, s3, s4, s5, s6, s7, s8, s9, s10, s11, s12, s13⟩; go_simp; with_reducible rfl)
           rotate_left; · (simp only [Act.put, q1, q2, q3, q4, q5, q6, q7]; rfl)
           refine one_ (i := 1) (N := some 25) (bm 18 3) rfl rfl (one_of HT_.out (by kernel_rfl)) (by decide) (fun K hK => ?_)
           refine goes_ Tryd.func36 (by kernel_rfl) rfl #[.agg #[.string ((rd_T41 l0 x4_1).f0), .int .i64 ((rd_T41 l0 x4_1).f1), .int .i64 ((rd_T41 l0 x4_1).f2), .int .i64 ((rd_T41 l0 x4_1).f3), .string ((rd_T41 l0 x4_1).f4), .string ((rd_T41 l0 x4_1).f5), .int .i64 ((rd_T41 l0 x4_1).f6)]] (by rfl) rfl rfl (by (try simp only [List.map_toArray, List.map_cons, List.map_nil]); first | done | rfl | (simp only [List.length_drop, List.length_take]; rfl)) ?_
           with_reducible refine (spec_NodeOk.calls k1 ((rd_T41 l0 x4_1).f0) ((rd_T41 l0 x4_1).f1) ((rd_T41 l0 x4_1).f2) ((rd_T41 l0 x4_1).f3) ((rd_T41 l0 x4_1).f4) ((rd_T41 l0 x4_1).f5) ((rd_T41 l0 x4_1).f6) true _ A8.out).mono ?_
           rintro e w16 ⟨rfl, hb⟩
           refine ⟨_, rfl, ?_⟩
           have n0_ := Aside0.mk (blk_below (g := gb172) (o := .cells #[.string ((rd_T41 l0 x4_1).f0), .int .i64 ((rd_T41 l0 x4_1).f1), .int .i64 ((rd_T41 l0 x4_1).f2), .int .i64 ((rd_T41 l0 x4_1).f3), .string ((rd_T41 l0 x4_1).f4), .string ((rd_T41 l0 x4_1).f5), .int .i64 ((rd_T41 l0 x4_1).f6)] 41 (0, 0)) (by (with_reducible repeat (first | refine blk_drewN ?_ _ | refine blk_drew ?_ | refine blk_alloc ?_ _)); exact BK172.out) hb)
           have n1_ := Aside0.mk (below_step (by repeat (first | (with_reducible first | exact HB.out | apply below_alloc | apply pw_below_drewN | apply below_drew1 | refine below_set ?_ GE172.out) | exact HB.out)) hb)
           clear BK172
           clear HB
           have BK172 := n0_
           have HB := n1_
           clear n0_ n1_
           (try clear hb)
           (try clear hb2)
           (try clear hk)
           (try clear hi)
           refine hK.out _ _ ⟨(blk_cell BK172.out 0).trans rfl, (blk_cell BK172.out 1).trans rfl, (blk_cell BK172.out 2).trans rfl, (blk_cell BK172.out 3).trans rfl, (blk_cell BK172.out 4).trans rfl, (blk_cell BK172.out 5).trans rfl, (blk_cell BK172.out 6).trans rfl, (cb HB.out hw174_0), (cb HB.out hw174_1), (cb HB.out hw174_2), (cb HB.out hw174_3), (cb HB.out hw174_4), (cb HB.out hw174_5), (cb HB.out hw174_6)⟩ (fun hHeld => ?_)
           clear hK K
           refine norm_ (a' := ?_) ?_ ?_
           rotate_left
           ·
            show Act.put _ (some 25) _ = _
            simp only [Act.put, q1, q2, q3, q4, q5, q6, q7]
            rfl
           refine pure_ (i := 2) (N := some 26) (v := ?_) (a' := ?_) (bm 18 7) rfl rfl (any_of HT_.out (by kernel_rfl)) (fun _ _ _ h => h) (Or.inl ⟨by rfl, ?_⟩) ?_ ?_; rotate_left; · (intro w'; go_simp; with_reducible rfl)
           rotate_left; · (simp only [Act.put, q1, q2, q3, q4, q5, q6, q7]; rfl)
           refine pure_ (i := 3) (N := some 27) (v := ?_) (a' := ?_) (bm 18 15) rfl rfl (any_of HT_.out (by kernel_rfl)) (fun _ _ _ h => h) (Or.inl ⟨by rfl, ?_⟩) ?_ ?_; rotate_left; · (intro w'; go_simp; with_reducible rfl)
           rotate_left; · (simp only [Act.put, q1, q2, q3, q4, q5, q6, q7]; rfl)
           refine pure_ (i := 4) (N := some 28) (v := ?_) (a' := ?_) (bm 18 31) rfl rfl (any_of HT_.out (by kernel_rfl)) (fun _ _ _ h => h) (Or.inl ⟨by rfl, ?_⟩) ?_ ?_; rotate_left; · (intro w'; go_simp; with_reducible rfl)
           rotate_left; · (simp only [Act.put, q1, q2, q3, q4, q5, q6, q7]; rfl)
           refine pure_ (i := 5) (N := some 29) (v := ?_) (a' := ?_) (bm 18 63) rfl rfl (any_of HT_.out (by kernel_rfl)) (fun _ _ _ h => h) (Or.inl ⟨by rfl, ?_⟩) ?_ ?_; rotate_left; · (intro w'; go_simp; with_reducible rfl)
           rotate_left; · (simp only [Act.put, q1, q2, q3, q4, q5, q6, q7]; rfl)
           refine pure_ (i := 6) (N := some 30) (v := ?_) (a' := ?_) (bm 18 127) rfl rfl (any_of HT_.out (by kernel_rfl)) (fun _ _ _ h => h) (Or.inl ⟨by rfl, ?_⟩) ?_ ?_; rotate_left; · (intro w'; go_simp; with_reducible rfl)
           rotate_left; · (simp only [Act.put, q1, q2, q3, q4, q5, q6, q7]; rfl)
           refine pure_ (i := 7) (N := some 31) (v := ?_) (a' := ?_) (bm 18 255) rfl rfl (any_of HT_.out (by kernel_rfl)) (fun _ _ _ h => h) (Or.inl ⟨by rfl, ?_⟩) ?_ ?_; rotate_left; · (intro w'; go_simp; with_reducible rfl)
           rotate_left; · (simp only [Act.put, q1, q2, q3, q4, q5, q6, q7]; rfl)
           refine pure_ (i := 8) (N := some 32) (v := ?_) (a' := ?_) (bm 18 511) rfl rfl (any_of HT_.out (by kernel_rfl)) (fun _ _ _ h => h) (Or.inl ⟨by rfl, ?_⟩) ?_ ?_; rotate_left; · (intro w'; go_simp; with_reducible rfl)
           rotate_left; · (simp only [Act.put, q1, q2, q3, q4, q5, q6, q7]; rfl)
           refine pure_ (i := 9) (N := some 33) (v := ?_) (a' := ?_) (bm 18 1023) rfl rfl (any_of HT_.out (by kernel_rfl)) (fun _ _ _ h => h) (Or.inl ⟨by rfl, ?_⟩) ?_ ?_; rotate_left; · (intro w'; go_simp; with_reducible rfl)
           rotate_left; · (simp only [Act.put, q1, q2, q3, q4, q5, q6, q7]; rfl)
           refine pure_ (i := 10) (N := some 34) (v := ?_) (a' := ?_) (bm 18 2047) rfl rfl (any_of HT_.out (by kernel_rfl)) (fun _ _ _ h => h) (Or.inl ⟨by rfl, ?_⟩) ?_ ?_; rotate_left; · (intro w'; go_simp; with_reducible rfl)
           rotate_left; · (simp only [Act.put, q1, q2, q3, q4, q5, q6, q7]; rfl)
           refine pure_ (i := 11) (N := some 35) (v := ?_) (a' := ?_) (bm 18 4095) rfl rfl (any_of HT_.out (by kernel_rfl)) (fun _ _ _ h => h) (Or.inl ⟨by rfl, ?_⟩) ?_ ?_; rotate_left; · (intro w'; go_simp; with_reducible rfl)
           rotate_left; · (simp only [Act.put, q1, q2, q3, q4, q5, q6, q7]; rfl)
           refine pure_ (i := 13) (N := some 37) (v := ?_) (a' := ?_) (bm 18 12287) rfl rfl (any_of HT_.out (by kernel_rfl)) (fun _ _ _ h => h) (Or.inl ⟨by rfl, ?_⟩) ?_ ?_; rotate_left; · (intro w'; go_simp; with_reducible rfl)
           rotate_left; · (simp only [Act.put, q1, q2, q3, q4, q5, q6, q7]; rfl)
           refine take_ (i := 12) (N := some 36) (v := ?_) (a' := ?_) (bm 18 16383) rfl rfl (take_ofW HT_.out HW_.out (by kernel_rfl)) (fun _ _ _ h => h) (Or.inl ⟨by rfl, ?_⟩) hHeld ?_ ?_; rotate_left; · (rintro w' ⟨s0, s1, s2, s3, s4, s5, s6, s7, s8, s9, s10, s11, s12, s13⟩; go_simp; with_reducible rfl)
           rotate_left; · (simp only [Act.put, q1, q2, q3, q4, q5, q6, q7]; rfl)
           refine take_ (i := 14) (N := some 38) (v := ?_) (a' := ?_) (bm 18 32767) rfl rfl (take_ofW HT_.out HW_.out (by kernel_rfl)) (fun _ _ _ h => h) (Or.inl ⟨by rfl, ?_⟩) hHeld ?_ ?_; rotate_left; · (rintro w' ⟨s0, s1, s2, s3, s4, s5, s6, s7, s8, s9, s10, s11, s12, s13⟩; go_simp; with_reducible rfl)
           rotate_left; · (simp only [Act.put, q1, q2, q3, q4, q5, q6, q7]; rfl)
           refine pure_ (i := 15) (N := some 39) (v := ?_) (a' := ?_) (bm 18 65535) rfl rfl (any_of HT_.out (by kernel_rfl)) (fun _ _ _ h => h) (Or.inl ⟨by rfl, ?_⟩) ?_ ?_; rotate_left; · (intro w'; go_simp; with_reducible rfl)
           rotate_left; · (simp only [Act.put, q1, q2, q3, q4, q5, q6, q7]; rfl)
           refine pure_ (i := 16) (N := some 40) (v := ?_) (a' := ?_) (bm 18 131071) rfl rfl (any_of HT_.out (by kernel_rfl)) (fun _ _ _ h => h) (Or.inl ⟨by rfl, ?_⟩) ?_ ?_; rotate_left; · (intro w'; go_simp; with_reducible rfl)
           rotate_left; · (simp only [Act.put, q1, q2, q3, q4, q5, q6, q7]; rfl)
           refine pure_ (i := 17) (N := some 41) (v := ?_) (a' := ?_) (bm 18 262143) rfl rfl (any_of HT_.out (by kernel_rfl)) (fun _ _ _ h => h) (Or.inl ⟨by rfl, ?_⟩) ?_ ?_; rotate_left; · (intro w'; go_simp; with_reducible rfl)
           rotate_left; · (simp only [Act.put, q1, q2, q3, q4, q5, q6, q7]; rfl)
           refine done_ (done_of HT_.out (by kernel_rfl)) ?_
           try go_wp2
           go_meet
           case rel => exact ⟨_, (!(Op.bytesLess (((rd_T41 l0 (ji11)).f0).toList) (((rd_T41 l0 x4_1).f0).toList))), (by first | rfl | (simp; done) | (simp only [← hji11] <;> (first | rfl | simp)) | (simp [*]; done)), H', ⟨by have := HK1.out; first | omega | exact Nat.le_refl _⟩, ⟨by (with_reducible repeat (first | refine blk_drewN ?_ _ | refine blk_drew ?_ | refine blk_alloc ?_ _)); exact BK172.out⟩, ⟨by repeat (first | (with_reducible first | exact HB.out | apply below_alloc | apply pw_below_drewN | apply below_drew1 | refine below_set ?_ GE172.out) | exact HB.out)⟩⟩
          ·
           rw [if_neg c13] at H
           exact absurd H (by simp)
         ·
          rw [if_neg c12] at H
          exact absurd H (by simp)
        ·
         rw [if_neg c10] at H
         have c10b0 : decide (0 < x4_1) = false := decide_eq_false c10
         clear c10
         (first | rw [c10b0] | (simp only [i64_w, i32_w, IntKind.wrap_u8, IntKind.wrap_u32]; rw [c10b0]) | skip)
         (try rw [c10b0e])
         have H' := Aside0.mk H
         clear H
         try go_wp2
         have n0_ : Aside0 ((((((((w6.setCell ⟨gb172, 0, none⟩ (.string ((rd_T41 l0 x4_1).f0))).setCell ⟨gb172, 1, none⟩ (.int .i64 ((rd_T41 l0 x4_1).f1))).setCell ⟨gb172, 2, none⟩ (.int .i64 ((rd_T41 l0 x4_1).f2))).setCell ⟨gb172, 3, none⟩ (.int .i64 ((rd_T41 l0 x4_1).f3))).setCell ⟨gb172, 4, none⟩ (.string ((rd_T41 l0 x4_1).f4))).setCell ⟨gb172, 5, none⟩ (.string ((rd_T41 l0 x4_1).f5))).setCell ⟨gb172, 6, none⟩ (.int .i64 ((rd_T41 l0 x4_1).f6))).heap[gb172]? = some (.cells #[.string ((rd_T41 l0 x4_1).f0), .int .i64 ((rd_T41 l0 x4_1).f1), .int .i64 ((rd_T41 l0 x4_1).f2), .int .i64 ((rd_T41 l0 x4_1).f3), .string ((rd_T41 l0 x4_1).f4), .string ((rd_T41 l0 x4_1).f5), .int .i64 ((rd_T41 l0 x4_1).f6)] 41 (0, 0))) := ⟨by (with_reducible repeat (first | refine blk_drewN ?_ _ | refine blk_drew ?_ | refine blk_alloc ?_ _)); refine blk_put (cs := #[.string ((rd_T41 l0 x4_1).f0), .int .i64 ((rd_T41 l0 x4_1).f1), .int .i64 ((rd_T41 l0 x4_1).f2), .int .i64 ((rd_T41 l0 x4_1).f3), .string ((rd_T41 l0 x4_1).f4), .string ((rd_T41 l0 x4_1).f5), .int .i64 0]) ?_ 6 _ rfl; (with_reducible repeat (first | refine blk_drewN ?_ _ | refine blk_drew ?_ | refine blk_alloc ?_ _)); refine blk_put (cs := #[.string ((rd_T41 l0 x4_1).f0), .int .i64 ((rd_T41 l0 x4_1).f1), .int .i64 ((rd_T41 l0 x4_1).f2), .int .i64 ((rd_T41 l0 x4_1).f3), .string ((rd_T41 l0 x4_1).f4), .string (⟨#[]⟩ : ByteArray), .int .i64 0]) ?_ 5 _ rfl; (with_reducible repeat (first | refine blk_drewN ?_ _ | refine blk_drew ?_ | refine blk_alloc ?_ _)); refine blk_put (cs := #[.string ((rd_T41 l0 x4_1).f0), .int .i64 ((rd_T41 l0 x4_1).f1), .int .i64 ((rd_T41 l0 x4_1).f2), .int .i64 ((rd_T41 l0 x4_1).f3), .string (⟨#[]⟩ : ByteArray), .string (⟨#[]⟩ : ByteArray), .int .i64 0]) ?_ 4 _ rfl; (with_reducible repeat (first | refine blk_drewN ?_ _ | refine blk_drew ?_ | refine blk_alloc ?_ _)); refine blk_put (cs := #[.string ((rd_T41 l0 x4_1).f0), .int .i64 ((rd_T41 l0 x4_1).f1), .int .i64 ((rd_T41 l0 x4_1).f2), .int .i64 0, .string (⟨#[]⟩ : ByteArray), .string (⟨#[]⟩ : ByteArray), .int .i64 0]) ?_ 3 _ rfl; (with_reducible repeat (first | refine blk_drewN ?_ _ | refine blk_drew ?_ | refine blk_alloc ?_ _)); refine blk_put (cs := #[.string ((rd_T41 l0 x4_1).f0), .int .i64 ((rd_T41 l0 x4_1).f1), .int .i64 0, .int .i64 0, .string (⟨#[]⟩ : ByteArray), .string (⟨#[]⟩ : ByteArray), .int .i64 0]) ?_ 2 _ rfl; (with_reducible repeat (first | refine blk_drewN ?_ _ | refine blk_drew ?_ | refine blk_alloc ?_ _)); refine blk_put (cs := #[.string ((rd_T41 l0 x4_1).f0), .int .i64 0, .int .i64 0, .int .i64 0, .string (⟨#[]⟩ : ByteArray), .string (⟨#[]⟩ : ByteArray), .int .i64 0]) ?_ 1 _ rfl; (with_reducible repeat (first | refine blk_drewN ?_ _ | refine blk_drew ?_ | refine blk_alloc ?_ _)); refine blk_put (cs := #[.string (⟨#[]⟩ : ByteArray), .int .i64 0, .int .i64 0, .int .i64 0, .string (⟨#[]⟩ : ByteArray), .string (⟨#[]⟩ : ByteArray), .int .i64 0]) ?_ 0 _ rfl; (with_reducible repeat (first | refine blk_drewN ?_ _ | refine blk_drew ?_ | refine blk_alloc ?_ _)); exact BK172.out⟩
         have n1_ : Aside0 (Below w.heap.size w (((((((w6.setCell ⟨gb172, 0, none⟩ (.string ((rd_T41 l0 x4_1).f0))).setCell ⟨gb172, 1, none⟩ (.int .i64 ((rd_T41 l0 x4_1).f1))).setCell ⟨gb172, 2, none⟩ (.int .i64 ((rd_T41 l0 x4_1).f2))).setCell ⟨gb172, 3, none⟩ (.int .i64 ((rd_T41 l0 x4_1).f3))).setCell ⟨gb172, 4, none⟩ (.string ((rd_T41 l0 x4_1).f4))).setCell ⟨gb172, 5, none⟩ (.string ((rd_T41 l0 x4_1).f5))).setCell ⟨gb172, 6, none⟩ (.int .i64 ((rd_T41 l0 x4_1).f6)))) := ⟨by repeat (first | (with_reducible first | exact HB.out | apply below_alloc | apply pw_below_drewN | apply below_drew1 | refine below_set ?_ GE172.out) | exact HB.out)⟩
         (try clear BK172)
         (try clear HB)
         generalize (((((((w6.setCell ⟨gb172, 0, none⟩ (.string ((rd_T41 l0 x4_1).f0))).setCell ⟨gb172, 1, none⟩ (.int .i64 ((rd_T41 l0 x4_1).f1))).setCell ⟨gb172, 2, none⟩ (.int .i64 ((rd_T41 l0 x4_1).f2))).setCell ⟨gb172, 3, none⟩ (.int .i64 ((rd_T41 l0 x4_1).f3))).setCell ⟨gb172, 4, none⟩ (.string ((rd_T41 l0 x4_1).f4))).setCell ⟨gb172, 5, none⟩ (.string ((rd_T41 l0 x4_1).f5))).setCell ⟨gb172, 6, none⟩ (.int .i64 ((rd_T41 l0 x4_1).f6))) = w17 at n0_ n1_ ⊢
         have BK172 := n0_
         have HB := n1_
         clear n0_ n1_
         have n0_ := Aside0.mk (blk_drew BK172.out)
         have n1_ := Aside0.mk (below_drew1 HB.out)
         clear BK172
         clear HB
         have BK172 := n0_
         have HB := n1_
         clear n0_ n1_
         refine start_ (n := 18) (S := fun w' => w'.cell? ⟨gb172, 0, none⟩ = some (.string ((rd_T41 l0 x4_1).f0)) ∧ w'.cell? ⟨gb172, 1, none⟩ = some (.int .i64 ((rd_T41 l0 x4_1).f1)) ∧ w'.cell? ⟨gb172, 2, none⟩ = some (.int .i64 ((rd_T41 l0 x4_1).f2)) ∧ w'.cell? ⟨gb172, 3, none⟩ = some (.int .i64 ((rd_T41 l0 x4_1).f3)) ∧ w'.cell? ⟨gb172, 4, none⟩ = some (.string ((rd_T41 l0 x4_1).f4)) ∧ w'.cell? ⟨gb172, 5, none⟩ = some (.string ((rd_T41 l0 x4_1).f5)) ∧ w'.cell? ⟨gb172, 6, none⟩ = some (.int .i64 ((rd_T41 l0 x4_1).f6))) (ds := []) (bm 18 0) (by kernel_rfl) rfl rfl ⟨(blk_cell BK172.out 0).trans rfl, (blk_cell BK172.out 1).trans rfl, (blk_cell BK172.out 2).trans rfl, (blk_cell BK172.out 3).trans rfl, (blk_cell BK172.out 4).trans rfl, (blk_cell BK172.out 5).trans rfl, (blk_cell BK172.out 6).trans rfl⟩ (fun hHeld => ?_); refine with_tabW spec_TreeOk.tab8 spec_TreeOk.bits8 (fun HT_ HW_ => ?_)
         generalize w17.drew = w18 at BK172 HB hHeld ⊢
         refine take_ (i := 0) (N := some 24) (v := ?_) (a' := ?_) (bm 18 1) rfl rfl (take_ofW HT_.out HW_.out (by kernel_rfl)) (fun _ _ _ h => h) (Or.inl ⟨by rfl, ?_⟩) hHeld ?_ ?_; rotate_left; · (rintro w' ⟨s0, s1, s2, s3, s4, s5, s6⟩; go_simp; with_reducible rfl)
         rotate_left; · (simp only [Act.put, q1, q2, q3, q4, q5, q6, q7]; rfl)
         refine one_ (i := 1) (N := some 25) (bm 18 3) rfl rfl (one_of HT_.out (by kernel_rfl)) (by decide) (fun K hK => ?_)
         refine goes_ Tryd.func36 (by kernel_rfl) rfl #[.agg #[.string ((rd_T41 l0 x4_1).f0), .int .i64 ((rd_T41 l0 x4_1).f1), .int .i64 ((rd_T41 l0 x4_1).f2), .int .i64 ((rd_T41 l0 x4_1).f3), .string ((rd_T41 l0 x4_1).f4), .string ((rd_T41 l0 x4_1).f5), .int .i64 ((rd_T41 l0 x4_1).f6)]] (by rfl) rfl rfl (by (try simp only [List.map_toArray, List.map_cons, List.map_nil]); first | done | rfl | (simp only [List.length_drop, List.length_take]; rfl)) ?_
         with_reducible refine (spec_NodeOk.calls k1 ((rd_T41 l0 x4_1).f0) ((rd_T41 l0 x4_1).f1) ((rd_T41 l0 x4_1).f2) ((rd_T41 l0 x4_1).f3) ((rd_T41 l0 x4_1).f4) ((rd_T41 l0 x4_1).f5) ((rd_T41 l0 x4_1).f6) true _ A8.out).mono ?_
         rintro e w19 ⟨rfl, hb⟩
         refine ⟨_, rfl, ?_⟩
         have n0_ := Aside0.mk (blk_below (g := gb172) (o := .cells #[.string ((rd_T41 l0 x4_1).f0), .int .i64 ((rd_T41 l0 x4_1).f1), .int .i64 ((rd_T41 l0 x4_1).f2), .int .i64 ((rd_T41 l0 x4_1).f3), .string ((rd_T41 l0 x4_1).f4), .string ((rd_T41 l0 x4_1).f5), .int .i64 ((rd_T41 l0 x4_1).f6)] 41 (0, 0)) (by (with_reducible repeat (first | refine blk_drewN ?_ _ | refine blk_drew ?_ | refine blk_alloc ?_ _)); exact BK172.out) hb)
         have n1_ := Aside0.mk (below_step (by repeat (first | (with_reducible first | exact HB.out | apply below_alloc | apply pw_below_drewN | apply below_drew1 | refine below_set ?_ GE172.out) | exact HB.out)) hb)
         clear BK172
         clear HB
         have BK172 := n0_
         have HB := n1_
         clear n0_ n1_
         (try clear hb)
         (try clear hb2)
         (try clear hk)
         (try clear hi)
         refine hK.out _ _ ⟨(blk_cell BK172.out 0).trans rfl, (blk_cell BK172.out 1).trans rfl, (blk_cell BK172.out 2).trans rfl, (blk_cell BK172.out 3).trans rfl, (blk_cell BK172.out 4).trans rfl, (blk_cell BK172.out 5).trans rfl, (blk_cell BK172.out 6).trans rfl⟩ (fun hHeld => ?_)
         clear hK K
         refine norm_ (a' := ?_) ?_ ?_
         rotate_left
         ·
          show Act.put _ (some 25) _ = _
          simp only [Act.put, q1, q2, q3, q4, q5, q6, q7]
          rfl
         refine pure_ (i := 2) (N := some 26) (v := ?_) (a' := ?_) (bm 18 7) rfl rfl (any_of HT_.out (by kernel_rfl)) (fun _ _ _ h => h) (Or.inl ⟨by rfl, ?_⟩) ?_ ?_; rotate_left; · (intro w'; go_simp; with_reducible rfl)
         rotate_left; · (simp only [Act.put, q1, q2, q3, q4, q5, q6, q7]; rfl)
         refine pure_ (i := 3) (N := some 27) (v := ?_) (a' := ?_) (bm 18 15) rfl rfl (any_of HT_.out (by kernel_rfl)) (fun _ _ _ h => h) (Or.inl ⟨by rfl, ?_⟩) ?_ ?_; rotate_left; · (intro w'; go_simp; with_reducible rfl)
         rotate_left; · (simp only [Act.put, q1, q2, q3, q4, q5, q6, q7]; rfl)
         refine pure_ (i := 4) (N := some 28) (v := ?_) (a' := ?_) (bm 18 31) rfl rfl (any_of HT_.out (by kernel_rfl)) (fun _ _ _ h => h) (Or.inl ⟨by rfl, ?_⟩) ?_ ?_; rotate_left; · (intro w'; go_simp; with_reducible rfl)
         rotate_left; · (simp only [Act.put, q1, q2, q3, q4, q5, q6, q7]; rfl)
         refine pure_ (i := 5) (N := some 29) (v := ?_) (a' := ?_) (bm 18 63) rfl rfl (any_of HT_.out (by kernel_rfl)) (fun _ _ _ h => h) (Or.inl ⟨by rfl, ?_⟩) ?_ ?_; rotate_left; · (intro w'; go_simp; with_reducible rfl)
         rotate_left; · (simp only [Act.put, q1, q2, q3, q4, q5, q6, q7]; rfl)
         refine pure_ (i := 6) (N := some 30) (v := ?_) (a' := ?_) (bm 18 127) rfl rfl (any_of HT_.out (by kernel_rfl)) (fun _ _ _ h => h) (Or.inl ⟨by rfl, ?_⟩) ?_ ?_; rotate_left; · (intro w'; go_simp; with_reducible rfl)
         rotate_left; · (simp only [Act.put, q1, q2, q3, q4, q5, q6, q7]; rfl)
         refine pure_ (i := 7) (N := some 31) (v := undef) (a' := ?_) (bm 18 255) rfl rfl (any_of HT_.out (by kernel_rfl)) (fun _ _ _ h => h) (Or.inr ⟨by rfl, rfl⟩) ?_ ?_
         rotate_left
         · (simp only [Act.put, q1, q2, q3, q4, q5, q6, q7]; rfl)
         refine pure_ (i := 8) (N := some 32) (v := undef) (a' := ?_) (bm 18 511) rfl rfl (any_of HT_.out (by kernel_rfl)) (fun _ _ _ h => h) (Or.inr ⟨by rfl, rfl⟩) ?_ ?_
         rotate_left
         · (simp only [Act.put, q1, q2, q3, q4, q5, q6, q7]; rfl)
         refine pure_ (i := 9) (N := some 33) (v := undef) (a' := ?_) (bm 18 1023) rfl rfl (any_of HT_.out (by kernel_rfl)) (fun _ _ _ h => h) (Or.inr ⟨by rfl, rfl⟩) ?_ ?_
         rotate_left
         · (simp only [Act.put, q1, q2, q3, q4, q5, q6, q7]; rfl)
         refine pure_ (i := 10) (N := some 34) (v := undef) (a' := ?_) (bm 18 2047) rfl rfl (any_of HT_.out (by kernel_rfl)) (fun _ _ _ h => h) (Or.inr ⟨by rfl, rfl⟩) ?_ ?_
         rotate_left
         · (simp only [Act.put, q1, q2, q3, q4, q5, q6, q7]; rfl)
         refine pure_ (i := 11) (N := some 35) (v := undef) (a' := ?_) (bm 18 4095) rfl rfl (any_of HT_.out (by kernel_rfl)) (fun _ _ _ h => h) (Or.inr ⟨by rfl, rfl⟩) ?_ ?_
         rotate_left
         · (simp only [Act.put, q1, q2, q3, q4, q5, q6, q7]; rfl)
         refine pure_ (i := 12) (N := some 36) (v := undef) (a' := ?_) (bm 18 8191) rfl rfl (any_of HT_.out (by kernel_rfl)) (fun _ _ _ h => h) (Or.inr ⟨by rfl, rfl⟩) ?_ ?_
         rotate_left
         · (simp only [Act.put, q1, q2, q3, q4, q5, q6, q7]; rfl)
         refine pure_ (i := 13) (N := some 37) (v := undef) (a' := ?_) (bm 18 16383) rfl rfl (any_of HT_.out (by kernel_rfl)) (fun _ _ _ h => h) (Or.inr ⟨by rfl, rfl⟩) ?_ ?_
         rotate_left
         · (simp only [Act.put, q1, q2, q3, q4, q5, q6, q7]; rfl)
         refine pure_ (i := 14) (N := some 38) (v := undef) (a' := ?_) (bm 18 32767) rfl rfl (any_of HT_.out (by kernel_rfl)) (fun _ _ _ h => h) (Or.inr ⟨by rfl, rfl⟩) ?_ ?_
         rotate_left
         · (simp only [Act.put, q1, q2, q3, q4, q5, q6, q7]; rfl)
         refine pure_ (i := 15) (N := some 39) (v := undef) (a' := ?_) (bm 18 65535) rfl rfl (any_of HT_.out (by kernel_rfl)) (fun _ _ _ h => h) (Or.inr ⟨by rfl, rfl⟩) ?_ ?_
         rotate_left
         · (simp only [Act.put, q1, q2, q3, q4, q5, q6, q7]; rfl)
         refine pure_ (i := 16) (N := some 40) (v := ?_) (a' := ?_) (bm 18 131071) rfl rfl (any_of HT_.out (by kernel_rfl)) (fun _ _ _ h => h) (Or.inl ⟨by rfl, ?_⟩) ?_ ?_; rotate_left; · (intro w'; go_simp; with_reducible rfl)
         rotate_left; · (simp only [Act.put, q1, q2, q3, q4, q5, q6, q7]; rfl)
         refine pure_ (i := 17) (N := some 41) (v := ?_) (a' := ?_) (bm 18 262143) rfl rfl (any_of HT_.out (by kernel_rfl)) (fun _ _ _ h => h) (Or.inl ⟨by rfl, ?_⟩) ?_ ?_; rotate_left; · (intro w'; go_simp; with_reducible rfl)
         rotate_left; · (simp only [Act.put, q1, q2, q3, q4, q5, q6, q7]; rfl)
         refine done_ (done_of HT_.out (by kernel_rfl)) ?_
         try go_wp2
         go_meet
         case rel => exact ⟨_, (false), (by first | rfl | (simp; done) | (simp [*]; done)), H', ⟨by have := HK1.out; first | omega | exact Nat.le_refl _⟩, ⟨by (with_reducible repeat (first | refine blk_drewN ?_ _ | refine blk_drew ?_ | refine blk_alloc ?_ _)); exact BK172.out⟩, ⟨by repeat (first | (with_reducible first | exact HB.out | apply below_alloc | apply pw_below_drewN | apply below_drew1 | refine below_set ?_ GE172.out) | exact HB.out)⟩⟩
       ·
        replace c9 := Bool.eq_false_iff.mpr c9
        subst c9
        have H1 : (spec_TreeOk.j1 k1 l0 x3_1 x4_1 true ((rd_T41 l0 x4_1).f0) ((rd_T41 l0 x4_1).f1) ((rd_T41 l0 x4_1).f2) ((rd_T41 l0 x4_1).f3) ((rd_T41 l0 x4_1).f4) ((rd_T41 l0 x4_1).f5) ((rd_T41 l0 x4_1).f6)) = some r := by rw [if_neg (show ¬ (false = true) by decide)] at H; exact H
        clear H
        have H := H1
        clear H1
        have H' := Aside0.mk H
        clear H
        try go_wp2
        have n0_ : Aside0 ((((((((w6.setCell ⟨gb172, 0, none⟩ (.string ((rd_T41 l0 x4_1).f0))).setCell ⟨gb172, 1, none⟩ (.int .i64 ((rd_T41 l0 x4_1).f1))).setCell ⟨gb172, 2, none⟩ (.int .i64 ((rd_T41 l0 x4_1).f2))).setCell ⟨gb172, 3, none⟩ (.int .i64 ((rd_T41 l0 x4_1).f3))).setCell ⟨gb172, 4, none⟩ (.string ((rd_T41 l0 x4_1).f4))).setCell ⟨gb172, 5, none⟩ (.string ((rd_T41 l0 x4_1).f5))).setCell ⟨gb172, 6, none⟩ (.int .i64 ((rd_T41 l0 x4_1).f6))).heap[gb172]? = some (.cells #[.string ((rd_T41 l0 x4_1).f0), .int .i64 ((rd_T41 l0 x4_1).f1), .int .i64 ((rd_T41 l0 x4_1).f2), .int .i64 ((rd_T41 l0 x4_1).f3), .string ((rd_T41 l0 x4_1).f4), .string ((rd_T41 l0 x4_1).f5), .int .i64 ((rd_T41 l0 x4_1).f6)] 41 (0, 0))) := ⟨by (with_reducible repeat (first | refine blk_drewN ?_ _ | refine blk_drew ?_ | refine blk_alloc ?_ _)); refine blk_put (cs := #[.string ((rd_T41 l0 x4_1).f0), .int .i64 ((rd_T41 l0 x4_1).f1), .int .i64 ((rd_T41 l0 x4_1).f2), .int .i64 ((rd_T41 l0 x4_1).f3), .string ((rd_T41 l0 x4_1).f4), .string ((rd_T41 l0 x4_1).f5), .int .i64 0]) ?_ 6 _ rfl; (with_reducible repeat (first | refine blk_drewN ?_ _ | refine blk_drew ?_ | refine blk_alloc ?_ _)); refine blk_put (cs := #[.string ((rd_T41 l0 x4_1).f0), .int .i64 ((rd_T41 l0 x4_1).f1), .int .i64 ((rd_T41 l0 x4_1).f2), .int .i64 ((rd_T41 l0 x4_1).f3), .string ((rd_T41 l0 x4_1).f4), .string (⟨#[]⟩ : ByteArray), .int .i64 0]) ?_ 5 _ rfl; (with_reducible repeat (first | refine blk_drewN ?_ _ | refine blk_drew ?_ | refine blk_alloc ?_ _)); refine blk_put (cs := #[.string ((rd_T41 l0 x4_1).f0), .int .i64 ((rd_T41 l0 x4_1).f1), .int .i64 ((rd_T41 l0 x4_1).f2), .int .i64 ((rd_T41 l0 x4_1).f3), .string (⟨#[]⟩ : ByteArray), .string (⟨#[]⟩ : ByteArray), .int .i64 0]) ?_ 4 _ rfl; (with_reducible repeat (first | refine blk_drewN ?_ _ | refine blk_drew ?_ | refine blk_alloc ?_ _)); refine blk_put (cs := #[.string ((rd_T41 l0 x4_1).f0), .int .i64 ((rd_T41 l0 x4_1).f1), .int .i64 ((rd_T41 l0 x4_1).f2), .int .i64 0, .string (⟨#[]⟩ : ByteArray), .string (⟨#[]⟩ : ByteArray), .int .i64 0]) ?_ 3 _ rfl; (with_reducible repeat (first | refine blk_drewN ?_ _ | refine blk_drew ?_ | refine blk_alloc ?_ _)); refine blk_put (cs := #[.string ((rd_T41 l0 x4_1).f0), .int .i64 ((rd_T41 l0 x4_1).f1), .int .i64 0, .int .i64 0, .string (⟨#[]⟩ : ByteArray), .string (⟨#[]⟩ : ByteArray), .int .i64 0]) ?_ 2 _ rfl; (with_reducible repeat (first | refine blk_drewN ?_ _ | refine blk_drew ?_ | refine blk_alloc ?_ _)); refine blk_put (cs := #[.string ((rd_T41 l0 x4_1).f0), .int .i64 0, .int .i64 0, .int .i64 0, .string (⟨#[]⟩ : ByteArray), .string (⟨#[]⟩ : ByteArray), .int .i64 0]) ?_ 1 _ rfl; (with_reducible repeat (first | refine blk_drewN ?_ _ | refine blk_drew ?_ | refine blk_alloc ?_ _)); refine blk_put (cs := #[.string (⟨#[]⟩ : ByteArray), .int .i64 0, .int .i64 0, .int .i64 0, .string (⟨#[]⟩ : ByteArray), .string (⟨#[]⟩ : ByteArray), .int .i64 0]) ?_ 0 _ rfl; (with_reducible repeat (first | refine blk_drewN ?_ _ | refine blk_drew ?_ | refine blk_alloc ?_ _)); exact BK172.out⟩
        have n1_ : Aside0 (Below w.heap.size w (((((((w6.setCell ⟨gb172, 0, none⟩ (.string ((rd_T41 l0 x4_1).f0))).setCell ⟨gb172, 1, none⟩ (.int .i64 ((rd_T41 l0 x4_1).f1))).setCell ⟨gb172, 2, none⟩ (.int .i64 ((rd_T41 l0 x4_1).f2))).setCell ⟨gb172, 3, none⟩ (.int .i64 ((rd_T41 l0 x4_1).f3))).setCell ⟨gb172, 4, none⟩ (.string ((rd_T41 l0 x4_1).f4))).setCell ⟨gb172, 5, none⟩ (.string ((rd_T41 l0 x4_1).f5))).setCell ⟨gb172, 6, none⟩ (.int .i64 ((rd_T41 l0 x4_1).f6)))) := ⟨by repeat (first | (with_reducible first | exact HB.out | apply below_alloc | apply pw_below_drewN | apply below_drew1 | refine below_set ?_ GE172.out) | exact HB.out)⟩
        (try clear BK172)
        (try clear HB)
        generalize (((((((w6.setCell ⟨gb172, 0, none⟩ (.string ((rd_T41 l0 x4_1).f0))).setCell ⟨gb172, 1, none⟩ (.int .i64 ((rd_T41 l0 x4_1).f1))).setCell ⟨gb172, 2, none⟩ (.int .i64 ((rd_T41 l0 x4_1).f2))).setCell ⟨gb172, 3, none⟩ (.int .i64 ((rd_T41 l0 x4_1).f3))).setCell ⟨gb172, 4, none⟩ (.string ((rd_T41 l0 x4_1).f4))).setCell ⟨gb172, 5, none⟩ (.string ((rd_T41 l0 x4_1).f5))).setCell ⟨gb172, 6, none⟩ (.int .i64 ((rd_T41 l0 x4_1).f6))) = w20 at n0_ n1_ ⊢
        have BK172 := n0_
        have HB := n1_
        clear n0_ n1_
        have n0_ := Aside0.mk (blk_drew BK172.out)
        have n1_ := Aside0.mk (below_drew1 HB.out)
        clear BK172
        clear HB
        have BK172 := n0_
        have HB := n1_
        clear n0_ n1_
        refine start_ (n := 18) (S := fun w' => w'.cell? ⟨gb172, 0, none⟩ = some (.string ((rd_T41 l0 x4_1).f0)) ∧ w'.cell? ⟨gb172, 1, none⟩ = some (.int .i64 ((rd_T41 l0 x4_1).f1)) ∧ w'.cell? ⟨gb172, 2, none⟩ = some (.int .i64 ((rd_T41 l0 x4_1).f2)) ∧ w'.cell? ⟨gb172, 3, none⟩ = some (.int .i64 ((rd_T41 l0 x4_1).f3)) ∧ w'.cell? ⟨gb172, 4, none⟩ = some (.string ((rd_T41 l0 x4_1).f4)) ∧ w'.cell? ⟨gb172, 5, none⟩ = some (.string ((rd_T41 l0 x4_1).f5)) ∧ w'.cell? ⟨gb172, 6, none⟩ = some (.int .i64 ((rd_T41 l0 x4_1).f6))) (ds := []) (bm 18 0) (by kernel_rfl) rfl rfl ⟨(blk_cell BK172.out 0).trans rfl, (blk_cell BK172.out 1).trans rfl, (blk_cell BK172.out 2).trans rfl, (blk_cell BK172.out 3).trans rfl, (blk_cell BK172.out 4).trans rfl, (blk_cell BK172.out 5).trans rfl, (blk_cell BK172.out 6).trans rfl⟩ (fun hHeld => ?_); refine with_tabW spec_TreeOk.tab8 spec_TreeOk.bits8 (fun HT_ HW_ => ?_)
        generalize w20.drew = w21 at BK172 HB hHeld ⊢
        refine take_ (i := 0) (N := some 24) (v := ?_) (a' := ?_) (bm 18 1) rfl rfl (take_ofW HT_.out HW_.out (by kernel_rfl)) (fun _ _ _ h => h) (Or.inl ⟨by rfl, ?_⟩) hHeld ?_ ?_; rotate_left; · (rintro w' ⟨s0, s1, s2, s3, s4, s5, s6⟩; go_simp; with_reducible rfl)
        rotate_left; · (simp only [Act.put, q1, q2, q3, q4, q5, q6, q7]; rfl)
        refine one_ (i := 1) (N := some 25) (bm 18 3) rfl rfl (one_of HT_.out (by kernel_rfl)) (by decide) (fun K hK => ?_)
        refine goes_ Tryd.func36 (by kernel_rfl) rfl #[.agg #[.string ((rd_T41 l0 x4_1).f0), .int .i64 ((rd_T41 l0 x4_1).f1), .int .i64 ((rd_T41 l0 x4_1).f2), .int .i64 ((rd_T41 l0 x4_1).f3), .string ((rd_T41 l0 x4_1).f4), .string ((rd_T41 l0 x4_1).f5), .int .i64 ((rd_T41 l0 x4_1).f6)]] (by rfl) rfl rfl (by (try simp only [List.map_toArray, List.map_cons, List.map_nil]); first | done | rfl | (simp only [List.length_drop, List.length_take]; rfl)) ?_
        with_reducible refine (spec_NodeOk.calls k1 ((rd_T41 l0 x4_1).f0) ((rd_T41 l0 x4_1).f1) ((rd_T41 l0 x4_1).f2) ((rd_T41 l0 x4_1).f3) ((rd_T41 l0 x4_1).f4) ((rd_T41 l0 x4_1).f5) ((rd_T41 l0 x4_1).f6) false _ A8.out).mono ?_
        rintro e w22 ⟨rfl, hb⟩
        refine ⟨_, rfl, ?_⟩
        have n0_ := Aside0.mk (blk_below (g := gb172) (o := .cells #[.string ((rd_T41 l0 x4_1).f0), .int .i64 ((rd_T41 l0 x4_1).f1), .int .i64 ((rd_T41 l0 x4_1).f2), .int .i64 ((rd_T41 l0 x4_1).f3), .string ((rd_T41 l0 x4_1).f4), .string ((rd_T41 l0 x4_1).f5), .int .i64 ((rd_T41 l0 x4_1).f6)] 41 (0, 0)) (by (with_reducible repeat (first | refine blk_drewN ?_ _ | refine blk_drew ?_ | refine blk_alloc ?_ _)); exact BK172.out) hb)
        have n1_ := Aside0.mk (below_step (by repeat (first | (with_reducible first | exact HB.out | apply below_alloc | apply pw_below_drewN | apply below_drew1 | refine below_set ?_ GE172.out) | exact HB.out)) hb)
        clear BK172
        clear HB
        have BK172 := n0_
        have HB := n1_
        clear n0_ n1_
        (try clear hb)
        (try clear hb2)
        (try clear hk)
        (try clear hi)
        refine hK.out _ _ ⟨(blk_cell BK172.out 0).trans rfl, (blk_cell BK172.out 1).trans rfl, (blk_cell BK172.out 2).trans rfl, (blk_cell BK172.out 3).trans rfl, (blk_cell BK172.out 4).trans rfl, (blk_cell BK172.out 5).trans rfl, (blk_cell BK172.out 6).trans rfl⟩ (fun hHeld => ?_)
        clear hK K
        refine norm_ (a' := ?_) ?_ ?_
        rotate_left
        ·
         show Act.put _ (some 25) _ = _
         simp only [Act.put, q1, q2, q3, q4, q5, q6, q7]
         rfl
        refine pure_ (i := 2) (N := some 26) (v := ?_) (a' := ?_) (bm 18 7) rfl rfl (any_of HT_.out (by kernel_rfl)) (fun _ _ _ h => h) (Or.inl ⟨by rfl, ?_⟩) ?_ ?_; rotate_left; · (intro w'; go_simp; with_reducible rfl)
        rotate_left; · (simp only [Act.put, q1, q2, q3, q4, q5, q6, q7]; rfl)
        refine pure_ (i := 3) (N := some 27) (v := ?_) (a' := ?_) (bm 18 15) rfl rfl (any_of HT_.out (by kernel_rfl)) (fun _ _ _ h => h) (Or.inl ⟨by rfl, ?_⟩) ?_ ?_; rotate_left; · (intro w'; go_simp; with_reducible rfl)
        rotate_left; · (simp only [Act.put, q1, q2, q3, q4, q5, q6, q7]; rfl)
        refine pure_ (i := 4) (N := some 28) (v := undef) (a' := ?_) (bm 18 31) rfl rfl (any_of HT_.out (by kernel_rfl)) (fun _ _ _ h => h) (Or.inr ⟨by rfl, rfl⟩) ?_ ?_
        rotate_left
        · (simp only [Act.put, q1, q2, q3, q4, q5, q6, q7]; rfl)
        refine pure_ (i := 5) (N := some 29) (v := undef) (a' := ?_) (bm 18 63) rfl rfl (any_of HT_.out (by kernel_rfl)) (fun _ _ _ h => h) (Or.inr ⟨by rfl, rfl⟩) ?_ ?_
        rotate_left
        · (simp only [Act.put, q1, q2, q3, q4, q5, q6, q7]; rfl)
        refine pure_ (i := 6) (N := some 30) (v := undef) (a' := ?_) (bm 18 127) rfl rfl (any_of HT_.out (by kernel_rfl)) (fun _ _ _ h => h) (Or.inr ⟨by rfl, rfl⟩) ?_ ?_
        rotate_left
        · (simp only [Act.put, q1, q2, q3, q4, q5, q6, q7]; rfl)
        refine pure_ (i := 7) (N := some 31) (v := undef) (a' := ?_) (bm 18 255) rfl rfl (any_of HT_.out (by kernel_rfl)) (fun _ _ _ h => h) (Or.inr ⟨by rfl, rfl⟩) ?_ ?_
        rotate_left
        · (simp only [Act.put, q1, q2, q3, q4, q5, q6, q7]; rfl)
        refine pure_ (i := 8) (N := some 32) (v := undef) (a' := ?_) (bm 18 511) rfl rfl (any_of HT_.out (by kernel_rfl)) (fun _ _ _ h => h) (Or.inr ⟨by rfl, rfl⟩) ?_ ?_
        rotate_left
        · (simp only [Act.put, q1, q2, q3, q4, q5, q6, q7]; rfl)
        refine pure_ (i := 9) (N := some 33) (v := undef) (a' := ?_) (bm 18 1023) rfl rfl (any_of HT_.out (by kernel_rfl)) (fun _ _ _ h => h) (Or.inr ⟨by rfl, rfl⟩) ?_ ?_
        rotate_left
        · (simp only [Act.put, q1, q2, q3, q4, q5, q6, q7]; rfl)
        refine pure_ (i := 10) (N := some 34) (v := undef) (a' := ?_) (bm 18 2047) rfl rfl (any_of HT_.out (by kernel_rfl)) (fun _ _ _ h => h) (Or.inr ⟨by rfl, rfl⟩) ?_ ?_
        rotate_left
        · (simp only [Act.put, q1, q2, q3, q4, q5, q6, q7]; rfl)
        refine pure_ (i := 11) (N := some 35) (v := undef) (a' := ?_) (bm 18 4095) rfl rfl (any_of HT_.out (by kernel_rfl)) (fun _ _ _ h => h) (Or.inr ⟨by rfl, rfl⟩) ?_ ?_
        rotate_left
        · (simp only [Act.put, q1, q2, q3, q4, q5, q6, q7]; rfl)
        refine pure_ (i := 12) (N := some 36) (v := undef) (a' := ?_) (bm 18 8191) rfl rfl (any_of HT_.out (by kernel_rfl)) (fun _ _ _ h => h) (Or.inr ⟨by rfl, rfl⟩) ?_ ?_
        rotate_left
        · (simp only [Act.put, q1, q2, q3, q4, q5, q6, q7]; rfl)
        refine pure_ (i := 13) (N := some 37) (v := undef) (a' := ?_) (bm 18 16383) rfl rfl (any_of HT_.out (by kernel_rfl)) (fun _ _ _ h => h) (Or.inr ⟨by rfl, rfl⟩) ?_ ?_
        rotate_left
        · (simp only [Act.put, q1, q2, q3, q4, q5, q6, q7]; rfl)
        refine pure_ (i := 14) (N := some 38) (v := undef) (a' := ?_) (bm 18 32767) rfl rfl (any_of HT_.out (by kernel_rfl)) (fun _ _ _ h => h) (Or.inr ⟨by rfl, rfl⟩) ?_ ?_
        rotate_left
        · (simp only [Act.put, q1, q2, q3, q4, q5, q6, q7]; rfl)
        refine pure_ (i := 15) (N := some 39) (v := undef) (a' := ?_) (bm 18 65535) rfl rfl (any_of HT_.out (by kernel_rfl)) (fun _ _ _ h => h) (Or.inr ⟨by rfl, rfl⟩) ?_ ?_
        rotate_left
        · (simp only [Act.put, q1, q2, q3, q4, q5, q6, q7]; rfl)
        refine pure_ (i := 16) (N := some 40) (v := undef) (a' := ?_) (bm 18 131071) rfl rfl (any_of HT_.out (by kernel_rfl)) (fun _ _ _ h => h) (Or.inr ⟨by rfl, rfl⟩) ?_ ?_
        rotate_left
        · (simp only [Act.put, q1, q2, q3, q4, q5, q6, q7]; rfl)
        refine pure_ (i := 17) (N := some 41) (v := ?_) (a' := ?_) (bm 18 262143) rfl rfl (any_of HT_.out (by kernel_rfl)) (fun _ _ _ h => h) (Or.inl ⟨by rfl, ?_⟩) ?_ ?_; rotate_left; · (intro w'; go_simp; with_reducible rfl)
        rotate_left; · (simp only [Act.put, q1, q2, q3, q4, q5, q6, q7]; rfl)
        refine done_ (done_of HT_.out (by kernel_rfl)) ?_
        try go_wp2
        go_meet
        case rel => exact ⟨_, (true), (by first | rfl | (simp; done) | (simp [*]; done)), H', ⟨by have := HK1.out; first | omega | exact Nat.le_refl _⟩, ⟨by (with_reducible repeat (first | refine blk_drewN ?_ _ | refine blk_drew ?_ | refine blk_alloc ?_ _)); exact BK172.out⟩, ⟨by repeat (first | (with_reducible first | exact HB.out | apply below_alloc | apply pw_below_drewN | apply below_drew1 | refine below_set ?_ GE172.out) | exact HB.out)⟩⟩
      case rest =>
       clear HC5
       try clear c1
       try clear p1
       try clear q1
       try clear hx1
       try clear c2
       try clear c2b0
       try clear c2b1
       try clear p2
       try clear c3
       try clear c3b0
       try clear c4
       try clear c4b0
       try clear p6
       try clear c9
       try clear c10
       try clear c10b0
       try clear c12
       try clear c12b0
       try clear c13
       try clear c13b0
       try clear p17
       try clear q17
       try clear hx17
       try clear hcz7_0
       try clear hcz7_1
       try clear hcz7_2
       try clear hcz7_3
       try clear hcz7_4
       try clear hcz7_5
       try clear hcz7_6
       try clear hfz7_0
       try clear hfz7_1
       try clear hfz7_2
       try clear hfz7_3
       try clear hfz7_4
       try clear hfz7_5
       try clear hfz7_6
       try clear hx171_0
       try clear hx171_1
       try clear hx171_2
       try clear hx171_3
       try clear hx171_4
       try clear hx171_5
       try clear hx171_6
       try clear hx174_0
       try clear hx174_1
       try clear hx174_2
       try clear hx174_3
       try clear hx174_4
       try clear hx174_5
       try clear hx174_6
       try clear p171
       try clear p174
       try clear p2
       try clear q171
       try clear q174
       obtain ⟨kq, x41_4, rfl, HA, HJ4, BK172, HB⟩ := hcut
       cases kq with
       | zero => exact absurd HA.out (by simp [spec_TreeOk.j1])
       | succ kj4 =>
        have H := HA.out
        clear HA
        simp only [spec_TreeOk.j1] at H
        by_cases c23 : x41_4 = true
        ·
         subst c23
         have H1 : (some false) = some r := by rw [if_pos rfl] at H; exact H
         clear H
         have H := H1
         clear H1
         obtain rfl := Option.some.inj H
         go_wp2
         go_ret
         exact ⟨by first | rfl | (simp [errW_none, errW_some] <;> rfl) | (simp [*, errW_none, errW_some] <;> rfl), by repeat (first | (with_reducible first | exact HB.out | apply below_alloc | apply pw_below_drewN | apply below_drew1 | refine below_set ?_ GE172.out) | exact HB.out)⟩
        ·
         replace c23 := Bool.eq_false_iff.mpr c23
         subst c23
         have H1 : ((spec_ParentOf.f kj4 ((rd_T41 l0 x4_1).f0)).bind fun t175 => ((spec_l10At.f kj4 l0 t175).bind fun t176 => (if t175.toList = ([] : List UInt8) then (spec_TreeOk.l0 kj4 l0 (wrap64 (x3_1 + (((rd_T41 l0 x4_1).f4).size : Int))) (wrap64 (x4_1 + 1))) else (if t176 < 0 then (some false) else (if 0 ≤ t176 then (if t176 < (l0.length : Int) then (if ((rd_T41 l0 t176).f1) = 0 then (spec_TreeOk.l0 kj4 l0 (wrap64 (x3_1 + (((rd_T41 l0 x4_1).f4).size : Int))) (wrap64 (x4_1 + 1))) else (some false)) else (none)) else (none)))))) = some r := by rw [if_neg (show ¬ (false = true) by decide)] at H; exact H
         clear H
         have H := H1
         clear H1
         replace H := Option.bind_eq_some_iff.mp H
         obtain ⟨t175, A240, H⟩ := H
         replace H : ((spec_l10At.f kj4 l0 t175).bind fun t176 => (if t175.toList = ([] : List UInt8) then (spec_TreeOk.l0 kj4 l0 (wrap64 (x3_1 + (((rd_T41 l0 x4_1).f4).size : Int))) (wrap64 (x4_1 + 1))) else (if t176 < 0 then (some false) else (if 0 ≤ t176 then (if t176 < (l0.length : Int) then (if ((rd_T41 l0 t176).f1) = 0 then (spec_TreeOk.l0 kj4 l0 (wrap64 (x3_1 + (((rd_T41 l0 x4_1).f4).size : Int))) (wrap64 (x4_1 + 1))) else (some false)) else (none)) else (none))))) = some r := H
         have A24 := Aside0.mk A240
         clear A240
         replace H := Option.bind_eq_some_iff.mp H
         obtain ⟨t176, A250, H⟩ := H
         replace H : (if t175.toList = ([] : List UInt8) then (spec_TreeOk.l0 kj4 l0 (wrap64 (x3_1 + (((rd_T41 l0 x4_1).f4).size : Int))) (wrap64 (x4_1 + 1))) else (if t176 < 0 then (some false) else (if 0 ≤ t176 then (if t176 < (l0.length : Int) then (if ((rd_T41 l0 t176).f1) = 0 then (spec_TreeOk.l0 kj4 l0 (wrap64 (x3_1 + (((rd_T41 l0 x4_1).f4).size : Int))) (wrap64 (x4_1 + 1))) else (some false)) else (none)) else (none)))) = some r := H
         have A25 := Aside0.mk A250
         clear A250
         by_cases c26 : t175.toList = ([] : List UInt8)
         ·
          rw [if_pos c26] at H
          have c26b0 : (t175.toList == ([] : List UInt8)) = true := beq_iff_eq.mpr c26
          try (have c26b0e : t175.toList.isEmpty = true := by have h_ := c26b0; revert h_; cases t175.toList <;> simp)
          have c26b1 : (t175.toList != ([] : List UInt8)) = false := bne_eq_false_iff_eq.mpr c26
          clear c26
          have H' := Aside0.mk H
          clear H
          have hcz27_0 : wc.cell? ⟨gb172, 0, none⟩ = some (.string ((rd_T41 l0 x4_1).f0)) := (blk_cell BK172.out 0).trans rfl
          have hcz27_1 : wc.cell? ⟨gb172, 1, none⟩ = some (.int .i64 ((rd_T41 l0 x4_1).f1)) := (blk_cell BK172.out 1).trans rfl
          have hcz27_2 : wc.cell? ⟨gb172, 2, none⟩ = some (.int .i64 ((rd_T41 l0 x4_1).f2)) := (blk_cell BK172.out 2).trans rfl
          have hcz27_3 : wc.cell? ⟨gb172, 3, none⟩ = some (.int .i64 ((rd_T41 l0 x4_1).f3)) := (blk_cell BK172.out 3).trans rfl
          have hcz27_4 : wc.cell? ⟨gb172, 4, none⟩ = some (.string ((rd_T41 l0 x4_1).f4)) := (blk_cell BK172.out 4).trans rfl
          have hcz27_5 : wc.cell? ⟨gb172, 5, none⟩ = some (.string ((rd_T41 l0 x4_1).f5)) := (blk_cell BK172.out 5).trans rfl
          have hcz27_6 : wc.cell? ⟨gb172, 6, none⟩ = some (.int .i64 ((rd_T41 l0 x4_1).f6)) := (blk_cell BK172.out 6).trans rfl
          have hfz27_0 := blk_frozen BK172.out 0
          have hfz27_1 := blk_frozen BK172.out 1
          have hfz27_2 := blk_frozen BK172.out 2
          have hfz27_3 := blk_frozen BK172.out 3
          have hfz27_4 := blk_frozen BK172.out 4
          have hfz27_5 := blk_frozen BK172.out 5
          have hfz27_6 := blk_frozen BK172.out 6
          go_wp2_with (first | ((with_reducible refine gate_callee (f := 39) rfl ?_); refine goesL_ (some 49) rfl rfl Tryd.func39 (by kernel_rfl) rfl #[.string ((rd_T41 l0 x4_1).f0)] rfl (by (try simp only [List.map_toArray, List.map_cons, List.map_nil]); first | done | rfl | (simp only [List.length_drop, List.length_take]; rfl)) ?_; (with_reducible refine (spec_ParentOf.calls kj4 ((rd_T41 l0 x4_1).f0) t175 _ A24.out).mono ?_); rintro e w28 ⟨rfl, hb⟩; refine ⟨_, rfl, ?_⟩; have n0_ := Aside0.mk (blk_below (g := gb172) (o := .cells #[.string ((rd_T41 l0 x4_1).f0), .int .i64 ((rd_T41 l0 x4_1).f1), .int .i64 ((rd_T41 l0 x4_1).f2), .int .i64 ((rd_T41 l0 x4_1).f3), .string ((rd_T41 l0 x4_1).f4), .string ((rd_T41 l0 x4_1).f5), .int .i64 ((rd_T41 l0 x4_1).f6)] 41 (0, 0)) (by (with_reducible repeat (first | refine blk_drewN ?_ _ | refine blk_drew ?_ | refine blk_alloc ?_ _)); exact BK172.out) hb); have n1_ := Aside0.mk (below_step (by repeat (first | (with_reducible first | exact HB.out | apply below_alloc | apply pw_below_drewN | apply below_drew1 | refine below_set ?_ GE172.out) | exact HB.out)) hb); clear BK172; clear HB; have BK172 := n0_; have HB := n1_; clear n0_ n1_; (try clear hb); (try clear hb2); (try clear hk); (try clear hi)) | ((with_reducible refine gate_callee (f := 62) rfl ?_); refine goesL_ (some 52) rfl rfl Tryd.func62 (by kernel_rfl) rfl #[.slice (some ad171) l0.length c0, .string t175] rfl (by (try simp only [List.map_toArray, List.map_cons, List.map_nil]); first | done | rfl | (simp only [List.length_drop, List.length_take]; rfl)) ?_; (with_reducible refine (spec_l10At.calls kj4 _ _ l0 t175 t176 _ ?side1 ?side2 A25.out).mono ?_); (case side1 => repeat (first | exact (Kd.C_below HR0.out HB.out) | (with_reducible refine Kd.C_alloc ?_ _) | (with_reducible refine Kd.C_drewN ?_ _) | (with_reducible refine Kd.C_drew ?_))); (case side2 => exact HC0.out); rintro e w' ⟨rfl, ⟨nd, rfl⟩⟩; refine ⟨_, rfl, ?_⟩))
          go_roundg kj4
          case measure => have := HK1.out; have := HJ4.out; omega
          case rel => exact ⟨(wrap64 (x3_1 + (((rd_T41 l0 x4_1).f4).size : Int))), (wrap64 (x4_1 + 1)), (by first | rfl | (simp; done) | (simp [*]; done)), (by first | rfl | (simp; done) | (simp [*]; done)), H', ⟨by have := HK1.out; have := HJ4.out; omega⟩, ⟨by repeat (first | (with_reducible first | exact HB.out | apply below_alloc | apply pw_below_drewN | apply below_drew1 | refine below_set ?_ GE172.out) | exact HB.out)⟩⟩
         ·
          rw [if_neg c26] at H
          have c26b0 : (t175.toList == ([] : List UInt8)) = false := beq_eq_false_iff_ne.mpr c26
          try (have c26b0e : t175.toList.isEmpty = false := by have h_ := c26b0; revert h_; cases t175.toList <;> simp)
          have c26b1 : (t175.toList != ([] : List UInt8)) = true := bne_iff_ne.mpr c26
          by_cases c29 : t176 < 0
          ·
           rw [if_pos c29] at H
           have c29b0 : decide (t176 < 0) = true := decide_eq_true c29
           clear c29
           obtain rfl := Option.some.inj H
           have hcz30_0 : wc.cell? ⟨gb172, 0, none⟩ = some (.string ((rd_T41 l0 x4_1).f0)) := (blk_cell BK172.out 0).trans rfl
           have hcz30_1 : wc.cell? ⟨gb172, 1, none⟩ = some (.int .i64 ((rd_T41 l0 x4_1).f1)) := (blk_cell BK172.out 1).trans rfl
           have hcz30_2 : wc.cell? ⟨gb172, 2, none⟩ = some (.int .i64 ((rd_T41 l0 x4_1).f2)) := (blk_cell BK172.out 2).trans rfl
           have hcz30_3 : wc.cell? ⟨gb172, 3, none⟩ = some (.int .i64 ((rd_T41 l0 x4_1).f3)) := (blk_cell BK172.out 3).trans rfl
           have hcz30_4 : wc.cell? ⟨gb172, 4, none⟩ = some (.string ((rd_T41 l0 x4_1).f4)) := (blk_cell BK172.out 4).trans rfl
           have hcz30_5 : wc.cell? ⟨gb172, 5, none⟩ = some (.string ((rd_T41 l0 x4_1).f5)) := (blk_cell BK172.out 5).trans rfl
           have hcz30_6 : wc.cell? ⟨gb172, 6, none⟩ = some (.int .i64 ((rd_T41 l0 x4_1).f6)) := (blk_cell BK172.out 6).trans rfl
           have hfz30_0 := blk_frozen BK172.out 0
           have hfz30_1 := blk_frozen BK172.out 1
           have hfz30_2 := blk_frozen BK172.out 2
           have hfz30_3 := blk_frozen BK172.out 3
           have hfz30_4 := blk_frozen BK172.out 4
           have hfz30_5 := blk_frozen BK172.out 5
           have hfz30_6 := blk_frozen BK172.out 6
           go_wp2_with (first | ((with_reducible refine gate_callee (f := 39) rfl ?_); refine goesL_ (some 49) rfl rfl Tryd.func39 (by kernel_rfl) rfl #[.string ((rd_T41 l0 x4_1).f0)] rfl (by (try simp only [List.map_toArray, List.map_cons, List.map_nil]); first | done | rfl | (simp only [List.length_drop, List.length_take]; rfl)) ?_; (with_reducible refine (spec_ParentOf.calls kj4 ((rd_T41 l0 x4_1).f0) t175 _ A24.out).mono ?_); rintro e w31 ⟨rfl, hb⟩; refine ⟨_, rfl, ?_⟩; have n0_ := Aside0.mk (blk_below (g := gb172) (o := .cells #[.string ((rd_T41 l0 x4_1).f0), .int .i64 ((rd_T41 l0 x4_1).f1), .int .i64 ((rd_T41 l0 x4_1).f2), .int .i64 ((rd_T41 l0 x4_1).f3), .string ((rd_T41 l0 x4_1).f4), .string ((rd_T41 l0 x4_1).f5), .int .i64 ((rd_T41 l0 x4_1).f6)] 41 (0, 0)) (by (with_reducible repeat (first | refine blk_drewN ?_ _ | refine blk_drew ?_ | refine blk_alloc ?_ _)); exact BK172.out) hb); have n1_ := Aside0.mk (below_step (by repeat (first | (with_reducible first | exact HB.out | apply below_alloc | apply pw_below_drewN | apply below_drew1 | refine below_set ?_ GE172.out) | exact HB.out)) hb); clear BK172; clear HB; have BK172 := n0_; have HB := n1_; clear n0_ n1_; (try clear hb); (try clear hb2); (try clear hk); (try clear hi)) | ((with_reducible refine gate_callee (f := 62) rfl ?_); refine goesL_ (some 52) rfl rfl Tryd.func62 (by kernel_rfl) rfl #[.slice (some ad171) l0.length c0, .string t175] rfl (by (try simp only [List.map_toArray, List.map_cons, List.map_nil]); first | done | rfl | (simp only [List.length_drop, List.length_take]; rfl)) ?_; (with_reducible refine (spec_l10At.calls kj4 _ _ l0 t175 t176 _ ?side1 ?side2 A25.out).mono ?_); (case side1 => repeat (first | exact (Kd.C_below HR0.out HB.out) | (with_reducible refine Kd.C_alloc ?_ _) | (with_reducible refine Kd.C_drewN ?_ _) | (with_reducible refine Kd.C_drew ?_))); (case side2 => exact HC0.out); rintro e w' ⟨rfl, ⟨nd, rfl⟩⟩; refine ⟨_, rfl, ?_⟩))
           go_ret
           exact ⟨by first | rfl | (simp [errW_none, errW_some] <;> rfl) | (simp [*, errW_none, errW_some] <;> rfl), by repeat (first | (with_reducible first | exact HB.out | apply below_alloc | apply pw_below_drewN | apply below_drew1 | refine below_set ?_ GE172.out) | exact HB.out)⟩
          ·
           rw [if_neg c29] at H
           have c29b0 : decide (t176 < 0) = false := decide_eq_false c29
           clear c29
           by_cases c32 : 0 ≤ t176
           ·
            rw [if_pos c32] at H
            have c32b0 : decide (0 ≤ t176) = true := decide_eq_true c32
            clear c32
            by_cases c33 : t176 < (l0.length : Int)
            ·
             rw [if_pos c33] at H
             have c33b0 : decide (t176 < (l0.length : Int)) = true := decide_eq_true c33
             clear c33
             by_cases c34 : ((rd_T41 l0 t176).f1) = 0
             ·
              rw [if_pos c34] at H
              have c34b0 : (((rd_T41 l0 t176).f1) == 0) = true := beq_iff_eq.mpr c34
              have c34b1 : (((rd_T41 l0 t176).f1) != 0) = false := bne_eq_false_iff_eq.mpr c34
              clear c34
              have H' := Aside0.mk H
              clear H
              have hcz35_0 : wc.cell? ⟨gb172, 0, none⟩ = some (.string ((rd_T41 l0 x4_1).f0)) := (blk_cell BK172.out 0).trans rfl
              have hcz35_1 : wc.cell? ⟨gb172, 1, none⟩ = some (.int .i64 ((rd_T41 l0 x4_1).f1)) := (blk_cell BK172.out 1).trans rfl
              have hcz35_2 : wc.cell? ⟨gb172, 2, none⟩ = some (.int .i64 ((rd_T41 l0 x4_1).f2)) := (blk_cell BK172.out 2).trans rfl
              have hcz35_3 : wc.cell? ⟨gb172, 3, none⟩ = some (.int .i64 ((rd_T41 l0 x4_1).f3)) := (blk_cell BK172.out 3).trans rfl
              have hcz35_4 : wc.cell? ⟨gb172, 4, none⟩ = some (.string ((rd_T41 l0 x4_1).f4)) := (blk_cell BK172.out 4).trans rfl
              have hcz35_5 : wc.cell? ⟨gb172, 5, none⟩ = some (.string ((rd_T41 l0 x4_1).f5)) := (blk_cell BK172.out 5).trans rfl
              have hcz35_6 : wc.cell? ⟨gb172, 6, none⟩ = some (.int .i64 ((rd_T41 l0 x4_1).f6)) := (blk_cell BK172.out 6).trans rfl
              have hfz35_0 := blk_frozen BK172.out 0
              have hfz35_1 := blk_frozen BK172.out 1
              have hfz35_2 := blk_frozen BK172.out 2
              have hfz35_3 := blk_frozen BK172.out 3
              have hfz35_4 := blk_frozen BK172.out 4
              have hfz35_5 := blk_frozen BK172.out 5
              have hfz35_6 := blk_frozen BK172.out 6
              go_wp2_with (first | ((with_reducible refine gate_callee (f := 39) rfl ?_); refine goesL_ (some 49) rfl rfl Tryd.func39 (by kernel_rfl) rfl #[.string ((rd_T41 l0 x4_1).f0)] rfl (by (try simp only [List.map_toArray, List.map_cons, List.map_nil]); first | done | rfl | (simp only [List.length_drop, List.length_take]; rfl)) ?_; (with_reducible refine (spec_ParentOf.calls kj4 ((rd_T41 l0 x4_1).f0) t175 _ A24.out).mono ?_); rintro e w36 ⟨rfl, hb⟩; refine ⟨_, rfl, ?_⟩; have n0_ := Aside0.mk (blk_below (g := gb172) (o := .cells #[.string ((rd_T41 l0 x4_1).f0), .int .i64 ((rd_T41 l0 x4_1).f1), .int .i64 ((rd_T41 l0 x4_1).f2), .int .i64 ((rd_T41 l0 x4_1).f3), .string ((rd_T41 l0 x4_1).f4), .string ((rd_T41 l0 x4_1).f5), .int .i64 ((rd_T41 l0 x4_1).f6)] 41 (0, 0)) (by (with_reducible repeat (first | refine blk_drewN ?_ _ | refine blk_drew ?_ | refine blk_alloc ?_ _)); exact BK172.out) hb); have n1_ := Aside0.mk (below_step (by repeat (first | (with_reducible first | exact HB.out | apply below_alloc | apply pw_below_drewN | apply below_drew1 | refine below_set ?_ GE172.out) | exact HB.out)) hb); clear BK172; clear HB; have BK172 := n0_; have HB := n1_; clear n0_ n1_; (try clear hb); (try clear hb2); (try clear hk); (try clear hi)) | ((with_reducible refine gate_callee (f := 62) rfl ?_); refine goesL_ (some 52) rfl rfl Tryd.func62 (by kernel_rfl) rfl #[.slice (some ad171) l0.length c0, .string t175] rfl (by (try simp only [List.map_toArray, List.map_cons, List.map_nil]); first | done | rfl | (simp only [List.length_drop, List.length_take]; rfl)) ?_; (with_reducible refine (spec_l10At.calls kj4 _ _ l0 t175 t176 _ ?side1 ?side2 A25.out).mono ?_); (case side1 => repeat (first | exact (Kd.C_below HR0.out HB.out) | (with_reducible refine Kd.C_alloc ?_ _) | (with_reducible refine Kd.C_drewN ?_ _) | (with_reducible refine Kd.C_drew ?_))); (case side2 => exact HC0.out); rintro e w' ⟨rfl, ⟨nd, rfl⟩⟩; refine ⟨_, rfl, ?_⟩; have p177 : 0 ≤ (t176 : Int) := of_decide_eq_true (by assumption); have q177 : t176 < (l0.length : Int) := of_decide_eq_true (by assumption); obtain ⟨ad177, e177, hx177_0, hx177_1, hx177_2, hx177_3, hx177_4, hx177_5, hx177_6⟩ := at_T41 HR0.out t176 p177 q177; obtain rfl : ad171 = ad177 := (by injection e177); replace hx177_0 := cb HB.out hx177_0; replace hx177_1 := cb HB.out hx177_1; replace hx177_2 := cb HB.out hx177_2; replace hx177_3 := cb HB.out hx177_3; replace hx177_4 := cb HB.out hx177_4; replace hx177_5 := cb HB.out hx177_5; replace hx177_6 := cb HB.out hx177_6; replace p177 := eq_true p177; replace q177 := eq_true q177))
              go_roundg kj4
              case measure => have := HK1.out; have := HJ4.out; omega
              case rel => exact ⟨(wrap64 (x3_1 + (((rd_T41 l0 x4_1).f4).size : Int))), (wrap64 (x4_1 + 1)), (by first | rfl | (simp; done) | (simp [*]; done)), (by first | rfl | (simp; done) | (simp [*]; done)), H', ⟨by have := HK1.out; have := HJ4.out; omega⟩, ⟨by repeat (first | (with_reducible first | exact HB.out | apply below_alloc | apply pw_below_drewN | apply below_drew1 | refine below_set ?_ GE172.out) | exact HB.out)⟩⟩
             ·
              rw [if_neg c34] at H
              have c34b0 : (((rd_T41 l0 t176).f1) == 0) = false := beq_eq_false_iff_ne.mpr c34
              have c34b1 : (((rd_T41 l0 t176).f1) != 0) = true := bne_iff_ne.mpr c34
              obtain rfl := Option.some.inj H
              have hcz37_0 : wc.cell? ⟨gb172, 0, none⟩ = some (.string ((rd_T41 l0 x4_1).f0)) := (blk_cell BK172.out 0).trans rfl
              have hcz37_1 : wc.cell? ⟨gb172, 1, none⟩ = some (.int .i64 ((rd_T41 l0 x4_1).f1)) := (blk_cell BK172.out 1).trans rfl
              have hcz37_2 : wc.cell? ⟨gb172, 2, none⟩ = some (.int .i64 ((rd_T41 l0 x4_1).f2)) := (blk_cell BK172.out 2).trans rfl
              have hcz37_3 : wc.cell? ⟨gb172, 3, none⟩ = some (.int .i64 ((rd_T41 l0 x4_1).f3)) := (blk_cell BK172.out 3).trans rfl
              have hcz37_4 : wc.cell? ⟨gb172, 4, none⟩ = some (.string ((rd_T41 l0 x4_1).f4)) := (blk_cell BK172.out 4).trans rfl
              have hcz37_5 : wc.cell? ⟨gb172, 5, none⟩ = some (.string ((rd_T41 l0 x4_1).f5)) := (blk_cell BK172.out 5).trans rfl
              have hcz37_6 : wc.cell? ⟨gb172, 6, none⟩ = some (.int .i64 ((rd_T41 l0 x4_1).f6)) := (blk_cell BK172.out 6).trans rfl
              have hfz37_0 := blk_frozen BK172.out 0
              have hfz37_1 := blk_frozen BK172.out 1
              have hfz37_2 := blk_frozen BK172.out 2
              have hfz37_3 := blk_frozen BK172.out 3
              have hfz37_4 := blk_frozen BK172.out 4
              have hfz37_5 := blk_frozen BK172.out 5
              have hfz37_6 := blk_frozen BK172.out 6
              go_wp2_with (first | ((with_reducible refine gate_callee (f := 39) rfl ?_); refine goesL_ (some 49) rfl rfl Tryd.func39 (by kernel_rfl) rfl #[.string ((rd_T41 l0 x4_1).f0)] rfl (by (try simp only [List.map_toArray, List.map_cons, List.map_nil]); first | done | rfl | (simp only [List.length_drop, List.length_take]; rfl)) ?_; (with_reducible refine (spec_ParentOf.calls kj4 ((rd_T41 l0 x4_1).f0) t175 _ A24.out).mono ?_); rintro e w38 ⟨rfl, hb⟩; refine ⟨_, rfl, ?_⟩; have n0_ := Aside0.mk (blk_below (g := gb172) (o := .cells #[.string ((rd_T41 l0 x4_1).f0), .int .i64 ((rd_T41 l0 x4_1).f1), .int .i64 ((rd_T41 l0 x4_1).f2), .int .i64 ((rd_T41 l0 x4_1).f3), .string ((rd_T41 l0 x4_1).f4), .string ((rd_T41 l0 x4_1).f5), .int .i64 ((rd_T41 l0 x4_1).f6)] 41 (0, 0)) (by (with_reducible repeat (first | refine blk_drewN ?_ _ | refine blk_drew ?_ | refine blk_alloc ?_ _)); exact BK172.out) hb); have n1_ := Aside0.mk (below_step (by repeat (first | (with_reducible first | exact HB.out | apply below_alloc | apply pw_below_drewN | apply below_drew1 | refine below_set ?_ GE172.out) | exact HB.out)) hb); clear BK172; clear HB; have BK172 := n0_; have HB := n1_; clear n0_ n1_; (try clear hb); (try clear hb2); (try clear hk); (try clear hi)) | ((with_reducible refine gate_callee (f := 62) rfl ?_); refine goesL_ (some 52) rfl rfl Tryd.func62 (by kernel_rfl) rfl #[.slice (some ad171) l0.length c0, .string t175] rfl (by (try simp only [List.map_toArray, List.map_cons, List.map_nil]); first | done | rfl | (simp only [List.length_drop, List.length_take]; rfl)) ?_; (with_reducible refine (spec_l10At.calls kj4 _ _ l0 t175 t176 _ ?side1 ?side2 A25.out).mono ?_); (case side1 => repeat (first | exact (Kd.C_below HR0.out HB.out) | (with_reducible refine Kd.C_alloc ?_ _) | (with_reducible refine Kd.C_drewN ?_ _) | (with_reducible refine Kd.C_drew ?_))); (case side2 => exact HC0.out); rintro e w' ⟨rfl, ⟨nd, rfl⟩⟩; refine ⟨_, rfl, ?_⟩; have p177 : 0 ≤ (t176 : Int) := of_decide_eq_true (by assumption); have q177 : t176 < (l0.length : Int) := of_decide_eq_true (by assumption); obtain ⟨ad177, e177, hx177_0, hx177_1, hx177_2, hx177_3, hx177_4, hx177_5, hx177_6⟩ := at_T41 HR0.out t176 p177 q177; obtain rfl : ad171 = ad177 := (by injection e177); replace hx177_0 := cb HB.out hx177_0; replace hx177_1 := cb HB.out hx177_1; replace hx177_2 := cb HB.out hx177_2; replace hx177_3 := cb HB.out hx177_3; replace hx177_4 := cb HB.out hx177_4; replace hx177_5 := cb HB.out hx177_5; replace hx177_6 := cb HB.out hx177_6; replace p177 := eq_true p177; replace q177 := eq_true q177))
              go_ret
              exact ⟨by first | rfl | (simp [errW_none, errW_some] <;> rfl) | (simp [*, errW_none, errW_some] <;> rfl), by repeat (first | (with_reducible first | exact HB.out | apply below_alloc | apply pw_below_drewN | apply below_drew1 | refine below_set ?_ GE172.out) | exact HB.out)⟩
            ·
             rw [if_neg c33] at H
             exact absurd H (by simp)
           ·
            rw [if_neg c32] at H
            exact absurd H (by simp)
     ·
      rw [if_neg c4] at H
      exact absurd H (by simp)
    ·
     rw [if_neg c3] at H
     have c3b0 : decide (x4_1 < (l0.length : Int)) = false := decide_eq_false c3
     clear c3
     have H' := Aside0.mk H
     clear H
     go_wp2
     go_loopg [8] k1 (fun kq v8 w' => ∃ (x8_2 : Int), v8 = .int .i64 x8_2 ∧ Aside0 (spec_TreeOk.l1 kq l0 x3_1 x8_2 = some r) ∧ Aside0 (kq ≤ k1) ∧ Aside0 (Below w.heap.size w w'))
     case atStart => exact ⟨(0), (by first | rfl | (simp; done) | (simp [*]; done)), H', ⟨Nat.le_refl _⟩, ⟨by repeat (first | exact HB.out | apply below_alloc | apply pw_below_drewN | apply below_drew1)⟩⟩
     case round =>
      clear H'
      try clear c1
      try clear p1
      try clear q1
      try clear hx1
      try clear c2
      try clear c2b0
      try clear c2b1
      try clear p2
      try clear c3
      try clear c3b0
      try clear c4
      try clear c4b0
      try clear c6
      try clear p6
      try clear c9
      try clear c10
      try clear c10b0
      try clear c12
      try clear c12b0
      try clear c13
      try clear c13b0
      try clear p17
      try clear q17
      try clear hx17
      try clear c23
      try clear c26
      try clear c26b0
      try clear c26b1
      try clear c29
      try clear c29b0
      try clear c32
      try clear c32b0
      try clear c33
      try clear c33b0
      try clear c34
      try clear c34b0
      try clear c34b1
      try clear c36
      try clear hcz27_0
      try clear hcz27_1
      try clear hcz27_2
      try clear hcz27_3
      try clear hcz27_4
      try clear hcz27_5
      try clear hcz27_6
      try clear hcz30_0
      try clear hcz30_1
      try clear hcz30_2
      try clear hcz30_3
      try clear hcz30_4
      try clear hcz30_5
      try clear hcz30_6
      try clear hcz35_0
      try clear hcz35_1
      try clear hcz35_2
      try clear hcz35_3
      try clear hcz35_4
      try clear hcz35_5
      try clear hcz35_6
      try clear hcz37_0
      try clear hcz37_1
      try clear hcz37_2
      try clear hcz37_3
      try clear hcz37_4
      try clear hcz37_5
      try clear hcz37_6
      try clear hcz7_0
      try clear hcz7_1
      try clear hcz7_2
      try clear hcz7_3
      try clear hcz7_4
      try clear hcz7_5
      try clear hcz7_6
      try clear hfz27_0
      try clear hfz27_1
      try clear hfz27_2
      try clear hfz27_3
      try clear hfz27_4
      try clear hfz27_5
      try clear hfz27_6
      try clear hfz30_0
      try clear hfz30_1
      try clear hfz30_2
      try clear hfz30_3
      try clear hfz30_4
      try clear hfz30_5
      try clear hfz30_6
      try clear hfz35_0
      try clear hfz35_1
      try clear hfz35_2
      try clear hfz35_3
      try clear hfz35_4
      try clear hfz35_5
      try clear hfz35_6
      try clear hfz37_0
      try clear hfz37_1
      try clear hfz37_2
      try clear hfz37_3
      try clear hfz37_4
      try clear hfz37_5
      try clear hfz37_6
      try clear hfz7_0
      try clear hfz7_1
      try clear hfz7_2
      try clear hfz7_3
      try clear hfz7_4
      try clear hfz7_5
      try clear hfz7_6
      try clear hx171_0
      try clear hx171_1
      try clear hx171_2
      try clear hx171_3
      try clear hx171_4
      try clear hx171_5
      try clear hx171_6
      try clear hx174_0
      try clear hx174_1
      try clear hx174_2
      try clear hx174_3
      try clear hx174_4
      try clear hx174_5
      try clear hx174_6
      try clear hx177_0
      try clear hx177_1
      try clear hx177_2
      try clear hx177_3
      try clear hx177_4
      try clear hx177_5
      try clear hx177_6
      try clear p1
      try clear p17
      try clear p171
      try clear p174
      try clear p177
      try clear p2
      try clear p6
      try clear q1
      try clear q17
      try clear q171
      try clear q174
      try clear q177
      obtain ⟨x8_2, rfl, HA, HK2, HB⟩ := hrel
      cases gk with
      | zero => exact absurd HA.out (by simp [spec_TreeOk.l1])
      | succ k2 =>
       have H := HA.out
       clear HA
       simp only [spec_TreeOk.l1] at H
       by_cases c39 : x8_2 < (l0.length : Int)
       ·
        rw [if_pos c39] at H
        have c39b0 : decide (x8_2 < (l0.length : Int)) = true := decide_eq_true c39
        clear c39
        by_cases c40 : 0 ≤ x8_2
        ·
         rw [if_pos c40] at H
         have c40b0 : decide (0 ≤ x8_2) = true := decide_eq_true c40
         clear c40
         by_cases c41 : ((rd_T41 l0 x8_2).f6) = 0
         ·
          rw [if_pos c41] at H
          have c41b0 : (((rd_T41 l0 x8_2).f6) == 0) = true := beq_iff_eq.mpr c41
          have c41b1 : (((rd_T41 l0 x8_2).f6) != 0) = false := bne_eq_false_iff_eq.mpr c41
          clear c41
          have H' := Aside0.mk H
          clear H
          have p178 : 0 ≤ (x8_2 : Int) := of_decide_eq_true (by assumption)
          have q178 : x8_2 < (l0.length : Int) := of_decide_eq_true (by assumption)
          obtain ⟨ad178, e178, hx178_0, hx178_1, hx178_2, hx178_3, hx178_4, hx178_5, hx178_6⟩ := at_T41 HR0.out x8_2 p178 q178
          cases e178
          replace hx178_0 := cb HB.out hx178_0
          replace hx178_1 := cb HB.out hx178_1
          replace hx178_2 := cb HB.out hx178_2
          replace hx178_3 := cb HB.out hx178_3
          replace hx178_4 := cb HB.out hx178_4
          replace hx178_5 := cb HB.out hx178_5
          replace hx178_6 := cb HB.out hx178_6
          replace p178 := eq_true p178
          replace q178 := eq_true q178
          go_wp2
          go_roundg k2
          case measure => have := HK1.out; have := HK2.out; omega
          case rel => exact ⟨(wrap64 (x8_2 + 1)), (by first | rfl | (simp; done) | (simp [*]; done)), H', ⟨by have := HK1.out; have := HK2.out; omega⟩, ⟨by repeat (first | exact HB.out | apply below_alloc | apply pw_below_drewN | apply below_drew1)⟩⟩
         ·
          rw [if_neg c41] at H
          have c41b0 : (((rd_T41 l0 x8_2).f6) == 0) = false := beq_eq_false_iff_ne.mpr c41
          have c41b1 : (((rd_T41 l0 x8_2).f6) != 0) = true := bne_iff_ne.mpr c41
          have H' := Aside0.mk H
          clear H
          have p178 : 0 ≤ (x8_2 : Int) := of_decide_eq_true (by assumption)
          have q178 : x8_2 < (l0.length : Int) := of_decide_eq_true (by assumption)
          obtain ⟨ad178, e178, hx178_0, hx178_1, hx178_2, hx178_3, hx178_4, hx178_5, hx178_6⟩ := at_T41 HR0.out x8_2 p178 q178
          cases e178
          replace hx178_0 := cb HB.out hx178_0
          replace hx178_1 := cb HB.out hx178_1
          replace hx178_2 := cb HB.out hx178_2
          replace hx178_3 := cb HB.out hx178_3
          replace hx178_4 := cb HB.out hx178_4
          replace hx178_5 := cb HB.out hx178_5
          replace hx178_6 := cb HB.out hx178_6
          replace p178 := eq_true p178
          replace q178 := eq_true q178
          go_wp2
          go_loopg [9, 10] k2 (fun kq v9 v10 w' => ∃ (x9_3 : Int) (x10_3 : Int), v9 = .int .i64 x9_3 ∧ v10 = .int .i64 x10_3 ∧ Aside0 (spec_TreeOk.l2 kq l0 x3_1 x8_2 x9_3 x10_3 = some r) ∧ Aside0 (kq ≤ k2) ∧ Aside0 (Below w.heap.size w w'))
          case atStart => exact ⟨(0), (0), (by first | rfl | (simp; done) | (simp [*]; done)), (by first | rfl | (simp; done) | (simp [*]; done)), H', ⟨Nat.le_refl _⟩, ⟨by repeat (first | exact HB.out | apply below_alloc | apply pw_below_drewN | apply below_drew1)⟩⟩
          case round =>
           clear H'
           try clear c1
           try clear p1
           try clear q1
           try clear hx1
           try clear c2
           try clear c2b0
           try clear c2b1
           try clear p2
           try clear c3
           try clear c3b0
           try clear c4
           try clear c4b0
           try clear c6
           try clear p6
           try clear c9
           try clear c10
           try clear c10b0
           try clear c12
           try clear c12b0
           try clear c13
           try clear c13b0
           try clear p17
           try clear q17
           try clear hx17
           try clear c23
           try clear c26
           try clear c26b0
           try clear c26b1
           try clear c29
           try clear c29b0
           try clear c32
           try clear c32b0
           try clear c33
           try clear c33b0
           try clear c34
           try clear c34b0
           try clear c34b1
           try clear c36
           try clear c39
           try clear c39b0
           try clear c40
           try clear c40b0
           try clear c41
           try clear c41b0
           try clear c41b1
           try clear hcz27_0
           try clear hcz27_1
           try clear hcz27_2
           try clear hcz27_3
           try clear hcz27_4
           try clear hcz27_5
           try clear hcz27_6
           try clear hcz30_0
           try clear hcz30_1
           try clear hcz30_2
           try clear hcz30_3
           try clear hcz30_4
           try clear hcz30_5
           try clear hcz30_6
           try clear hcz35_0
           try clear hcz35_1
           try clear hcz35_2
           try clear hcz35_3
           try clear hcz35_4
           try clear hcz35_5
           try clear hcz35_6
           try clear hcz37_0
           try clear hcz37_1
           try clear hcz37_2
           try clear hcz37_3
           try clear hcz37_4
           try clear hcz37_5
           try clear hcz37_6
           try clear hcz7_0
           try clear hcz7_1
           try clear hcz7_2
           try clear hcz7_3
           try clear hcz7_4
           try clear hcz7_5
           try clear hcz7_6
           try clear hfz27_0
           try clear hfz27_1
           try clear hfz27_2
           try clear hfz27_3
           try clear hfz27_4
           try clear hfz27_5
           try clear hfz27_6
           try clear hfz30_0
           try clear hfz30_1
           try clear hfz30_2
           try clear hfz30_3
           try clear hfz30_4
           try clear hfz30_5
           try clear hfz30_6
           try clear hfz35_0
           try clear hfz35_1
           try clear hfz35_2
           try clear hfz35_3
           try clear hfz35_4
           try clear hfz35_5
           try clear hfz35_6
           try clear hfz37_0
           try clear hfz37_1
           try clear hfz37_2
           try clear hfz37_3
           try clear hfz37_4
           try clear hfz37_5
           try clear hfz37_6
           try clear hfz7_0
           try clear hfz7_1
           try clear hfz7_2
           try clear hfz7_3
           try clear hfz7_4
           try clear hfz7_5
           try clear hfz7_6
           try clear hx171_0
           try clear hx171_1
           try clear hx171_2
           try clear hx171_3
           try clear hx171_4
           try clear hx171_5
           try clear hx171_6
           try clear hx174_0
           try clear hx174_1
           try clear hx174_2
           try clear hx174_3
           try clear hx174_4
           try clear hx174_5
           try clear hx174_6
           try clear hx177_0
           try clear hx177_1
           try clear hx177_2
           try clear hx177_3
           try clear hx177_4
           try clear hx177_5
           try clear hx177_6
           try clear hx178_0
           try clear hx178_1
           try clear hx178_2
           try clear hx178_3
           try clear hx178_4
           try clear hx178_5
           try clear hx178_6
           try clear p1
           try clear p17
           try clear p171
           try clear p174
           try clear p177
           try clear p178
           try clear p2
           try clear p6
           try clear q1
           try clear q17
           try clear q171
           try clear q174
           try clear q177
           try clear q178
           obtain ⟨x9_3, x10_3, rfl, rfl, HA, HK3, HB⟩ := hrel
           cases gk with
           | zero => exact absurd HA.out (by simp [spec_TreeOk.l2])
           | succ k3 =>
            have H := HA.out
            clear HA
            simp only [spec_TreeOk.l2] at H
            by_cases c42 : x10_3 < (l0.length : Int)
            ·
             rw [if_pos c42] at H
             have c42b0 : decide (x10_3 < (l0.length : Int)) = true := decide_eq_true c42
             clear c42
             by_cases c43 : 0 ≤ x10_3
             ·
              rw [if_pos c43] at H
              have c43b0 : decide (0 ≤ x10_3) = true := decide_eq_true c43
              clear c43
              by_cases c44 : 0 ≤ x8_2
              ·
               rw [if_pos c44] at H
               have c44b0 : decide (0 ≤ x8_2) = true := decide_eq_true c44
               clear c44
               by_cases c45 : x8_2 < (l0.length : Int)
               ·
                rw [if_pos c45] at H
                have c45b0 : decide (x8_2 < (l0.length : Int)) = true := decide_eq_true c45
                clear c45
                by_cases c46 : ((rd_T41 l0 x10_3).f6) = ((rd_T41 l0 x8_2).f6)
                ·
                 rw [if_pos c46] at H
                 have c46b0 : (((rd_T41 l0 x10_3).f6) == ((rd_T41 l0 x8_2).f6)) = true := beq_iff_eq.mpr c46
                 have c46b1 : (((rd_T41 l0 x10_3).f6) != ((rd_T41 l0 x8_2).f6)) = false := bne_eq_false_iff_eq.mpr c46
                 clear c46
                 by_cases c47 : ((rd_T41 l0 x10_3).f2) = ((rd_T41 l0 x8_2).f2)
                 ·
                  rw [if_pos c47] at H
                  have c47b0 : (((rd_T41 l0 x10_3).f2) == ((rd_T41 l0 x8_2).f2)) = true := beq_iff_eq.mpr c47
                  have c47b1 : (((rd_T41 l0 x10_3).f2) != ((rd_T41 l0 x8_2).f2)) = false := bne_eq_false_iff_eq.mpr c47
                  clear c47
                  by_cases c48 : ((rd_T41 l0 x10_3).f3) = ((rd_T41 l0 x8_2).f3)
                  ·
                   rw [if_pos c48] at H
                   have c48b0 : (((rd_T41 l0 x10_3).f3) == ((rd_T41 l0 x8_2).f3)) = true := beq_iff_eq.mpr c48
                   have c48b1 : (((rd_T41 l0 x10_3).f3) != ((rd_T41 l0 x8_2).f3)) = false := bne_eq_false_iff_eq.mpr c48
                   clear c48
                   by_cases c49 : ((rd_T41 l0 x10_3).f4).toList = ((rd_T41 l0 x8_2).f4).toList
                   ·
                    rw [if_pos c49] at H
                    have c49b0 : (((rd_T41 l0 x10_3).f4).toList == ((rd_T41 l0 x8_2).f4).toList) = true := beq_iff_eq.mpr c49
                    have c49b1 : (((rd_T41 l0 x10_3).f4).toList != ((rd_T41 l0 x8_2).f4).toList) = false := bne_eq_false_iff_eq.mpr c49
                    clear c49
                    have H' := Aside0.mk H
                    clear H
                    try go_wp2
                    have n0_ := Aside0.mk (below_drew1 HB.out)
                    clear HB
                    have HB := n0_
                    clear n0_
                    have p179 : 0 ≤ (x10_3 : Int) := of_decide_eq_true (by assumption)
                    have q179 : x10_3 < (l0.length : Int) := of_decide_eq_true (by assumption)
                    obtain ⟨ad179, e179, hx179_0, hx179_1, hx179_2, hx179_3, hx179_4, hx179_5, hx179_6⟩ := at_T41 HR0.out x10_3 p179 q179
                    have hw179_6 := hx179_6
                    have hw179_5 := hx179_5
                    have hw179_4 := hx179_4
                    have hw179_3 := hx179_3
                    have hw179_2 := hx179_2
                    have hw179_1 := hx179_1
                    have hw179_0 := hx179_0
                    obtain rfl : ad178 = ad179 := (by injection e179)
                    replace hx179_0 := cb HB.out hx179_0
                    replace hx179_1 := cb HB.out hx179_1
                    replace hx179_2 := cb HB.out hx179_2
                    replace hx179_3 := cb HB.out hx179_3
                    replace hx179_4 := cb HB.out hx179_4
                    replace hx179_5 := cb HB.out hx179_5
                    replace hx179_6 := cb HB.out hx179_6
                    replace p179 := eq_true p179
                    replace q179 := eq_true q179
                    have p180 : 0 ≤ (x8_2 : Int) := of_decide_eq_true (by assumption)
                    have q180 : x8_2 < (l0.length : Int) := of_decide_eq_true (by assumption)
                    obtain ⟨ad180, e180, hx180_0, hx180_1, hx180_2, hx180_3, hx180_4, hx180_5, hx180_6⟩ := at_T41 HR0.out x8_2 p180 q180
                    have hw180_6 := hx180_6
                    have hw180_5 := hx180_5
                    have hw180_4 := hx180_4
                    have hw180_3 := hx180_3
                    have hw180_2 := hx180_2
                    have hw180_1 := hx180_1
                    have hw180_0 := hx180_0
                    obtain rfl : ad178 = ad180 := (by injection e180)
                    replace hx180_0 := cb HB.out hx180_0
                    replace hx180_1 := cb HB.out hx180_1
                    replace hx180_2 := cb HB.out hx180_2
                    replace hx180_3 := cb HB.out hx180_3
                    replace hx180_4 := cb HB.out hx180_4
                    replace hx180_5 := cb HB.out hx180_5
                    replace hx180_6 := cb HB.out hx180_6
                    replace p180 := eq_true p180
                    replace q180 := eq_true q180
                    refine start_ (n := 11) (S := fun w' => w'.cell? (ad178.add ((x10_3).toNat * 7)) = some (.string ((rd_T41 l0 x10_3).f0)) ∧ w'.cell? ⟨(ad178.add ((x10_3).toNat * 7)).block, (ad178.add ((x10_3).toNat * 7)).off + 1, none⟩ = some (.int .i64 ((rd_T41 l0 x10_3).f1)) ∧ w'.cell? ⟨(ad178.add ((x10_3).toNat * 7)).block, (ad178.add ((x10_3).toNat * 7)).off + 2, none⟩ = some (.int .i64 ((rd_T41 l0 x10_3).f2)) ∧ w'.cell? ⟨(ad178.add ((x10_3).toNat * 7)).block, (ad178.add ((x10_3).toNat * 7)).off + 3, none⟩ = some (.int .i64 ((rd_T41 l0 x10_3).f3)) ∧ w'.cell? ⟨(ad178.add ((x10_3).toNat * 7)).block, (ad178.add ((x10_3).toNat * 7)).off + 4, none⟩ = some (.string ((rd_T41 l0 x10_3).f4)) ∧ w'.cell? ⟨(ad178.add ((x10_3).toNat * 7)).block, (ad178.add ((x10_3).toNat * 7)).off + 5, none⟩ = some (.string ((rd_T41 l0 x10_3).f5)) ∧ w'.cell? ⟨(ad178.add ((x10_3).toNat * 7)).block, (ad178.add ((x10_3).toNat * 7)).off + 6, none⟩ = some (.int .i64 ((rd_T41 l0 x10_3).f6)) ∧ w'.cell? (ad178.add ((x8_2).toNat * 7)) = some (.string ((rd_T41 l0 x8_2).f0)) ∧ w'.cell? ⟨(ad178.add ((x8_2).toNat * 7)).block, (ad178.add ((x8_2).toNat * 7)).off + 1, none⟩ = some (.int .i64 ((rd_T41 l0 x8_2).f1)) ∧ w'.cell? ⟨(ad178.add ((x8_2).toNat * 7)).block, (ad178.add ((x8_2).toNat * 7)).off + 2, none⟩ = some (.int .i64 ((rd_T41 l0 x8_2).f2)) ∧ w'.cell? ⟨(ad178.add ((x8_2).toNat * 7)).block, (ad178.add ((x8_2).toNat * 7)).off + 3, none⟩ = some (.int .i64 ((rd_T41 l0 x8_2).f3)) ∧ w'.cell? ⟨(ad178.add ((x8_2).toNat * 7)).block, (ad178.add ((x8_2).toNat * 7)).off + 4, none⟩ = some (.string ((rd_T41 l0 x8_2).f4)) ∧ w'.cell? ⟨(ad178.add ((x8_2).toNat * 7)).block, (ad178.add ((x8_2).toNat * 7)).off + 5, none⟩ = some (.string ((rd_T41 l0 x8_2).f5)) ∧ w'.cell? ⟨(ad178.add ((x8_2).toNat * 7)).block, (ad178.add ((x8_2).toNat * 7)).off + 6, none⟩ = some (.int .i64 ((rd_T41 l0 x8_2).f6))) (ds := []) (bm 11 0) (by kernel_rfl) rfl rfl ⟨(cb HB.out hw179_0), (cb HB.out hw179_1), (cb HB.out hw179_2), (cb HB.out hw179_3), (cb HB.out hw179_4), (cb HB.out hw179_5), (cb HB.out hw179_6), (cb HB.out hw180_0), (cb HB.out hw180_1), (cb HB.out hw180_2), (cb HB.out hw180_3), (cb HB.out hw180_4), (cb HB.out hw180_5), (cb HB.out hw180_6)⟩ (fun hHeld => ?_); refine with_tabW spec_TreeOk.tab23 spec_TreeOk.bits23 (fun HT_ HW_ => ?_)
                    generalize wr.drew = w50 at HB hx179_0 hx179_1 hx179_2 hx179_3 hx179_4 hx179_5 hx179_6 hx180_0 hx180_1 hx180_2 hx180_3 hx180_4 hx180_5 hx180_6 hHeld ⊢
                    refine pure_ (i := 0) (N := some 85) (v := ?_) (a' := ?_) (bm 11 1) rfl rfl (any_of HT_.out (by kernel_rfl)) (fun _ _ _ h => h) (Or.inl ⟨by rfl, ?_⟩) ?_ ?_; rotate_left; · (intro w'; go_simp; with_reducible rfl)
                    rotate_left; · (simp only [Act.put, q1, q2, q3, q4, q5, q6, q7]; rfl)
                    refine pure_ (i := 1) (N := some 86) (v := ?_) (a' := ?_) (bm 11 3) rfl rfl (any_of HT_.out (by kernel_rfl)) (fun _ _ _ h => h) (Or.inl ⟨by rfl, ?_⟩) ?_ ?_; rotate_left; · (intro w'; go_simp; with_reducible rfl)
                    rotate_left; · (simp only [Act.put, q1, q2, q3, q4, q5, q6, q7]; rfl)
                    refine pure_ (i := 2) (N := some 87) (v := ?_) (a' := ?_) (bm 11 7) rfl rfl (any_of HT_.out (by kernel_rfl)) (fun _ _ _ h => h) (Or.inl ⟨by rfl, ?_⟩) ?_ ?_; rotate_left; · (intro w'; go_simp; with_reducible rfl)
                    rotate_left; · (simp only [Act.put, q1, q2, q3, q4, q5, q6, q7]; rfl)
                    refine pure_ (i := 3) (N := some 88) (v := ?_) (a' := ?_) (bm 11 15) rfl rfl (any_of HT_.out (by kernel_rfl)) (fun _ _ _ h => h) (Or.inl ⟨by rfl, ?_⟩) ?_ ?_; rotate_left; · (intro w'; go_simp; with_reducible rfl)
                    rotate_left; · (simp only [Act.put, q1, q2, q3, q4, q5, q6, q7]; rfl)
                    refine pure_ (i := 5) (N := some 90) (v := ?_) (a' := ?_) (bm 11 47) rfl rfl (any_of HT_.out (by kernel_rfl)) (fun _ _ _ h => h) (Or.inl ⟨by rfl, ?_⟩) ?_ ?_; rotate_left; · (intro w'; go_simp; with_reducible rfl)
                    rotate_left; · (simp only [Act.put, q1, q2, q3, q4, q5, q6, q7]; rfl)
                    refine pure_ (i := 6) (N := some 91) (v := ?_) (a' := ?_) (bm 11 111) rfl rfl (any_of HT_.out (by kernel_rfl)) (fun _ _ _ h => h) (Or.inl ⟨by rfl, ?_⟩) ?_ ?_; rotate_left; · (intro w'; go_simp; with_reducible rfl)
                    rotate_left; · (simp only [Act.put, q1, q2, q3, q4, q5, q6, q7]; rfl)
                    refine pure_ (i := 7) (N := some 92) (v := ?_) (a' := ?_) (bm 11 239) rfl rfl (any_of HT_.out (by kernel_rfl)) (fun _ _ _ h => h) (Or.inl ⟨by rfl, ?_⟩) ?_ ?_; rotate_left; · (intro w'; go_simp; with_reducible rfl)
                    rotate_left; · (simp only [Act.put, q1, q2, q3, q4, q5, q6, q7]; rfl)
                    refine pure_ (i := 8) (N := some 93) (v := ?_) (a' := ?_) (bm 11 495) rfl rfl (any_of HT_.out (by kernel_rfl)) (fun _ _ _ h => h) (Or.inl ⟨by rfl, ?_⟩) ?_ ?_; rotate_left; · (intro w'; go_simp; with_reducible rfl)
                    rotate_left; · (simp only [Act.put, q1, q2, q3, q4, q5, q6, q7]; rfl)
                    refine take_ (i := 4) (N := some 89) (v := ?_) (a' := ?_) (bm 11 511) rfl rfl (take_ofW HT_.out HW_.out (by kernel_rfl)) (fun _ _ _ h => h) (Or.inl ⟨by rfl, ?_⟩) hHeld ?_ ?_; rotate_left; · (rintro w' ⟨s0, s1, s2, s3, s4, s5, s6, s7, s8, s9, s10, s11, s12, s13⟩; go_simp; with_reducible rfl)
                    rotate_left; · (simp only [Act.put, q1, q2, q3, q4, q5, q6, q7]; rfl)
                    refine take_ (i := 9) (N := some 94) (v := ?_) (a' := ?_) (bm 11 1023) rfl rfl (take_ofW HT_.out HW_.out (by kernel_rfl)) (fun _ _ _ h => h) (Or.inl ⟨by rfl, ?_⟩) hHeld ?_ ?_; rotate_left; · (rintro w' ⟨s0, s1, s2, s3, s4, s5, s6, s7, s8, s9, s10, s11, s12, s13⟩; go_simp; with_reducible rfl)
                    rotate_left; · (simp only [Act.put, q1, q2, q3, q4, q5, q6, q7]; rfl)
                    refine pure_ (i := 10) (N := some 95) (v := ?_) (a' := ?_) (bm 11 2047) rfl rfl (any_of HT_.out (by kernel_rfl)) (fun _ _ _ h => h) (Or.inl ⟨by rfl, ?_⟩) ?_ ?_; rotate_left; · (intro w'; go_simp; with_reducible rfl)
                    rotate_left; · (simp only [Act.put, q1, q2, q3, q4, q5, q6, q7]; rfl)
                    refine done_ (done_of HT_.out (by kernel_rfl)) ?_
                    try go_wp2
                    have n0_ := Aside0.mk (below_drew1 HB.out)
                    clear HB
                    have HB := n0_
                    clear n0_
                    have p181 : 0 ≤ (x10_3 : Int) := of_decide_eq_true (by assumption)
                    have q181 : x10_3 < (l0.length : Int) := of_decide_eq_true (by assumption)
                    obtain ⟨ad181, e181, hx181_0, hx181_1, hx181_2, hx181_3, hx181_4, hx181_5, hx181_6⟩ := at_T41 HR0.out x10_3 p181 q181
                    have hw181_6 := hx181_6
                    have hw181_5 := hx181_5
                    have hw181_4 := hx181_4
                    have hw181_3 := hx181_3
                    have hw181_2 := hx181_2
                    have hw181_1 := hx181_1
                    have hw181_0 := hx181_0
                    obtain rfl : ad178 = ad181 := (by injection e181)
                    replace hx181_0 := cb HB.out hx181_0
                    replace hx181_1 := cb HB.out hx181_1
                    replace hx181_2 := cb HB.out hx181_2
                    replace hx181_3 := cb HB.out hx181_3
                    replace hx181_4 := cb HB.out hx181_4
                    replace hx181_5 := cb HB.out hx181_5
                    replace hx181_6 := cb HB.out hx181_6
                    replace p181 := eq_true p181
                    replace q181 := eq_true q181
                    have p182 : 0 ≤ (x8_2 : Int) := of_decide_eq_true (by assumption)
                    have q182 : x8_2 < (l0.length : Int) := of_decide_eq_true (by assumption)
                    obtain ⟨ad182, e182, hx182_0, hx182_1, hx182_2, hx182_3, hx182_4, hx182_5, hx182_6⟩ := at_T41 HR0.out x8_2 p182 q182
                    have hw182_6 := hx182_6
                    have hw182_5 := hx182_5
                    have hw182_4 := hx182_4
                    have hw182_3 := hx182_3
                    have hw182_2 := hx182_2
                    have hw182_1 := hx182_1
                    have hw182_0 := hx182_0
                    obtain rfl : ad178 = ad182 := (by injection e182)
                    replace hx182_0 := cb HB.out hx182_0
                    replace hx182_1 := cb HB.out hx182_1
                    replace hx182_2 := cb HB.out hx182_2
                    replace hx182_3 := cb HB.out hx182_3
                    replace hx182_4 := cb HB.out hx182_4
                    replace hx182_5 := cb HB.out hx182_5
                    replace hx182_6 := cb HB.out hx182_6
                    replace p182 := eq_true p182
                    replace q182 := eq_true q182
                    have p183 : 0 ≤ (x10_3 : Int) := of_decide_eq_true (by assumption)
                    have q183 : x10_3 < (l0.length : Int) := of_decide_eq_true (by assumption)
                    obtain ⟨ad183, e183, hx183_0, hx183_1, hx183_2, hx183_3, hx183_4, hx183_5, hx183_6⟩ := at_T41 HR0.out x10_3 p183 q183
                    have hw183_6 := hx183_6
                    have hw183_5 := hx183_5
                    have hw183_4 := hx183_4
                    have hw183_3 := hx183_3
                    have hw183_2 := hx183_2
                    have hw183_1 := hx183_1
                    have hw183_0 := hx183_0
                    obtain rfl : ad178 = ad183 := (by injection e183)
                    replace hx183_0 := cb HB.out hx183_0
                    replace hx183_1 := cb HB.out hx183_1
                    replace hx183_2 := cb HB.out hx183_2
                    replace hx183_3 := cb HB.out hx183_3
                    replace hx183_4 := cb HB.out hx183_4
                    replace hx183_5 := cb HB.out hx183_5
                    replace hx183_6 := cb HB.out hx183_6
                    replace p183 := eq_true p183
                    replace q183 := eq_true q183
                    have p184 : 0 ≤ (x8_2 : Int) := of_decide_eq_true (by assumption)
                    have q184 : x8_2 < (l0.length : Int) := of_decide_eq_true (by assumption)
                    obtain ⟨ad184, e184, hx184_0, hx184_1, hx184_2, hx184_3, hx184_4, hx184_5, hx184_6⟩ := at_T41 HR0.out x8_2 p184 q184
                    have hw184_6 := hx184_6
                    have hw184_5 := hx184_5
                    have hw184_4 := hx184_4
                    have hw184_3 := hx184_3
                    have hw184_2 := hx184_2
                    have hw184_1 := hx184_1
                    have hw184_0 := hx184_0
                    obtain rfl : ad178 = ad184 := (by injection e184)
                    replace hx184_0 := cb HB.out hx184_0
                    replace hx184_1 := cb HB.out hx184_1
                    replace hx184_2 := cb HB.out hx184_2
                    replace hx184_3 := cb HB.out hx184_3
                    replace hx184_4 := cb HB.out hx184_4
                    replace hx184_5 := cb HB.out hx184_5
                    replace hx184_6 := cb HB.out hx184_6
                    replace p184 := eq_true p184
                    replace q184 := eq_true q184
                    have p185 : 0 ≤ (x10_3 : Int) := of_decide_eq_true (by assumption)
                    have q185 : x10_3 < (l0.length : Int) := of_decide_eq_true (by assumption)
                    obtain ⟨ad185, e185, hx185_0, hx185_1, hx185_2, hx185_3, hx185_4, hx185_5, hx185_6⟩ := at_T41 HR0.out x10_3 p185 q185
                    have hw185_6 := hx185_6
                    have hw185_5 := hx185_5
                    have hw185_4 := hx185_4
                    have hw185_3 := hx185_3
                    have hw185_2 := hx185_2
                    have hw185_1 := hx185_1
                    have hw185_0 := hx185_0
                    obtain rfl : ad178 = ad185 := (by injection e185)
                    replace hx185_0 := cb HB.out hx185_0
                    replace hx185_1 := cb HB.out hx185_1
                    replace hx185_2 := cb HB.out hx185_2
                    replace hx185_3 := cb HB.out hx185_3
                    replace hx185_4 := cb HB.out hx185_4
                    replace hx185_5 := cb HB.out hx185_5
                    replace hx185_6 := cb HB.out hx185_6
                    replace p185 := eq_true p185
                    replace q185 := eq_true q185
                    have p186 : 0 ≤ (x8_2 : Int) := of_decide_eq_true (by assumption)
                    have q186 : x8_2 < (l0.length : Int) := of_decide_eq_true (by assumption)
                    obtain ⟨ad186, e186, hx186_0, hx186_1, hx186_2, hx186_3, hx186_4, hx186_5, hx186_6⟩ := at_T41 HR0.out x8_2 p186 q186
                    have hw186_6 := hx186_6
                    have hw186_5 := hx186_5
                    have hw186_4 := hx186_4
                    have hw186_3 := hx186_3
                    have hw186_2 := hx186_2
                    have hw186_1 := hx186_1
                    have hw186_0 := hx186_0
                    obtain rfl : ad178 = ad186 := (by injection e186)
                    replace hx186_0 := cb HB.out hx186_0
                    replace hx186_1 := cb HB.out hx186_1
                    replace hx186_2 := cb HB.out hx186_2
                    replace hx186_3 := cb HB.out hx186_3
                    replace hx186_4 := cb HB.out hx186_4
                    replace hx186_5 := cb HB.out hx186_5
                    replace hx186_6 := cb HB.out hx186_6
                    replace p186 := eq_true p186
                    replace q186 := eq_true q186
                    refine start_ (n := 37) (S := fun w' => w'.cell? (ad178.add ((x10_3).toNat * 7)) = some (.string ((rd_T41 l0 x10_3).f0)) ∧ w'.cell? ⟨(ad178.add ((x10_3).toNat * 7)).block, (ad178.add ((x10_3).toNat * 7)).off + 1, none⟩ = some (.int .i64 ((rd_T41 l0 x10_3).f1)) ∧ w'.cell? ⟨(ad178.add ((x10_3).toNat * 7)).block, (ad178.add ((x10_3).toNat * 7)).off + 2, none⟩ = some (.int .i64 ((rd_T41 l0 x10_3).f2)) ∧ w'.cell? ⟨(ad178.add ((x10_3).toNat * 7)).block, (ad178.add ((x10_3).toNat * 7)).off + 3, none⟩ = some (.int .i64 ((rd_T41 l0 x10_3).f3)) ∧ w'.cell? ⟨(ad178.add ((x10_3).toNat * 7)).block, (ad178.add ((x10_3).toNat * 7)).off + 4, none⟩ = some (.string ((rd_T41 l0 x10_3).f4)) ∧ w'.cell? ⟨(ad178.add ((x10_3).toNat * 7)).block, (ad178.add ((x10_3).toNat * 7)).off + 5, none⟩ = some (.string ((rd_T41 l0 x10_3).f5)) ∧ w'.cell? ⟨(ad178.add ((x10_3).toNat * 7)).block, (ad178.add ((x10_3).toNat * 7)).off + 6, none⟩ = some (.int .i64 ((rd_T41 l0 x10_3).f6)) ∧ w'.cell? (ad178.add ((x8_2).toNat * 7)) = some (.string ((rd_T41 l0 x8_2).f0)) ∧ w'.cell? ⟨(ad178.add ((x8_2).toNat * 7)).block, (ad178.add ((x8_2).toNat * 7)).off + 1, none⟩ = some (.int .i64 ((rd_T41 l0 x8_2).f1)) ∧ w'.cell? ⟨(ad178.add ((x8_2).toNat * 7)).block, (ad178.add ((x8_2).toNat * 7)).off + 2, none⟩ = some (.int .i64 ((rd_T41 l0 x8_2).f2)) ∧ w'.cell? ⟨(ad178.add ((x8_2).toNat * 7)).block, (ad178.add ((x8_2).toNat * 7)).off + 3, none⟩ = some (.int .i64 ((rd_T41 l0 x8_2).f3)) ∧ w'.cell? ⟨(ad178.add ((x8_2).toNat * 7)).block, (ad178.add ((x8_2).toNat * 7)).off + 4, none⟩ = some (.string ((rd_T41 l0 x8_2).f4)) ∧ w'.cell? ⟨(ad178.add ((x8_2).toNat * 7)).block, (ad178.add ((x8_2).toNat * 7)).off + 5, none⟩ = some (.string ((rd_T41 l0 x8_2).f5)) ∧ w'.cell? ⟨(ad178.add ((x8_2).toNat * 7)).block, (ad178.add ((x8_2).toNat * 7)).off + 6, none⟩ = some (.int .i64 ((rd_T41 l0 x8_2).f6)) ∧ w'.cell? (ad178.add ((x10_3).toNat * 7)) = some (.string ((rd_T41 l0 x10_3).f0)) ∧ w'.cell? ⟨(ad178.add ((x10_3).toNat * 7)).block, (ad178.add ((x10_3).toNat * 7)).off + 1, none⟩ = some (.int .i64 ((rd_T41 l0 x10_3).f1)) ∧ w'.cell? ⟨(ad178.add ((x10_3).toNat * 7)).block, (ad178.add ((x10_3).toNat * 7)).off + 2, none⟩ = some (.int .i64 ((rd_T41 l0 x10_3).f2)) ∧ w'.cell? ⟨(ad178.add ((x10_3).toNat * 7)).block, (ad178.add ((x10_3).toNat * 7)).off + 3, none⟩ = some (.int .i64 ((rd_T41 l0 x10_3).f3)) ∧ w'.cell? ⟨(ad178.add ((x10_3).toNat * 7)).block, (ad178.add ((x10_3).toNat * 7)).off + 4, none⟩ = some (.string ((rd_T41 l0 x10_3).f4)) ∧ w'.cell? ⟨(ad178.add ((x10_3).toNat * 7)).block, (ad178.add ((x10_3).toNat * 7)).off + 5, none⟩ = some (.string ((rd_T41 l0 x10_3).f5)) ∧ w'.cell? ⟨(ad178.add ((x10_3).toNat * 7)).block, (ad178.add ((x10_3).toNat * 7)).off + 6, none⟩ = some (.int .i64 ((rd_T41 l0 x10_3).f6)) ∧ w'.cell? (ad178.add ((x8_2).toNat * 7)) = some (.string ((rd_T41 l0 x8_2).f0)) ∧ w'.cell? ⟨(ad178.add ((x8_2).toNat * 7)).block, (ad178.add ((x8_2).toNat * 7)).off + 1, none⟩ = some (.int .i64 ((rd_T41 l0 x8_2).f1)) ∧ w'.cell? ⟨(ad178.add ((x8_2).toNat * 7)).block, (ad178.add ((x8_2).toNat * 7)).off + 2, none⟩ = some (.int .i64 ((rd_T41 l0 x8_2).f2)) ∧ w'.cell? ⟨(ad178.add ((x8_2).toNat * 7)).block, (ad178.add ((x8_2).toNat * 7)).off + 3, none⟩ = some (.int .i64 ((rd_T41 l0 x8_2).f3)) ∧ w'.cell? ⟨(ad178.add ((x8_2).toNat * 7)).block, (ad178.add ((x8_2).toNat * 7)).off + 4, none⟩ = some (.string ((rd_T41 l0 x8_2).f4)) ∧ w'.cell? ⟨(ad178.add ((x8_2).toNat * 7)).block, (ad178.add ((x8_2).toNat * 7)).off + 5, none⟩ = some (.string ((rd_T41 l0 x8_2).f5)) ∧ w'.cell? ⟨(ad178.add ((x8_2).toNat * 7)).block, (ad178.add ((x8_2).toNat * 7)).off + 6, none⟩ = some (.int .i64 ((rd_T41 l0 x8_2).f6)) ∧ w'.cell? (ad178.add ((x10_3).toNat * 7)) = some (.string ((rd_T41 l0 x10_3).f0)) ∧ w'.cell? ⟨(ad178.add ((x10_3).toNat * 7)).block, (ad178.add ((x10_3).toNat * 7)).off + 1, none⟩ = some (.int .i64 ((rd_T41 l0 x10_3).f1)) ∧ w'.cell? ⟨(ad178.add ((x10_3).toNat * 7)).block, (ad178.add ((x10_3).toNat * 7)).off + 2, none⟩ = some (.int .i64 ((rd_T41 l0 x10_3).f2)) ∧ w'.cell? ⟨(ad178.add ((x10_3).toNat * 7)).block, (ad178.add ((x10_3).toNat * 7)).off + 3, none⟩ = some (.int .i64 ((rd_T41 l0 x10_3).f3)) ∧ w'.cell? ⟨(ad178.add ((x10_3).toNat * 7)).block, (ad178.add ((x10_3).toNat * 7)).off + 4, none⟩ = some (.string ((rd_T41 l0 x10_3).f4)) ∧ w'.cell? ⟨(ad178.add ((x10_3).toNat * 7)).block, (ad178.add ((x10_3).toNat * 7)).off + 5, none⟩ = some (.string ((rd_T41 l0 x10_3).f5)) ∧ w'.cell? ⟨(ad178.add ((x10_3).toNat * 7)).block, (ad178.add ((x10_3).toNat * 7)).off + 6, none⟩ = some (.int .i64 ((rd_T41 l0 x10_3).f6)) ∧ w'.cell? (ad178.add ((x8_2).toNat * 7)) = some (.string ((rd_T41 l0 x8_2).f0)) ∧ w'.cell? ⟨(ad178.add ((x8_2).toNat * 7)).block, (ad178.add ((x8_2).toNat * 7)).off + 1, none⟩ = some (.int .i64 ((rd_T41 l0 x8_2).f1)) ∧ w'.cell? ⟨(ad178.add ((x8_2).toNat * 7)).block, (ad178.add ((x8_2).toNat * 7)).off + 2, none⟩ = some (.int .i64 ((rd_T41 l0 x8_2).f2)) ∧ w'.cell? ⟨(ad178.add ((x8_2).toNat * 7)).block, (ad178.add ((x8_2).toNat * 7)).off + 3, none⟩ = some (.int .i64 ((rd_T41 l0 x8_2).f3)) ∧ w'.cell? ⟨(ad178.add ((x8_2).toNat * 7)).block, (ad178.add ((x8_2).toNat * 7)).off + 4, none⟩ = some (.string ((rd_T41 l0 x8_2).f4)) ∧ w'.cell? ⟨(ad178.add ((x8_2).toNat * 7)).block, (ad178.add ((x8_2).toNat * 7)).off + 5, none⟩ = some (.string ((rd_T41 l0 x8_2).f5)) ∧ w'.cell? ⟨(ad178.add ((x8_2).toNat * 7)).block, (ad178.add ((x8_2).toNat * 7)).off + 6, none⟩ = some (.int .i64 ((rd_T41 l0 x8_2).f6))) (ds := []) (bm 37 0) (by kernel_rfl) rfl rfl ⟨(cb HB.out hw181_0), (cb HB.out hw181_1), (cb HB.out hw181_2), (cb HB.out hw181_3), (cb HB.out hw181_4), (cb HB.out hw181_5), (cb HB.out hw181_6), (cb HB.out hw182_0), (cb HB.out hw182_1), (cb HB.out hw182_2), (cb HB.out hw182_3), (cb HB.out hw182_4), (cb HB.out hw182_5), (cb HB.out hw182_6), (cb HB.out hw183_0), (cb HB.out hw183_1), (cb HB.out hw183_2), (cb HB.out hw183_3), (cb HB.out hw183_4), (cb HB.out hw183_5), (cb HB.out hw183_6), (cb HB.out hw184_0), (cb HB.out hw184_1), (cb HB.out hw184_2), (cb HB.out hw184_3), (cb HB.out hw184_4), (cb HB.out hw184_5), (cb HB.out hw184_6), (cb HB.out hw185_0), (cb HB.out hw185_1), (cb HB.out hw185_2), (cb HB.out hw185_3), (cb HB.out hw185_4), (cb HB.out hw185_5), (cb HB.out hw185_6), (cb HB.out hw186_0), (cb HB.out hw186_1), (cb HB.out hw186_2), (cb HB.out hw186_3), (cb HB.out hw186_4), (cb HB.out hw186_5), (cb HB.out hw186_6)⟩ (fun hHeld => ?_); refine with_tabW spec_TreeOk.tab25 spec_TreeOk.bits25 (fun HT_ HW_ => ?_)
                    generalize w50.drew = w51 at HB hx181_0 hx181_1 hx181_2 hx181_3 hx181_4 hx181_5 hx181_6 hx182_0 hx182_1 hx182_2 hx182_3 hx182_4 hx182_5 hx182_6 hx183_0 hx183_1 hx183_2 hx183_3 hx183_4 hx183_5 hx183_6 hx184_0 hx184_1 hx184_2 hx184_3 hx184_4 hx184_5 hx184_6 hx185_0 hx185_1 hx185_2 hx185_3 hx185_4 hx185_5 hx185_6 hx186_0 hx186_1 hx186_2 hx186_3 hx186_4 hx186_5 hx186_6 hHeld ⊢
                    refine pure_ (i := 0) (N := some 98) (v := ?_) (a' := ?_) (bm 37 1) rfl rfl (any_of HT_.out (by kernel_rfl)) (fun _ _ _ h => h) (Or.inl ⟨by rfl, ?_⟩) ?_ ?_; rotate_left; · (intro w'; go_simp; with_reducible rfl)
                    rotate_left; · (simp only [Act.put, q1, q2, q3, q4, q5, q6, q7]; rfl)
                    refine pure_ (i := 1) (N := some 99) (v := ?_) (a' := ?_) (bm 37 3) rfl rfl (any_of HT_.out (by kernel_rfl)) (fun _ _ _ h => h) (Or.inl ⟨by rfl, ?_⟩) ?_ ?_; rotate_left; · (intro w'; go_simp; with_reducible rfl)
                    rotate_left; · (simp only [Act.put, q1, q2, q3, q4, q5, q6, q7]; rfl)
                    refine pure_ (i := 2) (N := some 100) (v := ?_) (a' := ?_) (bm 37 7) rfl rfl (any_of HT_.out (by kernel_rfl)) (fun _ _ _ h => h) (Or.inl ⟨by rfl, ?_⟩) ?_ ?_; rotate_left; · (intro w'; go_simp; with_reducible rfl)
                    rotate_left; · (simp only [Act.put, q1, q2, q3, q4, q5, q6, q7]; rfl)
                    refine pure_ (i := 3) (N := some 101) (v := ?_) (a' := ?_) (bm 37 15) rfl rfl (any_of HT_.out (by kernel_rfl)) (fun _ _ _ h => h) (Or.inl ⟨by rfl, ?_⟩) ?_ ?_; rotate_left; · (intro w'; go_simp; with_reducible rfl)
                    rotate_left; · (simp only [Act.put, q1, q2, q3, q4, q5, q6, q7]; rfl)
                    refine pure_ (i := 5) (N := some 103) (v := ?_) (a' := ?_) (bm 37 47) rfl rfl (any_of HT_.out (by kernel_rfl)) (fun _ _ _ h => h) (Or.inl ⟨by rfl, ?_⟩) ?_ ?_; rotate_left; · (intro w'; go_simp; with_reducible rfl)
                    rotate_left; · (simp only [Act.put, q1, q2, q3, q4, q5, q6, q7]; rfl)
                    refine pure_ (i := 6) (N := some 104) (v := ?_) (a' := ?_) (bm 37 111) rfl rfl (any_of HT_.out (by kernel_rfl)) (fun _ _ _ h => h) (Or.inl ⟨by rfl, ?_⟩) ?_ ?_; rotate_left; · (intro w'; go_simp; with_reducible rfl)
                    rotate_left; · (simp only [Act.put, q1, q2, q3, q4, q5, q6, q7]; rfl)
                    refine pure_ (i := 7) (N := some 105) (v := ?_) (a' := ?_) (bm 37 239) rfl rfl (any_of HT_.out (by kernel_rfl)) (fun _ _ _ h => h) (Or.inl ⟨by rfl, ?_⟩) ?_ ?_; rotate_left; · (intro w'; go_simp; with_reducible rfl)
                    rotate_left; · (simp only [Act.put, q1, q2, q3, q4, q5, q6, q7]; rfl)
                    refine pure_ (i := 8) (N := some 106) (v := ?_) (a' := ?_) (bm 37 495) rfl rfl (any_of HT_.out (by kernel_rfl)) (fun _ _ _ h => h) (Or.inl ⟨by rfl, ?_⟩) ?_ ?_; rotate_left; · (intro w'; go_simp; with_reducible rfl)
                    rotate_left; · (simp only [Act.put, q1, q2, q3, q4, q5, q6, q7]; rfl)
                    refine take_ (i := 4) (N := some 102) (v := ?_) (a' := ?_) (bm 37 511) rfl rfl (take_ofW HT_.out HW_.out (by kernel_rfl)) (fun _ _ _ h => h) (Or.inl ⟨by rfl, ?_⟩) hHeld ?_ ?_; rotate_left; · (rintro w' ⟨s0, s1, s2, s3, s4, s5, s6, s7, s8, s9, s10, s11, s12, s13, s14, s15, s16, s17, s18, s19, s20, s21, s22, s23, s24, s25, s26, s27, s28, s29, s30, s31, s32, s33, s34, s35, s36, s37, s38, s39, s40, s41⟩; go_simp; with_reducible rfl)
                    rotate_left; · (simp only [Act.put, q1, q2, q3, q4, q5, q6, q7]; rfl)
                    refine take_ (i := 9) (N := some 107) (v := ?_) (a' := ?_) (bm 37 1023) rfl rfl (take_ofW HT_.out HW_.out (by kernel_rfl)) (fun _ _ _ h => h) (Or.inl ⟨by rfl, ?_⟩) hHeld ?_ ?_; rotate_left; · (rintro w' ⟨s0, s1, s2, s3, s4, s5, s6, s7, s8, s9, s10, s11, s12, s13, s14, s15, s16, s17, s18, s19, s20, s21, s22, s23, s24, s25, s26, s27, s28, s29, s30, s31, s32, s33, s34, s35, s36, s37, s38, s39, s40, s41⟩; go_simp; with_reducible rfl)
                    rotate_left; · (simp only [Act.put, q1, q2, q3, q4, q5, q6, q7]; rfl)
                    refine pure_ (i := 10) (N := some 108) (v := ?_) (a' := ?_) (bm 37 2047) rfl rfl (any_of HT_.out (by kernel_rfl)) (fun _ _ _ h => h) (Or.inl ⟨by rfl, ?_⟩) ?_ ?_; rotate_left; · (intro w'; go_simp; with_reducible rfl)
                    rotate_left; · (simp only [Act.put, q1, q2, q3, q4, q5, q6, q7]; rfl)
                    refine pure_ (i := 11) (N := some 109) (v := ?_) (a' := ?_) (bm 37 4095) rfl rfl (any_of HT_.out (by kernel_rfl)) (fun _ _ _ h => h) (Or.inl ⟨by rfl, ?_⟩) ?_ ?_; rotate_left; · (intro w'; go_simp; with_reducible rfl)
                    rotate_left; · (simp only [Act.put, q1, q2, q3, q4, q5, q6, q7]; rfl)
                    refine pure_ (i := 12) (N := some 110) (v := ?_) (a' := ?_) (bm 37 8191) rfl rfl (any_of HT_.out (by kernel_rfl)) (fun _ _ _ h => h) (Or.inl ⟨by rfl, ?_⟩) ?_ ?_; rotate_left; · (intro w'; go_simp; with_reducible rfl)
                    rotate_left; · (simp only [Act.put, q1, q2, q3, q4, q5, q6, q7]; rfl)
                    refine pure_ (i := 13) (N := some 111) (v := ?_) (a' := ?_) (bm 37 16383) rfl rfl (any_of HT_.out (by kernel_rfl)) (fun _ _ _ h => h) (Or.inl ⟨by rfl, ?_⟩) ?_ ?_; rotate_left; · (intro w'; go_simp; with_reducible rfl)
                    rotate_left; · (simp only [Act.put, q1, q2, q3, q4, q5, q6, q7]; rfl)
                    refine pure_ (i := 14) (N := some 112) (v := ?_) (a' := ?_) (bm 37 32767) rfl rfl (any_of HT_.out (by kernel_rfl)) (fun _ _ _ h => h) (Or.inl ⟨by rfl, ?_⟩) ?_ ?_; rotate_left; · (intro w'; go_simp; with_reducible rfl)
                    rotate_left; · (simp only [Act.put, q1, q2, q3, q4, q5, q6, q7]; rfl)
                    refine pure_ (i := 15) (N := some 113) (v := ?_) (a' := ?_) (bm 37 65535) rfl rfl (any_of HT_.out (by kernel_rfl)) (fun _ _ _ h => h) (Or.inl ⟨by rfl, ?_⟩) ?_ ?_; rotate_left; · (intro w'; go_simp; with_reducible rfl)
                    rotate_left; · (simp only [Act.put, q1, q2, q3, q4, q5, q6, q7]; rfl)
                    refine pure_ (i := 17) (N := some 115) (v := ?_) (a' := ?_) (bm 37 196607) rfl rfl (any_of HT_.out (by kernel_rfl)) (fun _ _ _ h => h) (Or.inl ⟨by rfl, ?_⟩) ?_ ?_; rotate_left; · (intro w'; go_simp; with_reducible rfl)
                    rotate_left; · (simp only [Act.put, q1, q2, q3, q4, q5, q6, q7]; rfl)
                    refine pure_ (i := 18) (N := some 116) (v := ?_) (a' := ?_) (bm 37 458751) rfl rfl (any_of HT_.out (by kernel_rfl)) (fun _ _ _ h => h) (Or.inl ⟨by rfl, ?_⟩) ?_ ?_; rotate_left; · (intro w'; go_simp; with_reducible rfl)
                    rotate_left; · (simp only [Act.put, q1, q2, q3, q4, q5, q6, q7]; rfl)
                    refine pure_ (i := 19) (N := some 117) (v := ?_) (a' := ?_) (bm 37 983039) rfl rfl (any_of HT_.out (by kernel_rfl)) (fun _ _ _ h => h) (Or.inl ⟨by rfl, ?_⟩) ?_ ?_; rotate_left; · (intro w'; go_simp; with_reducible rfl)
                    rotate_left; · (simp only [Act.put, q1, q2, q3, q4, q5, q6, q7]; rfl)
                    refine pure_ (i := 20) (N := some 118) (v := ?_) (a' := ?_) (bm 37 2031615) rfl rfl (any_of HT_.out (by kernel_rfl)) (fun _ _ _ h => h) (Or.inl ⟨by rfl, ?_⟩) ?_ ?_; rotate_left; · (intro w'; go_simp; with_reducible rfl)
                    rotate_left; · (simp only [Act.put, q1, q2, q3, q4, q5, q6, q7]; rfl)
                    refine take_ (i := 16) (N := some 114) (v := ?_) (a' := ?_) (bm 37 2097151) rfl rfl (take_ofW HT_.out HW_.out (by kernel_rfl)) (fun _ _ _ h => h) (Or.inl ⟨by rfl, ?_⟩) hHeld ?_ ?_; rotate_left; · (rintro w' ⟨s0, s1, s2, s3, s4, s5, s6, s7, s8, s9, s10, s11, s12, s13, s14, s15, s16, s17, s18, s19, s20, s21, s22, s23, s24, s25, s26, s27, s28, s29, s30, s31, s32, s33, s34, s35, s36, s37, s38, s39, s40, s41⟩; go_simp; with_reducible rfl)
                    rotate_left; · (simp only [Act.put, q1, q2, q3, q4, q5, q6, q7]; rfl)
                    refine take_ (i := 21) (N := some 119) (v := ?_) (a' := ?_) (bm 37 4194303) rfl rfl (take_ofW HT_.out HW_.out (by kernel_rfl)) (fun _ _ _ h => h) (Or.inl ⟨by rfl, ?_⟩) hHeld ?_ ?_; rotate_left; · (rintro w' ⟨s0, s1, s2, s3, s4, s5, s6, s7, s8, s9, s10, s11, s12, s13, s14, s15, s16, s17, s18, s19, s20, s21, s22, s23, s24, s25, s26, s27, s28, s29, s30, s31, s32, s33, s34, s35, s36, s37, s38, s39, s40, s41⟩; go_simp; with_reducible rfl)
                    rotate_left; · (simp only [Act.put, q1, q2, q3, q4, q5, q6, q7]; rfl)
                    refine pure_ (i := 22) (N := some 120) (v := ?_) (a' := ?_) (bm 37 8388607) rfl rfl (any_of HT_.out (by kernel_rfl)) (fun _ _ _ h => h) (Or.inl ⟨by rfl, ?_⟩) ?_ ?_; rotate_left; · (intro w'; go_simp; with_reducible rfl)
                    rotate_left; · (simp only [Act.put, q1, q2, q3, q4, q5, q6, q7]; rfl)
                    refine pure_ (i := 23) (N := some 121) (v := ?_) (a' := ?_) (bm 37 16777215) rfl rfl (any_of HT_.out (by kernel_rfl)) (fun _ _ _ h => h) (Or.inl ⟨by rfl, ?_⟩) ?_ ?_; rotate_left; · (intro w'; go_simp; with_reducible rfl)
                    rotate_left; · (simp only [Act.put, q1, q2, q3, q4, q5, q6, q7]; rfl)
                    refine pure_ (i := 24) (N := some 122) (v := ?_) (a' := ?_) (bm 37 33554431) rfl rfl (any_of HT_.out (by kernel_rfl)) (fun _ _ _ h => h) (Or.inl ⟨by rfl, ?_⟩) ?_ ?_; rotate_left; · (intro w'; go_simp; with_reducible rfl)
                    rotate_left; · (simp only [Act.put, q1, q2, q3, q4, q5, q6, q7]; rfl)
                    refine pure_ (i := 25) (N := some 123) (v := ?_) (a' := ?_) (bm 37 67108863) rfl rfl (any_of HT_.out (by kernel_rfl)) (fun _ _ _ h => h) (Or.inl ⟨by rfl, ?_⟩) ?_ ?_; rotate_left; · (intro w'; go_simp; with_reducible rfl)
                    rotate_left; · (simp only [Act.put, q1, q2, q3, q4, q5, q6, q7]; rfl)
                    refine pure_ (i := 26) (N := some 124) (v := ?_) (a' := ?_) (bm 37 134217727) rfl rfl (any_of HT_.out (by kernel_rfl)) (fun _ _ _ h => h) (Or.inl ⟨by rfl, ?_⟩) ?_ ?_; rotate_left; · (intro w'; go_simp; with_reducible rfl)
                    rotate_left; · (simp only [Act.put, q1, q2, q3, q4, q5, q6, q7]; rfl)
                    refine pure_ (i := 27) (N := some 125) (v := ?_) (a' := ?_) (bm 37 268435455) rfl rfl (any_of HT_.out (by kernel_rfl)) (fun _ _ _ h => h) (Or.inl ⟨by rfl, ?_⟩) ?_ ?_; rotate_left; · (intro w'; go_simp; with_reducible rfl)
                    rotate_left; · (simp only [Act.put, q1, q2, q3, q4, q5, q6, q7]; rfl)
                    refine pure_ (i := 28) (N := some 126) (v := ?_) (a' := ?_) (bm 37 536870911) rfl rfl (any_of HT_.out (by kernel_rfl)) (fun _ _ _ h => h) (Or.inl ⟨by rfl, ?_⟩) ?_ ?_; rotate_left; · (intro w'; go_simp; with_reducible rfl)
                    rotate_left; · (simp only [Act.put, q1, q2, q3, q4, q5, q6, q7]; rfl)
                    refine pure_ (i := 30) (N := some 128) (v := ?_) (a' := ?_) (bm 37 1610612735) rfl rfl (any_of HT_.out (by kernel_rfl)) (fun _ _ _ h => h) (Or.inl ⟨by rfl, ?_⟩) ?_ ?_; rotate_left; · (intro w'; go_simp; with_reducible rfl)
                    rotate_left; · (simp only [Act.put, q1, q2, q3, q4, q5, q6, q7]; rfl)
                    refine pure_ (i := 31) (N := some 129) (v := ?_) (a' := ?_) (bm 37 3758096383) rfl rfl (any_of HT_.out (by kernel_rfl)) (fun _ _ _ h => h) (Or.inl ⟨by rfl, ?_⟩) ?_ ?_; rotate_left; · (intro w'; go_simp; with_reducible rfl)
                    rotate_left; · (simp only [Act.put, q1, q2, q3, q4, q5, q6, q7]; rfl)
                    refine pure_ (i := 32) (N := some 130) (v := ?_) (a' := ?_) (bm 37 8053063679) rfl rfl (any_of HT_.out (by kernel_rfl)) (fun _ _ _ h => h) (Or.inl ⟨by rfl, ?_⟩) ?_ ?_; rotate_left; · (intro w'; go_simp; with_reducible rfl)
                    rotate_left; · (simp only [Act.put, q1, q2, q3, q4, q5, q6, q7]; rfl)
                    refine pure_ (i := 33) (N := some 131) (v := ?_) (a' := ?_) (bm 37 16642998271) rfl rfl (any_of HT_.out (by kernel_rfl)) (fun _ _ _ h => h) (Or.inl ⟨by rfl, ?_⟩) ?_ ?_; rotate_left; · (intro w'; go_simp; with_reducible rfl)
                    rotate_left; · (simp only [Act.put, q1, q2, q3, q4, q5, q6, q7]; rfl)
                    refine take_ (i := 29) (N := some 127) (v := ?_) (a' := ?_) (bm 37 17179869183) rfl rfl (take_ofW HT_.out HW_.out (by kernel_rfl)) (fun _ _ _ h => h) (Or.inl ⟨by rfl, ?_⟩) hHeld ?_ ?_; rotate_left; · (rintro w' ⟨s0, s1, s2, s3, s4, s5, s6, s7, s8, s9, s10, s11, s12, s13, s14, s15, s16, s17, s18, s19, s20, s21, s22, s23, s24, s25, s26, s27, s28, s29, s30, s31, s32, s33, s34, s35, s36, s37, s38, s39, s40, s41⟩; go_simp; with_reducible rfl)
                    rotate_left; · (simp only [Act.put, q1, q2, q3, q4, q5, q6, q7]; rfl)
                    refine take_ (i := 34) (N := some 132) (v := ?_) (a' := ?_) (bm 37 34359738367) rfl rfl (take_ofW HT_.out HW_.out (by kernel_rfl)) (fun _ _ _ h => h) (Or.inl ⟨by rfl, ?_⟩) hHeld ?_ ?_; rotate_left; · (rintro w' ⟨s0, s1, s2, s3, s4, s5, s6, s7, s8, s9, s10, s11, s12, s13, s14, s15, s16, s17, s18, s19, s20, s21, s22, s23, s24, s25, s26, s27, s28, s29, s30, s31, s32, s33, s34, s35, s36, s37, s38, s39, s40, s41⟩; go_simp; with_reducible rfl)
                    rotate_left; · (simp only [Act.put, q1, q2, q3, q4, q5, q6, q7]; rfl)
                    refine pure_ (i := 35) (N := some 133) (v := ?_) (a' := ?_) (bm 37 68719476735) rfl rfl (any_of HT_.out (by kernel_rfl)) (fun _ _ _ h => h) (Or.inl ⟨by rfl, ?_⟩) ?_ ?_; rotate_left; · (intro w'; go_simp; with_reducible rfl)
                    rotate_left; · (simp only [Act.put, q1, q2, q3, q4, q5, q6, q7]; rfl)
                    refine pure_ (i := 36) (N := some 134) (v := ?_) (a' := ?_) (bm 37 137438953471) rfl rfl (any_of HT_.out (by kernel_rfl)) (fun _ _ _ h => h) (Or.inl ⟨by rfl, ?_⟩) ?_ ?_; rotate_left; · (intro w'; go_simp; with_reducible rfl)
                    rotate_left; · (simp only [Act.put, q1, q2, q3, q4, q5, q6, q7]; rfl)
                    refine done_ (done_of HT_.out (by kernel_rfl)) ?_
                    try go_wp2
                    go_roundg k3
                    case measure => have := HK1.out; have := HK2.out; have := HK3.out; omega
                    case rel => exact ⟨(wrap64 (x9_3 + 1)), (wrap64 (x10_3 + 1)), (by first | rfl | (simp; done) | (simp [*]; done)), (by first | rfl | (simp; done) | (simp [*]; done)), H', ⟨by have := HK1.out; have := HK2.out; have := HK3.out; omega⟩, ⟨by repeat (first | exact HB.out | apply below_alloc | apply pw_below_drewN | apply below_drew1)⟩⟩
                   ·
                    rw [if_neg c49] at H
                    have c49b0 : (((rd_T41 l0 x10_3).f4).toList == ((rd_T41 l0 x8_2).f4).toList) = false := beq_eq_false_iff_ne.mpr c49
                    have c49b1 : (((rd_T41 l0 x10_3).f4).toList != ((rd_T41 l0 x8_2).f4).toList) = true := bne_iff_ne.mpr c49
                    obtain rfl := Option.some.inj H
                    try go_wp2
                    have n0_ := Aside0.mk (below_drew1 HB.out)
                    clear HB
                    have HB := n0_
                    clear n0_
                    have p179 : 0 ≤ (x10_3 : Int) := of_decide_eq_true (by assumption)
                    have q179 : x10_3 < (l0.length : Int) := of_decide_eq_true (by assumption)
                    obtain ⟨ad179, e179, hx179_0, hx179_1, hx179_2, hx179_3, hx179_4, hx179_5, hx179_6⟩ := at_T41 HR0.out x10_3 p179 q179
                    have hw179_6 := hx179_6
                    have hw179_5 := hx179_5
                    have hw179_4 := hx179_4
                    have hw179_3 := hx179_3
                    have hw179_2 := hx179_2
                    have hw179_1 := hx179_1
                    have hw179_0 := hx179_0
                    obtain rfl : ad178 = ad179 := (by injection e179)
                    replace hx179_0 := cb HB.out hx179_0
                    replace hx179_1 := cb HB.out hx179_1
                    replace hx179_2 := cb HB.out hx179_2
                    replace hx179_3 := cb HB.out hx179_3
                    replace hx179_4 := cb HB.out hx179_4
                    replace hx179_5 := cb HB.out hx179_5
                    replace hx179_6 := cb HB.out hx179_6
                    replace p179 := eq_true p179
                    replace q179 := eq_true q179
                    have p180 : 0 ≤ (x8_2 : Int) := of_decide_eq_true (by assumption)
                    have q180 : x8_2 < (l0.length : Int) := of_decide_eq_true (by assumption)
                    obtain ⟨ad180, e180, hx180_0, hx180_1, hx180_2, hx180_3, hx180_4, hx180_5, hx180_6⟩ := at_T41 HR0.out x8_2 p180 q180
                    have hw180_6 := hx180_6
                    have hw180_5 := hx180_5
                    have hw180_4 := hx180_4
                    have hw180_3 := hx180_3
                    have hw180_2 := hx180_2
                    have hw180_1 := hx180_1
                    have hw180_0 := hx180_0
                    obtain rfl : ad178 = ad180 := (by injection e180)
                    replace hx180_0 := cb HB.out hx180_0
                    replace hx180_1 := cb HB.out hx180_1
                    replace hx180_2 := cb HB.out hx180_2
                    replace hx180_3 := cb HB.out hx180_3
                    replace hx180_4 := cb HB.out hx180_4
                    replace hx180_5 := cb HB.out hx180_5
                    replace hx180_6 := cb HB.out hx180_6
                    replace p180 := eq_true p180
                    replace q180 := eq_true q180
                    refine start_ (n := 11) (S := fun w' => w'.cell? (ad178.add ((x10_3).toNat * 7)) = some (.string ((rd_T41 l0 x10_3).f0)) ∧ w'.cell? ⟨(ad178.add ((x10_3).toNat * 7)).block, (ad178.add ((x10_3).toNat * 7)).off + 1, none⟩ = some (.int .i64 ((rd_T41 l0 x10_3).f1)) ∧ w'.cell? ⟨(ad178.add ((x10_3).toNat * 7)).block, (ad178.add ((x10_3).toNat * 7)).off + 2, none⟩ = some (.int .i64 ((rd_T41 l0 x10_3).f2)) ∧ w'.cell? ⟨(ad178.add ((x10_3).toNat * 7)).block, (ad178.add ((x10_3).toNat * 7)).off + 3, none⟩ = some (.int .i64 ((rd_T41 l0 x10_3).f3)) ∧ w'.cell? ⟨(ad178.add ((x10_3).toNat * 7)).block, (ad178.add ((x10_3).toNat * 7)).off + 4, none⟩ = some (.string ((rd_T41 l0 x10_3).f4)) ∧ w'.cell? ⟨(ad178.add ((x10_3).toNat * 7)).block, (ad178.add ((x10_3).toNat * 7)).off + 5, none⟩ = some (.string ((rd_T41 l0 x10_3).f5)) ∧ w'.cell? ⟨(ad178.add ((x10_3).toNat * 7)).block, (ad178.add ((x10_3).toNat * 7)).off + 6, none⟩ = some (.int .i64 ((rd_T41 l0 x10_3).f6)) ∧ w'.cell? (ad178.add ((x8_2).toNat * 7)) = some (.string ((rd_T41 l0 x8_2).f0)) ∧ w'.cell? ⟨(ad178.add ((x8_2).toNat * 7)).block, (ad178.add ((x8_2).toNat * 7)).off + 1, none⟩ = some (.int .i64 ((rd_T41 l0 x8_2).f1)) ∧ w'.cell? ⟨(ad178.add ((x8_2).toNat * 7)).block, (ad178.add ((x8_2).toNat * 7)).off + 2, none⟩ = some (.int .i64 ((rd_T41 l0 x8_2).f2)) ∧ w'.cell? ⟨(ad178.add ((x8_2).toNat * 7)).block, (ad178.add ((x8_2).toNat * 7)).off + 3, none⟩ = some (.int .i64 ((rd_T41 l0 x8_2).f3)) ∧ w'.cell? ⟨(ad178.add ((x8_2).toNat * 7)).block, (ad178.add ((x8_2).toNat * 7)).off + 4, none⟩ = some (.string ((rd_T41 l0 x8_2).f4)) ∧ w'.cell? ⟨(ad178.add ((x8_2).toNat * 7)).block, (ad178.add ((x8_2).toNat * 7)).off + 5, none⟩ = some (.string ((rd_T41 l0 x8_2).f5)) ∧ w'.cell? ⟨(ad178.add ((x8_2).toNat * 7)).block, (ad178.add ((x8_2).toNat * 7)).off + 6, none⟩ = some (.int .i64 ((rd_T41 l0 x8_2).f6))) (ds := []) (bm 11 0) (by kernel_rfl) rfl rfl ⟨(cb HB.out hw179_0), (cb HB.out hw179_1), (cb HB.out hw179_2), (cb HB.out hw179_3), (cb HB.out hw179_4), (cb HB.out hw179_5), (cb HB.out hw179_6), (cb HB.out hw180_0), (cb HB.out hw180_1), (cb HB.out hw180_2), (cb HB.out hw180_3), (cb HB.out hw180_4), (cb HB.out hw180_5), (cb HB.out hw180_6)⟩ (fun hHeld => ?_); refine with_tabW spec_TreeOk.tab23 spec_TreeOk.bits23 (fun HT_ HW_ => ?_)
                    generalize wr.drew = w52 at HB hx179_0 hx179_1 hx179_2 hx179_3 hx179_4 hx179_5 hx179_6 hx180_0 hx180_1 hx180_2 hx180_3 hx180_4 hx180_5 hx180_6 hHeld ⊢
                    refine pure_ (i := 0) (N := some 85) (v := ?_) (a' := ?_) (bm 11 1) rfl rfl (any_of HT_.out (by kernel_rfl)) (fun _ _ _ h => h) (Or.inl ⟨by rfl, ?_⟩) ?_ ?_; rotate_left; · (intro w'; go_simp; with_reducible rfl)
                    rotate_left; · (simp only [Act.put, q1, q2, q3, q4, q5, q6, q7]; rfl)
                    refine pure_ (i := 1) (N := some 86) (v := ?_) (a' := ?_) (bm 11 3) rfl rfl (any_of HT_.out (by kernel_rfl)) (fun _ _ _ h => h) (Or.inl ⟨by rfl, ?_⟩) ?_ ?_; rotate_left; · (intro w'; go_simp; with_reducible rfl)
                    rotate_left; · (simp only [Act.put, q1, q2, q3, q4, q5, q6, q7]; rfl)
                    refine pure_ (i := 2) (N := some 87) (v := ?_) (a' := ?_) (bm 11 7) rfl rfl (any_of HT_.out (by kernel_rfl)) (fun _ _ _ h => h) (Or.inl ⟨by rfl, ?_⟩) ?_ ?_; rotate_left; · (intro w'; go_simp; with_reducible rfl)
                    rotate_left; · (simp only [Act.put, q1, q2, q3, q4, q5, q6, q7]; rfl)
                    refine pure_ (i := 3) (N := some 88) (v := ?_) (a' := ?_) (bm 11 15) rfl rfl (any_of HT_.out (by kernel_rfl)) (fun _ _ _ h => h) (Or.inl ⟨by rfl, ?_⟩) ?_ ?_; rotate_left; · (intro w'; go_simp; with_reducible rfl)
                    rotate_left; · (simp only [Act.put, q1, q2, q3, q4, q5, q6, q7]; rfl)
                    refine pure_ (i := 5) (N := some 90) (v := ?_) (a' := ?_) (bm 11 47) rfl rfl (any_of HT_.out (by kernel_rfl)) (fun _ _ _ h => h) (Or.inl ⟨by rfl, ?_⟩) ?_ ?_; rotate_left; · (intro w'; go_simp; with_reducible rfl)
                    rotate_left; · (simp only [Act.put, q1, q2, q3, q4, q5, q6, q7]; rfl)
                    refine pure_ (i := 6) (N := some 91) (v := ?_) (a' := ?_) (bm 11 111) rfl rfl (any_of HT_.out (by kernel_rfl)) (fun _ _ _ h => h) (Or.inl ⟨by rfl, ?_⟩) ?_ ?_; rotate_left; · (intro w'; go_simp; with_reducible rfl)
                    rotate_left; · (simp only [Act.put, q1, q2, q3, q4, q5, q6, q7]; rfl)
                    refine pure_ (i := 7) (N := some 92) (v := ?_) (a' := ?_) (bm 11 239) rfl rfl (any_of HT_.out (by kernel_rfl)) (fun _ _ _ h => h) (Or.inl ⟨by rfl, ?_⟩) ?_ ?_; rotate_left; · (intro w'; go_simp; with_reducible rfl)
                    rotate_left; · (simp only [Act.put, q1, q2, q3, q4, q5, q6, q7]; rfl)
                    refine pure_ (i := 8) (N := some 93) (v := ?_) (a' := ?_) (bm 11 495) rfl rfl (any_of HT_.out (by kernel_rfl)) (fun _ _ _ h => h) (Or.inl ⟨by rfl, ?_⟩) ?_ ?_; rotate_left; · (intro w'; go_simp; with_reducible rfl)
                    rotate_left; · (simp only [Act.put, q1, q2, q3, q4, q5, q6, q7]; rfl)
                    refine take_ (i := 4) (N := some 89) (v := ?_) (a' := ?_) (bm 11 511) rfl rfl (take_ofW HT_.out HW_.out (by kernel_rfl)) (fun _ _ _ h => h) (Or.inl ⟨by rfl, ?_⟩) hHeld ?_ ?_; rotate_left; · (rintro w' ⟨s0, s1, s2, s3, s4, s5, s6, s7, s8, s9, s10, s11, s12, s13⟩; go_simp; with_reducible rfl)
                    rotate_left; · (simp only [Act.put, q1, q2, q3, q4, q5, q6, q7]; rfl)
                    refine take_ (i := 9) (N := some 94) (v := ?_) (a' := ?_) (bm 11 1023) rfl rfl (take_ofW HT_.out HW_.out (by kernel_rfl)) (fun _ _ _ h => h) (Or.inl ⟨by rfl, ?_⟩) hHeld ?_ ?_; rotate_left; · (rintro w' ⟨s0, s1, s2, s3, s4, s5, s6, s7, s8, s9, s10, s11, s12, s13⟩; go_simp; with_reducible rfl)
                    rotate_left; · (simp only [Act.put, q1, q2, q3, q4, q5, q6, q7]; rfl)
                    refine pure_ (i := 10) (N := some 95) (v := ?_) (a' := ?_) (bm 11 2047) rfl rfl (any_of HT_.out (by kernel_rfl)) (fun _ _ _ h => h) (Or.inl ⟨by rfl, ?_⟩) ?_ ?_; rotate_left; · (intro w'; go_simp; with_reducible rfl)
                    rotate_left; · (simp only [Act.put, q1, q2, q3, q4, q5, q6, q7]; rfl)
                    refine done_ (done_of HT_.out (by kernel_rfl)) ?_
                    try go_wp2
                    have n0_ := Aside0.mk (below_drew1 HB.out)
                    clear HB
                    have HB := n0_
                    clear n0_
                    have p181 : 0 ≤ (x10_3 : Int) := of_decide_eq_true (by assumption)
                    have q181 : x10_3 < (l0.length : Int) := of_decide_eq_true (by assumption)
                    obtain ⟨ad181, e181, hx181_0, hx181_1, hx181_2, hx181_3, hx181_4, hx181_5, hx181_6⟩ := at_T41 HR0.out x10_3 p181 q181
                    have hw181_6 := hx181_6
                    have hw181_5 := hx181_5
                    have hw181_4 := hx181_4
                    have hw181_3 := hx181_3
                    have hw181_2 := hx181_2
                    have hw181_1 := hx181_1
                    have hw181_0 := hx181_0
                    obtain rfl : ad178 = ad181 := (by injection e181)
                    replace hx181_0 := cb HB.out hx181_0
                    replace hx181_1 := cb HB.out hx181_1
                    replace hx181_2 := cb HB.out hx181_2
                    replace hx181_3 := cb HB.out hx181_3
                    replace hx181_4 := cb HB.out hx181_4
                    replace hx181_5 := cb HB.out hx181_5
                    replace hx181_6 := cb HB.out hx181_6
                    replace p181 := eq_true p181
                    replace q181 := eq_true q181
                    have p182 : 0 ≤ (x8_2 : Int) := of_decide_eq_true (by assumption)
                    have q182 : x8_2 < (l0.length : Int) := of_decide_eq_true (by assumption)
                    obtain ⟨ad182, e182, hx182_0, hx182_1, hx182_2, hx182_3, hx182_4, hx182_5, hx182_6⟩ := at_T41 HR0.out x8_2 p182 q182
                    have hw182_6 := hx182_6
                    have hw182_5 := hx182_5
                    have hw182_4 := hx182_4
                    have hw182_3 := hx182_3
                    have hw182_2 := hx182_2
                    have hw182_1 := hx182_1
                    have hw182_0 := hx182_0
                    obtain rfl : ad178 = ad182 := (by injection e182)
                    replace hx182_0 := cb HB.out hx182_0
                    replace hx182_1 := cb HB.out hx182_1
                    replace hx182_2 := cb HB.out hx182_2
                    replace hx182_3 := cb HB.out hx182_3
                    replace hx182_4 := cb HB.out hx182_4
                    replace hx182_5 := cb HB.out hx182_5
                    replace hx182_6 := cb HB.out hx182_6
                    replace p182 := eq_true p182
                    replace q182 := eq_true q182
                    have p183 : 0 ≤ (x10_3 : Int) := of_decide_eq_true (by assumption)
                    have q183 : x10_3 < (l0.length : Int) := of_decide_eq_true (by assumption)
                    obtain ⟨ad183, e183, hx183_0, hx183_1, hx183_2, hx183_3, hx183_4, hx183_5, hx183_6⟩ := at_T41 HR0.out x10_3 p183 q183
                    have hw183_6 := hx183_6
                    have hw183_5 := hx183_5
                    have hw183_4 := hx183_4
                    have hw183_3 := hx183_3
                    have hw183_2 := hx183_2
                    have hw183_1 := hx183_1
                    have hw183_0 := hx183_0
                    obtain rfl : ad178 = ad183 := (by injection e183)
                    replace hx183_0 := cb HB.out hx183_0
                    replace hx183_1 := cb HB.out hx183_1
                    replace hx183_2 := cb HB.out hx183_2
                    replace hx183_3 := cb HB.out hx183_3
                    replace hx183_4 := cb HB.out hx183_4
                    replace hx183_5 := cb HB.out hx183_5
                    replace hx183_6 := cb HB.out hx183_6
                    replace p183 := eq_true p183
                    replace q183 := eq_true q183
                    have p184 : 0 ≤ (x8_2 : Int) := of_decide_eq_true (by assumption)
                    have q184 : x8_2 < (l0.length : Int) := of_decide_eq_true (by assumption)
                    obtain ⟨ad184, e184, hx184_0, hx184_1, hx184_2, hx184_3, hx184_4, hx184_5, hx184_6⟩ := at_T41 HR0.out x8_2 p184 q184
                    have hw184_6 := hx184_6
                    have hw184_5 := hx184_5
                    have hw184_4 := hx184_4
                    have hw184_3 := hx184_3
                    have hw184_2 := hx184_2
                    have hw184_1 := hx184_1
                    have hw184_0 := hx184_0
                    obtain rfl : ad178 = ad184 := (by injection e184)
                    replace hx184_0 := cb HB.out hx184_0
                    replace hx184_1 := cb HB.out hx184_1
                    replace hx184_2 := cb HB.out hx184_2
                    replace hx184_3 := cb HB.out hx184_3
                    replace hx184_4 := cb HB.out hx184_4
                    replace hx184_5 := cb HB.out hx184_5
                    replace hx184_6 := cb HB.out hx184_6
                    replace p184 := eq_true p184
                    replace q184 := eq_true q184
                    have p185 : 0 ≤ (x10_3 : Int) := of_decide_eq_true (by assumption)
                    have q185 : x10_3 < (l0.length : Int) := of_decide_eq_true (by assumption)
                    obtain ⟨ad185, e185, hx185_0, hx185_1, hx185_2, hx185_3, hx185_4, hx185_5, hx185_6⟩ := at_T41 HR0.out x10_3 p185 q185
                    have hw185_6 := hx185_6
                    have hw185_5 := hx185_5
                    have hw185_4 := hx185_4
                    have hw185_3 := hx185_3
                    have hw185_2 := hx185_2
                    have hw185_1 := hx185_1
                    have hw185_0 := hx185_0
                    obtain rfl : ad178 = ad185 := (by injection e185)
                    replace hx185_0 := cb HB.out hx185_0
                    replace hx185_1 := cb HB.out hx185_1
                    replace hx185_2 := cb HB.out hx185_2
                    replace hx185_3 := cb HB.out hx185_3
                    replace hx185_4 := cb HB.out hx185_4
                    replace hx185_5 := cb HB.out hx185_5
                    replace hx185_6 := cb HB.out hx185_6
                    replace p185 := eq_true p185
                    replace q185 := eq_true q185
                    have p186 : 0 ≤ (x8_2 : Int) := of_decide_eq_true (by assumption)
                    have q186 : x8_2 < (l0.length : Int) := of_decide_eq_true (by assumption)
                    obtain ⟨ad186, e186, hx186_0, hx186_1, hx186_2, hx186_3, hx186_4, hx186_5, hx186_6⟩ := at_T41 HR0.out x8_2 p186 q186
                    have hw186_6 := hx186_6
                    have hw186_5 := hx186_5
                    have hw186_4 := hx186_4
                    have hw186_3 := hx186_3
                    have hw186_2 := hx186_2
                    have hw186_1 := hx186_1
                    have hw186_0 := hx186_0
                    obtain rfl : ad178 = ad186 := (by injection e186)
                    replace hx186_0 := cb HB.out hx186_0
                    replace hx186_1 := cb HB.out hx186_1
                    replace hx186_2 := cb HB.out hx186_2
                    replace hx186_3 := cb HB.out hx186_3
                    replace hx186_4 := cb HB.out hx186_4
                    replace hx186_5 := cb HB.out hx186_5
                    replace hx186_6 := cb HB.out hx186_6
                    replace p186 := eq_true p186
                    replace q186 := eq_true q186
                    refine start_ (n := 37) (S := fun w' => w'.cell? (ad178.add ((x10_3).toNat * 7)) = some (.string ((rd_T41 l0 x10_3).f0)) ∧ w'.cell? ⟨(ad178.add ((x10_3).toNat * 7)).block, (ad178.add ((x10_3).toNat * 7)).off + 1, none⟩ = some (.int .i64 ((rd_T41 l0 x10_3).f1)) ∧ w'.cell? ⟨(ad178.add ((x10_3).toNat * 7)).block, (ad178.add ((x10_3).toNat * 7)).off + 2, none⟩ = some (.int .i64 ((rd_T41 l0 x10_3).f2)) ∧ w'.cell? ⟨(ad178.add ((x10_3).toNat * 7)).block, (ad178.add ((x10_3).toNat * 7)).off + 3, none⟩ = some (.int .i64 ((rd_T41 l0 x10_3).f3)) ∧ w'.cell? ⟨(ad178.add ((x10_3).toNat * 7)).block, (ad178.add ((x10_3).toNat * 7)).off + 4, none⟩ = some (.string ((rd_T41 l0 x10_3).f4)) ∧ w'.cell? ⟨(ad178.add ((x10_3).toNat * 7)).block, (ad178.add ((x10_3).toNat * 7)).off + 5, none⟩ = some (.string ((rd_T41 l0 x10_3).f5)) ∧ w'.cell? ⟨(ad178.add ((x10_3).toNat * 7)).block, (ad178.add ((x10_3).toNat * 7)).off + 6, none⟩ = some (.int .i64 ((rd_T41 l0 x10_3).f6)) ∧ w'.cell? (ad178.add ((x8_2).toNat * 7)) = some (.string ((rd_T41 l0 x8_2).f0)) ∧ w'.cell? ⟨(ad178.add ((x8_2).toNat * 7)).block, (ad178.add ((x8_2).toNat * 7)).off + 1, none⟩ = some (.int .i64 ((rd_T41 l0 x8_2).f1)) ∧ w'.cell? ⟨(ad178.add ((x8_2).toNat * 7)).block, (ad178.add ((x8_2).toNat * 7)).off + 2, none⟩ = some (.int .i64 ((rd_T41 l0 x8_2).f2)) ∧ w'.cell? ⟨(ad178.add ((x8_2).toNat * 7)).block, (ad178.add ((x8_2).toNat * 7)).off + 3, none⟩ = some (.int .i64 ((rd_T41 l0 x8_2).f3)) ∧ w'.cell? ⟨(ad178.add ((x8_2).toNat * 7)).block, (ad178.add ((x8_2).toNat * 7)).off + 4, none⟩ = some (.string ((rd_T41 l0 x8_2).f4)) ∧ w'.cell? ⟨(ad178.add ((x8_2).toNat * 7)).block, (ad178.add ((x8_2).toNat * 7)).off + 5, none⟩ = some (.string ((rd_T41 l0 x8_2).f5)) ∧ w'.cell? ⟨(ad178.add ((x8_2).toNat * 7)).block, (ad178.add ((x8_2).toNat * 7)).off + 6, none⟩ = some (.int .i64 ((rd_T41 l0 x8_2).f6)) ∧ w'.cell? (ad178.add ((x10_3).toNat * 7)) = some (.string ((rd_T41 l0 x10_3).f0)) ∧ w'.cell? ⟨(ad178.add ((x10_3).toNat * 7)).block, (ad178.add ((x10_3).toNat * 7)).off + 1, none⟩ = some (.int .i64 ((rd_T41 l0 x10_3).f1)) ∧ w'.cell? ⟨(ad178.add ((x10_3).toNat * 7)).block, (ad178.add ((x10_3).toNat * 7)).off + 2, none⟩ = some (.int .i64 ((rd_T41 l0 x10_3).f2)) ∧ w'.cell? ⟨(ad178.add ((x10_3).toNat * 7)).block, (ad178.add ((x10_3).toNat * 7)).off + 3, none⟩ = some (.int .i64 ((rd_T41 l0 x10_3).f3)) ∧ w'.cell? ⟨(ad178.add ((x10_3).toNat * 7)).block, (ad178.add ((x10_3).toNat * 7)).off + 4, none⟩ = some (.string ((rd_T41 l0 x10_3).f4)) ∧ w'.cell? ⟨(ad178.add ((x10_3).toNat * 7)).block, (ad178.add ((x10_3).toNat * 7)).off + 5, none⟩ = some (.string ((rd_T41 l0 x10_3).f5)) ∧ w'.cell? ⟨(ad178.add ((x10_3).toNat * 7)).block, (ad178.add ((x10_3).toNat * 7)).off + 6, none⟩ = some (.int .i64 ((rd_T41 l0 x10_3).f6)) ∧ w'.cell? (ad178.add ((x8_2).toNat * 7)) = some (.string ((rd_T41 l0 x8_2).f0)) ∧ w'.cell? ⟨(ad178.add ((x8_2).toNat * 7)).block, (ad178.add ((x8_2).toNat * 7)).off + 1, none⟩ = some (.int .i64 ((rd_T41 l0 x8_2).f1)) ∧ w'.cell? ⟨(ad178.add ((x8_2).toNat * 7)).block, (ad178.add ((x8_2).toNat * 7)).off + 2, none⟩ = some (.int .i64 ((rd_T41 l0 x8_2).f2)) ∧ w'.cell? ⟨(ad178.add ((x8_2).toNat * 7)).block, (ad178.add ((x8_2).toNat * 7)).off + 3, none⟩ = some (.int .i64 ((rd_T41 l0 x8_2).f3)) ∧ w'.cell? ⟨(ad178.add ((x8_2).toNat * 7)).block, (ad178.add ((x8_2).toNat * 7)).off + 4, none⟩ = some (.string ((rd_T41 l0 x8_2).f4)) ∧ w'.cell? ⟨(ad178.add ((x8_2).toNat * 7)).block, (ad178.add ((x8_2).toNat * 7)).off + 5, none⟩ = some (.string ((rd_T41 l0 x8_2).f5)) ∧ w'.cell? ⟨(ad178.add ((x8_2).toNat * 7)).block, (ad178.add ((x8_2).toNat * 7)).off + 6, none⟩ = some (.int .i64 ((rd_T41 l0 x8_2).f6)) ∧ w'.cell? (ad178.add ((x10_3).toNat * 7)) = some (.string ((rd_T41 l0 x10_3).f0)) ∧ w'.cell? ⟨(ad178.add ((x10_3).toNat * 7)).block, (ad178.add ((x10_3).toNat * 7)).off + 1, none⟩ = some (.int .i64 ((rd_T41 l0 x10_3).f1)) ∧ w'.cell? ⟨(ad178.add ((x10_3).toNat * 7)).block, (ad178.add ((x10_3).toNat * 7)).off + 2, none⟩ = some (.int .i64 ((rd_T41 l0 x10_3).f2)) ∧ w'.cell? ⟨(ad178.add ((x10_3).toNat * 7)).block, (ad178.add ((x10_3).toNat * 7)).off + 3, none⟩ = some (.int .i64 ((rd_T41 l0 x10_3).f3)) ∧ w'.cell? ⟨(ad178.add ((x10_3).toNat * 7)).block, (ad178.add ((x10_3).toNat * 7)).off + 4, none⟩ = some (.string ((rd_T41 l0 x10_3).f4)) ∧ w'.cell? ⟨(ad178.add ((x10_3).toNat * 7)).block, (ad178.add ((x10_3).toNat * 7)).off + 5, none⟩ = some (.string ((rd_T41 l0 x10_3).f5)) ∧ w'.cell? ⟨(ad178.add ((x10_3).toNat * 7)).block, (ad178.add ((x10_3).toNat * 7)).off + 6, none⟩ = some (.int .i64 ((rd_T41 l0 x10_3).f6)) ∧ w'.cell? (ad178.add ((x8_2).toNat * 7)) = some (.string ((rd_T41 l0 x8_2).f0)) ∧ w'.cell? ⟨(ad178.add ((x8_2).toNat * 7)).block, (ad178.add ((x8_2).toNat * 7)).off + 1, none⟩ = some (.int .i64 ((rd_T41 l0 x8_2).f1)) ∧ w'.cell? ⟨(ad178.add ((x8_2).toNat * 7)).block, (ad178.add ((x8_2).toNat * 7)).off + 2, none⟩ = some (.int .i64 ((rd_T41 l0 x8_2).f2)) ∧ w'.cell? ⟨(ad178.add ((x8_2).toNat * 7)).block, (ad178.add ((x8_2).toNat * 7)).off + 3, none⟩ = some (.int .i64 ((rd_T41 l0 x8_2).f3)) ∧ w'.cell? ⟨(ad178.add ((x8_2).toNat * 7)).block, (ad178.add ((x8_2).toNat * 7)).off + 4, none⟩ = some (.string ((rd_T41 l0 x8_2).f4)) ∧ w'.cell? ⟨(ad178.add ((x8_2).toNat * 7)).block, (ad178.add ((x8_2).toNat * 7)).off + 5, none⟩ = some (.string ((rd_T41 l0 x8_2).f5)) ∧ w'.cell? ⟨(ad178.add ((x8_2).toNat * 7)).block, (ad178.add ((x8_2).toNat * 7)).off + 6, none⟩ = some (.int .i64 ((rd_T41 l0 x8_2).f6))) (ds := []) (bm 37 0) (by kernel_rfl) rfl rfl ⟨(cb HB.out hw181_0), (cb HB.out hw181_1), (cb HB.out hw181_2), (cb HB.out hw181_3), (cb HB.out hw181_4), (cb HB.out hw181_5), (cb HB.out hw181_6), (cb HB.out hw182_0), (cb HB.out hw182_1), (cb HB.out hw182_2), (cb HB.out hw182_3), (cb HB.out hw182_4), (cb HB.out hw182_5), (cb HB.out hw182_6), (cb HB.out hw183_0), (cb HB.out hw183_1), (cb HB.out hw183_2), (cb HB.out hw183_3), (cb HB.out hw183_4), (cb HB.out hw183_5), (cb HB.out hw183_6), (cb HB.out hw184_0), (cb HB.out hw184_1), (cb HB.out hw184_2), (cb HB.out hw184_3), (cb HB.out hw184_4), (cb HB.out hw184_5), (cb HB.out hw184_6), (cb HB.out hw185_0), (cb HB.out hw185_1), (cb HB.out hw185_2), (cb HB.out hw185_3), (cb HB.out hw185_4), (cb HB.out hw185_5), (cb HB.out hw185_6), (cb HB.out hw186_0), (cb HB.out hw186_1), (cb HB.out hw186_2), (cb HB.out hw186_3), (cb HB.out hw186_4), (cb HB.out hw186_5), (cb HB.out hw186_6)⟩ (fun hHeld => ?_); refine with_tabW spec_TreeOk.tab25 spec_TreeOk.bits25 (fun HT_ HW_ => ?_)
                    generalize w52.drew = w53 at HB hx181_0 hx181_1 hx181_2 hx181_3 hx181_4 hx181_5 hx181_6 hx182_0 hx182_1 hx182_2 hx182_3 hx182_4 hx182_5 hx182_6 hx183_0 hx183_1 hx183_2 hx183_3 hx183_4 hx183_5 hx183_6 hx184_0 hx184_1 hx184_2 hx184_3 hx184_4 hx184_5 hx184_6 hx185_0 hx185_1 hx185_2 hx185_3 hx185_4 hx185_5 hx185_6 hx186_0 hx186_1 hx186_2 hx186_3 hx186_4 hx186_5 hx186_6 hHeld ⊢
                    refine pure_ (i := 0) (N := some 98) (v := ?_) (a' := ?_) (bm 37 1) rfl rfl (any_of HT_.out (by kernel_rfl)) (fun _ _ _ h => h) (Or.inl ⟨by rfl, ?_⟩) ?_ ?_; rotate_left; · (intro w'; go_simp; with_reducible rfl)
                    rotate_left; · (simp only [Act.put, q1, q2, q3, q4, q5, q6, q7]; rfl)
                    refine pure_ (i := 1) (N := some 99) (v := ?_) (a' := ?_) (bm 37 3) rfl rfl (any_of HT_.out (by kernel_rfl)) (fun _ _ _ h => h) (Or.inl ⟨by rfl, ?_⟩) ?_ ?_; rotate_left; · (intro w'; go_simp; with_reducible rfl)
                    rotate_left; · (simp only [Act.put, q1, q2, q3, q4, q5, q6, q7]; rfl)
                    refine pure_ (i := 2) (N := some 100) (v := ?_) (a' := ?_) (bm 37 7) rfl rfl (any_of HT_.out (by kernel_rfl)) (fun _ _ _ h => h) (Or.inl ⟨by rfl, ?_⟩) ?_ ?_; rotate_left; · (intro w'; go_simp; with_reducible rfl)
                    rotate_left; · (simp only [Act.put, q1, q2, q3, q4, q5, q6, q7]; rfl)
                    refine pure_ (i := 3) (N := some 101) (v := ?_) (a' := ?_) (bm 37 15) rfl rfl (any_of HT_.out (by kernel_rfl)) (fun _ _ _ h => h) (Or.inl ⟨by rfl, ?_⟩) ?_ ?_; rotate_left; · (intro w'; go_simp; with_reducible rfl)
                    rotate_left; · (simp only [Act.put, q1, q2, q3, q4, q5, q6, q7]; rfl)
                    refine pure_ (i := 5) (N := some 103) (v := ?_) (a' := ?_) (bm 37 47) rfl rfl (any_of HT_.out (by kernel_rfl)) (fun _ _ _ h => h) (Or.inl ⟨by rfl, ?_⟩) ?_ ?_; rotate_left; · (intro w'; go_simp; with_reducible rfl)
                    rotate_left; · (simp only [Act.put, q1, q2, q3, q4, q5, q6, q7]; rfl)
                    refine pure_ (i := 6) (N := some 104) (v := ?_) (a' := ?_) (bm 37 111) rfl rfl (any_of HT_.out (by kernel_rfl)) (fun _ _ _ h => h) (Or.inl ⟨by rfl, ?_⟩) ?_ ?_; rotate_left; · (intro w'; go_simp; with_reducible rfl)
                    rotate_left; · (simp only [Act.put, q1, q2, q3, q4, q5, q6, q7]; rfl)
                    refine pure_ (i := 7) (N := some 105) (v := ?_) (a' := ?_) (bm 37 239) rfl rfl (any_of HT_.out (by kernel_rfl)) (fun _ _ _ h => h) (Or.inl ⟨by rfl, ?_⟩) ?_ ?_; rotate_left; · (intro w'; go_simp; with_reducible rfl)
                    rotate_left; · (simp only [Act.put, q1, q2, q3, q4, q5, q6, q7]; rfl)
                    refine pure_ (i := 8) (N := some 106) (v := ?_) (a' := ?_) (bm 37 495) rfl rfl (any_of HT_.out (by kernel_rfl)) (fun _ _ _ h => h) (Or.inl ⟨by rfl, ?_⟩) ?_ ?_; rotate_left; · (intro w'; go_simp; with_reducible rfl)
                    rotate_left; · (simp only [Act.put, q1, q2, q3, q4, q5, q6, q7]; rfl)
                    refine take_ (i := 4) (N := some 102) (v := ?_) (a' := ?_) (bm 37 511) rfl rfl (take_ofW HT_.out HW_.out (by kernel_rfl)) (fun _ _ _ h => h) (Or.inl ⟨by rfl, ?_⟩) hHeld ?_ ?_; rotate_left; · (rintro w' ⟨s0, s1, s2, s3, s4, s5, s6, s7, s8, s9, s10, s11, s12, s13, s14, s15, s16, s17, s18, s19, s20, s21, s22, s23, s24, s25, s26, s27, s28, s29, s30, s31, s32, s33, s34, s35, s36, s37, s38, s39, s40, s41⟩; go_simp; with_reducible rfl)
                    rotate_left; · (simp only [Act.put, q1, q2, q3, q4, q5, q6, q7]; rfl)
                    refine take_ (i := 9) (N := some 107) (v := ?_) (a' := ?_) (bm 37 1023) rfl rfl (take_ofW HT_.out HW_.out (by kernel_rfl)) (fun _ _ _ h => h) (Or.inl ⟨by rfl, ?_⟩) hHeld ?_ ?_; rotate_left; · (rintro w' ⟨s0, s1, s2, s3, s4, s5, s6, s7, s8, s9, s10, s11, s12, s13, s14, s15, s16, s17, s18, s19, s20, s21, s22, s23, s24, s25, s26, s27, s28, s29, s30, s31, s32, s33, s34, s35, s36, s37, s38, s39, s40, s41⟩; go_simp; with_reducible rfl)
                    rotate_left; · (simp only [Act.put, q1, q2, q3, q4, q5, q6, q7]; rfl)
                    refine pure_ (i := 10) (N := some 108) (v := ?_) (a' := ?_) (bm 37 2047) rfl rfl (any_of HT_.out (by kernel_rfl)) (fun _ _ _ h => h) (Or.inl ⟨by rfl, ?_⟩) ?_ ?_; rotate_left; · (intro w'; go_simp; with_reducible rfl)
                    rotate_left; · (simp only [Act.put, q1, q2, q3, q4, q5, q6, q7]; rfl)
                    refine pure_ (i := 11) (N := some 109) (v := ?_) (a' := ?_) (bm 37 4095) rfl rfl (any_of HT_.out (by kernel_rfl)) (fun _ _ _ h => h) (Or.inl ⟨by rfl, ?_⟩) ?_ ?_; rotate_left; · (intro w'; go_simp; with_reducible rfl)
                    rotate_left; · (simp only [Act.put, q1, q2, q3, q4, q5, q6, q7]; rfl)
                    refine pure_ (i := 12) (N := some 110) (v := ?_) (a' := ?_) (bm 37 8191) rfl rfl (any_of HT_.out (by kernel_rfl)) (fun _ _ _ h => h) (Or.inl ⟨by rfl, ?_⟩) ?_ ?_; rotate_left; · (intro w'; go_simp; with_reducible rfl)
                    rotate_left; · (simp only [Act.put, q1, q2, q3, q4, q5, q6, q7]; rfl)
                    refine pure_ (i := 13) (N := some 111) (v := ?_) (a' := ?_) (bm 37 16383) rfl rfl (any_of HT_.out (by kernel_rfl)) (fun _ _ _ h => h) (Or.inl ⟨by rfl, ?_⟩) ?_ ?_; rotate_left; · (intro w'; go_simp; with_reducible rfl)
                    rotate_left; · (simp only [Act.put, q1, q2, q3, q4, q5, q6, q7]; rfl)
                    refine pure_ (i := 14) (N := some 112) (v := ?_) (a' := ?_) (bm 37 32767) rfl rfl (any_of HT_.out (by kernel_rfl)) (fun _ _ _ h => h) (Or.inl ⟨by rfl, ?_⟩) ?_ ?_; rotate_left; · (intro w'; go_simp; with_reducible rfl)
                    rotate_left; · (simp only [Act.put, q1, q2, q3, q4, q5, q6, q7]; rfl)
                    refine pure_ (i := 15) (N := some 113) (v := ?_) (a' := ?_) (bm 37 65535) rfl rfl (any_of HT_.out (by kernel_rfl)) (fun _ _ _ h => h) (Or.inl ⟨by rfl, ?_⟩) ?_ ?_; rotate_left; · (intro w'; go_simp; with_reducible rfl)
                    rotate_left; · (simp only [Act.put, q1, q2, q3, q4, q5, q6, q7]; rfl)
                    refine pure_ (i := 17) (N := some 115) (v := ?_) (a' := ?_) (bm 37 196607) rfl rfl (any_of HT_.out (by kernel_rfl)) (fun _ _ _ h => h) (Or.inl ⟨by rfl, ?_⟩) ?_ ?_; rotate_left; · (intro w'; go_simp; with_reducible rfl)
                    rotate_left; · (simp only [Act.put, q1, q2, q3, q4, q5, q6, q7]; rfl)
                    refine pure_ (i := 18) (N := some 116) (v := ?_) (a' := ?_) (bm 37 458751) rfl rfl (any_of HT_.out (by kernel_rfl)) (fun _ _ _ h => h) (Or.inl ⟨by rfl, ?_⟩) ?_ ?_; rotate_left; · (intro w'; go_simp; with_reducible rfl)
                    rotate_left; · (simp only [Act.put, q1, q2, q3, q4, q5, q6, q7]; rfl)
                    refine pure_ (i := 19) (N := some 117) (v := ?_) (a' := ?_) (bm 37 983039) rfl rfl (any_of HT_.out (by kernel_rfl)) (fun _ _ _ h => h) (Or.inl ⟨by rfl, ?_⟩) ?_ ?_; rotate_left; · (intro w'; go_simp; with_reducible rfl)
                    rotate_left; · (simp only [Act.put, q1, q2, q3, q4, q5, q6, q7]; rfl)
                    refine pure_ (i := 20) (N := some 118) (v := ?_) (a' := ?_) (bm 37 2031615) rfl rfl (any_of HT_.out (by kernel_rfl)) (fun _ _ _ h => h) (Or.inl ⟨by rfl, ?_⟩) ?_ ?_; rotate_left; · (intro w'; go_simp; with_reducible rfl)
                    rotate_left; · (simp only [Act.put, q1, q2, q3, q4, q5, q6, q7]; rfl)
                    refine take_ (i := 16) (N := some 114) (v := ?_) (a' := ?_) (bm 37 2097151) rfl rfl (take_ofW HT_.out HW_.out (by kernel_rfl)) (fun _ _ _ h => h) (Or.inl ⟨by rfl, ?_⟩) hHeld ?_ ?_; rotate_left; · (rintro w' ⟨s0, s1, s2, s3, s4, s5, s6, s7, s8, s9, s10, s11, s12, s13, s14, s15, s16, s17, s18, s19, s20, s21, s22, s23, s24, s25, s26, s27, s28, s29, s30, s31, s32, s33, s34, s35, s36, s37, s38, s39, s40, s41⟩; go_simp; with_reducible rfl)
                    rotate_left; · (simp only [Act.put, q1, q2, q3, q4, q5, q6, q7]; rfl)
                    refine take_ (i := 21) (N := some 119) (v := ?_) (a' := ?_) (bm 37 4194303) rfl rfl (take_ofW HT_.out HW_.out (by kernel_rfl)) (fun _ _ _ h => h) (Or.inl ⟨by rfl, ?_⟩) hHeld ?_ ?_; rotate_left; · (rintro w' ⟨s0, s1, s2, s3, s4, s5, s6, s7, s8, s9, s10, s11, s12, s13, s14, s15, s16, s17, s18, s19, s20, s21, s22, s23, s24, s25, s26, s27, s28, s29, s30, s31, s32, s33, s34, s35, s36, s37, s38, s39, s40, s41⟩; go_simp; with_reducible rfl)
                    rotate_left; · (simp only [Act.put, q1, q2, q3, q4, q5, q6, q7]; rfl)
                    refine pure_ (i := 22) (N := some 120) (v := ?_) (a' := ?_) (bm 37 8388607) rfl rfl (any_of HT_.out (by kernel_rfl)) (fun _ _ _ h => h) (Or.inl ⟨by rfl, ?_⟩) ?_ ?_; rotate_left; · (intro w'; go_simp; with_reducible rfl)
                    rotate_left; · (simp only [Act.put, q1, q2, q3, q4, q5, q6, q7]; rfl)
                    refine pure_ (i := 23) (N := some 121) (v := ?_) (a' := ?_) (bm 37 16777215) rfl rfl (any_of HT_.out (by kernel_rfl)) (fun _ _ _ h => h) (Or.inl ⟨by rfl, ?_⟩) ?_ ?_; rotate_left; · (intro w'; go_simp; with_reducible rfl)
                    rotate_left; · (simp only [Act.put, q1, q2, q3, q4, q5, q6, q7]; rfl)
                    refine pure_ (i := 24) (N := some 122) (v := ?_) (a' := ?_) (bm 37 33554431) rfl rfl (any_of HT_.out (by kernel_rfl)) (fun _ _ _ h => h) (Or.inl ⟨by rfl, ?_⟩) ?_ ?_; rotate_left; · (intro w'; go_simp; with_reducible rfl)
                    rotate_left; · (simp only [Act.put, q1, q2, q3, q4, q5, q6, q7]; rfl)
                    refine pure_ (i := 25) (N := some 123) (v := ?_) (a' := ?_) (bm 37 67108863) rfl rfl (any_of HT_.out (by kernel_rfl)) (fun _ _ _ h => h) (Or.inl ⟨by rfl, ?_⟩) ?_ ?_; rotate_left; · (intro w'; go_simp; with_reducible rfl)
                    rotate_left; · (simp only [Act.put, q1, q2, q3, q4, q5, q6, q7]; rfl)
                    refine pure_ (i := 26) (N := some 124) (v := ?_) (a' := ?_) (bm 37 134217727) rfl rfl (any_of HT_.out (by kernel_rfl)) (fun _ _ _ h => h) (Or.inl ⟨by rfl, ?_⟩) ?_ ?_; rotate_left; · (intro w'; go_simp; with_reducible rfl)
                    rotate_left; · (simp only [Act.put, q1, q2, q3, q4, q5, q6, q7]; rfl)
                    refine pure_ (i := 27) (N := some 125) (v := ?_) (a' := ?_) (bm 37 268435455) rfl rfl (any_of HT_.out (by kernel_rfl)) (fun _ _ _ h => h) (Or.inl ⟨by rfl, ?_⟩) ?_ ?_; rotate_left; · (intro w'; go_simp; with_reducible rfl)
                    rotate_left; · (simp only [Act.put, q1, q2, q3, q4, q5, q6, q7]; rfl)
                    refine pure_ (i := 28) (N := some 126) (v := ?_) (a' := ?_) (bm 37 536870911) rfl rfl (any_of HT_.out (by kernel_rfl)) (fun _ _ _ h => h) (Or.inl ⟨by rfl, ?_⟩) ?_ ?_; rotate_left; · (intro w'; go_simp; with_reducible rfl)
                    rotate_left; · (simp only [Act.put, q1, q2, q3, q4, q5, q6, q7]; rfl)
                    refine pure_ (i := 30) (N := some 128) (v := ?_) (a' := ?_) (bm 37 1610612735) rfl rfl (any_of HT_.out (by kernel_rfl)) (fun _ _ _ h => h) (Or.inl ⟨by rfl, ?_⟩) ?_ ?_; rotate_left; · (intro w'; go_simp; with_reducible rfl)
                    rotate_left; · (simp only [Act.put, q1, q2, q3, q4, q5, q6, q7]; rfl)
                    refine pure_ (i := 31) (N := some 129) (v := ?_) (a' := ?_) (bm 37 3758096383) rfl rfl (any_of HT_.out (by kernel_rfl)) (fun _ _ _ h => h) (Or.inl ⟨by rfl, ?_⟩) ?_ ?_; rotate_left; · (intro w'; go_simp; with_reducible rfl)
                    rotate_left; · (simp only [Act.put, q1, q2, q3, q4, q5, q6, q7]; rfl)
                    refine pure_ (i := 32) (N := some 130) (v := ?_) (a' := ?_) (bm 37 8053063679) rfl rfl (any_of HT_.out (by kernel_rfl)) (fun _ _ _ h => h) (Or.inl ⟨by rfl, ?_⟩) ?_ ?_; rotate_left; · (intro w'; go_simp; with_reducible rfl)
                    rotate_left; · (simp only [Act.put, q1, q2, q3, q4, q5, q6, q7]; rfl)
                    refine pure_ (i := 33) (N := some 131) (v := ?_) (a' := ?_) (bm 37 16642998271) rfl rfl (any_of HT_.out (by kernel_rfl)) (fun _ _ _ h => h) (Or.inl ⟨by rfl, ?_⟩) ?_ ?_; rotate_left; · (intro w'; go_simp; with_reducible rfl)
                    rotate_left; · (simp only [Act.put, q1, q2, q3, q4, q5, q6, q7]; rfl)
                    refine take_ (i := 29) (N := some 127) (v := ?_) (a' := ?_) (bm 37 17179869183) rfl rfl (take_ofW HT_.out HW_.out (by kernel_rfl)) (fun _ _ _ h => h) (Or.inl ⟨by rfl, ?_⟩) hHeld ?_ ?_; rotate_left; · (rintro w' ⟨s0, s1, s2, s3, s4, s5, s6, s7, s8, s9, s10, s11, s12, s13, s14, s15, s16, s17, s18, s19, s20, s21, s22, s23, s24, s25, s26, s27, s28, s29, s30, s31, s32, s33, s34, s35, s36, s37, s38, s39, s40, s41⟩; go_simp; with_reducible rfl)
                    rotate_left; · (simp only [Act.put, q1, q2, q3, q4, q5, q6, q7]; rfl)
                    refine take_ (i := 34) (N := some 132) (v := ?_) (a' := ?_) (bm 37 34359738367) rfl rfl (take_ofW HT_.out HW_.out (by kernel_rfl)) (fun _ _ _ h => h) (Or.inl ⟨by rfl, ?_⟩) hHeld ?_ ?_; rotate_left; · (rintro w' ⟨s0, s1, s2, s3, s4, s5, s6, s7, s8, s9, s10, s11, s12, s13, s14, s15, s16, s17, s18, s19, s20, s21, s22, s23, s24, s25, s26, s27, s28, s29, s30, s31, s32, s33, s34, s35, s36, s37, s38, s39, s40, s41⟩; go_simp; with_reducible rfl)
                    rotate_left; · (simp only [Act.put, q1, q2, q3, q4, q5, q6, q7]; rfl)
                    refine pure_ (i := 35) (N := some 133) (v := ?_) (a' := ?_) (bm 37 68719476735) rfl rfl (any_of HT_.out (by kernel_rfl)) (fun _ _ _ h => h) (Or.inl ⟨by rfl, ?_⟩) ?_ ?_; rotate_left; · (intro w'; go_simp; with_reducible rfl)
                    rotate_left; · (simp only [Act.put, q1, q2, q3, q4, q5, q6, q7]; rfl)
                    refine pure_ (i := 36) (N := some 134) (v := ?_) (a' := ?_) (bm 37 137438953471) rfl rfl (any_of HT_.out (by kernel_rfl)) (fun _ _ _ h => h) (Or.inl ⟨by rfl, ?_⟩) ?_ ?_; rotate_left; · (intro w'; go_simp; with_reducible rfl)
                    rotate_left; · (simp only [Act.put, q1, q2, q3, q4, q5, q6, q7]; rfl)
                    refine done_ (done_of HT_.out (by kernel_rfl)) ?_
                    try go_wp2
                    go_ret
                    exact ⟨by first | rfl | (simp [errW_none, errW_some] <;> rfl) | (simp [*, errW_none, errW_some] <;> rfl), by repeat (first | exact HB.out | apply below_alloc | apply pw_below_drewN | apply below_drew1)⟩
                  ·
                   rw [if_neg c48] at H
                   have c48b0 : (((rd_T41 l0 x10_3).f3) == ((rd_T41 l0 x8_2).f3)) = false := beq_eq_false_iff_ne.mpr c48
                   have c48b1 : (((rd_T41 l0 x10_3).f3) != ((rd_T41 l0 x8_2).f3)) = true := bne_iff_ne.mpr c48
                   obtain rfl := Option.some.inj H
                   try go_wp2
                   have n0_ := Aside0.mk (below_drew1 HB.out)
                   clear HB
                   have HB := n0_
                   clear n0_
                   have p179 : 0 ≤ (x10_3 : Int) := of_decide_eq_true (by assumption)
                   have q179 : x10_3 < (l0.length : Int) := of_decide_eq_true (by assumption)
                   obtain ⟨ad179, e179, hx179_0, hx179_1, hx179_2, hx179_3, hx179_4, hx179_5, hx179_6⟩ := at_T41 HR0.out x10_3 p179 q179
                   have hw179_6 := hx179_6
                   have hw179_5 := hx179_5
                   have hw179_4 := hx179_4
                   have hw179_3 := hx179_3
                   have hw179_2 := hx179_2
                   have hw179_1 := hx179_1
                   have hw179_0 := hx179_0
                   obtain rfl : ad178 = ad179 := (by injection e179)
                   replace hx179_0 := cb HB.out hx179_0
                   replace hx179_1 := cb HB.out hx179_1
                   replace hx179_2 := cb HB.out hx179_2
                   replace hx179_3 := cb HB.out hx179_3
                   replace hx179_4 := cb HB.out hx179_4
                   replace hx179_5 := cb HB.out hx179_5
                   replace hx179_6 := cb HB.out hx179_6
                   replace p179 := eq_true p179
                   replace q179 := eq_true q179
                   have p180 : 0 ≤ (x8_2 : Int) := of_decide_eq_true (by assumption)
                   have q180 : x8_2 < (l0.length : Int) := of_decide_eq_true (by assumption)
                   obtain ⟨ad180, e180, hx180_0, hx180_1, hx180_2, hx180_3, hx180_4, hx180_5, hx180_6⟩ := at_T41 HR0.out x8_2 p180 q180
                   have hw180_6 := hx180_6
                   have hw180_5 := hx180_5
                   have hw180_4 := hx180_4
                   have hw180_3 := hx180_3
                   have hw180_2 := hx180_2
                   have hw180_1 := hx180_1
                   have hw180_0 := hx180_0
                   obtain rfl : ad178 = ad180 := (by injection e180)
                   replace hx180_0 := cb HB.out hx180_0
                   replace hx180_1 := cb HB.out hx180_1
                   replace hx180_2 := cb HB.out hx180_2
                   replace hx180_3 := cb HB.out hx180_3
                   replace hx180_4 := cb HB.out hx180_4
                   replace hx180_5 := cb HB.out hx180_5
                   replace hx180_6 := cb HB.out hx180_6
                   replace p180 := eq_true p180
                   replace q180 := eq_true q180
                   refine start_ (n := 11) (S := fun w' => w'.cell? (ad178.add ((x10_3).toNat * 7)) = some (.string ((rd_T41 l0 x10_3).f0)) ∧ w'.cell? ⟨(ad178.add ((x10_3).toNat * 7)).block, (ad178.add ((x10_3).toNat * 7)).off + 1, none⟩ = some (.int .i64 ((rd_T41 l0 x10_3).f1)) ∧ w'.cell? ⟨(ad178.add ((x10_3).toNat * 7)).block, (ad178.add ((x10_3).toNat * 7)).off + 2, none⟩ = some (.int .i64 ((rd_T41 l0 x10_3).f2)) ∧ w'.cell? ⟨(ad178.add ((x10_3).toNat * 7)).block, (ad178.add ((x10_3).toNat * 7)).off + 3, none⟩ = some (.int .i64 ((rd_T41 l0 x10_3).f3)) ∧ w'.cell? ⟨(ad178.add ((x10_3).toNat * 7)).block, (ad178.add ((x10_3).toNat * 7)).off + 4, none⟩ = some (.string ((rd_T41 l0 x10_3).f4)) ∧ w'.cell? ⟨(ad178.add ((x10_3).toNat * 7)).block, (ad178.add ((x10_3).toNat * 7)).off + 5, none⟩ = some (.string ((rd_T41 l0 x10_3).f5)) ∧ w'.cell? ⟨(ad178.add ((x10_3).toNat * 7)).block, (ad178.add ((x10_3).toNat * 7)).off + 6, none⟩ = some (.int .i64 ((rd_T41 l0 x10_3).f6)) ∧ w'.cell? (ad178.add ((x8_2).toNat * 7)) = some (.string ((rd_T41 l0 x8_2).f0)) ∧ w'.cell? ⟨(ad178.add ((x8_2).toNat * 7)).block, (ad178.add ((x8_2).toNat * 7)).off + 1, none⟩ = some (.int .i64 ((rd_T41 l0 x8_2).f1)) ∧ w'.cell? ⟨(ad178.add ((x8_2).toNat * 7)).block, (ad178.add ((x8_2).toNat * 7)).off + 2, none⟩ = some (.int .i64 ((rd_T41 l0 x8_2).f2)) ∧ w'.cell? ⟨(ad178.add ((x8_2).toNat * 7)).block, (ad178.add ((x8_2).toNat * 7)).off + 3, none⟩ = some (.int .i64 ((rd_T41 l0 x8_2).f3)) ∧ w'.cell? ⟨(ad178.add ((x8_2).toNat * 7)).block, (ad178.add ((x8_2).toNat * 7)).off + 4, none⟩ = some (.string ((rd_T41 l0 x8_2).f4)) ∧ w'.cell? ⟨(ad178.add ((x8_2).toNat * 7)).block, (ad178.add ((x8_2).toNat * 7)).off + 5, none⟩ = some (.string ((rd_T41 l0 x8_2).f5)) ∧ w'.cell? ⟨(ad178.add ((x8_2).toNat * 7)).block, (ad178.add ((x8_2).toNat * 7)).off + 6, none⟩ = some (.int .i64 ((rd_T41 l0 x8_2).f6))) (ds := []) (bm 11 0) (by kernel_rfl) rfl rfl ⟨(cb HB.out hw179_0), (cb HB.out hw179_1), (cb HB.out hw179_2), (cb HB.out hw179_3), (cb HB.out hw179_4), (cb HB.out hw179_5), (cb HB.out hw179_6), (cb HB.out hw180_0), (cb HB.out hw180_1), (cb HB.out hw180_2), (cb HB.out hw180_3), (cb HB.out hw180_4), (cb HB.out hw180_5), (cb HB.out hw180_6)⟩ (fun hHeld => ?_); refine with_tabW spec_TreeOk.tab23 spec_TreeOk.bits23 (fun HT_ HW_ => ?_)
                   generalize wr.drew = w54 at HB hx179_0 hx179_1 hx179_2 hx179_3 hx179_4 hx179_5 hx179_6 hx180_0 hx180_1 hx180_2 hx180_3 hx180_4 hx180_5 hx180_6 hHeld ⊢
                   refine pure_ (i := 0) (N := some 85) (v := ?_) (a' := ?_) (bm 11 1) rfl rfl (any_of HT_.out (by kernel_rfl)) (fun _ _ _ h => h) (Or.inl ⟨by rfl, ?_⟩) ?_ ?_; rotate_left; · (intro w'; go_simp; with_reducible rfl)
                   rotate_left; · (simp only [Act.put, q1, q2, q3, q4, q5, q6, q7]; rfl)
                   refine pure_ (i := 1) (N := some 86) (v := ?_) (a' := ?_) (bm 11 3) rfl rfl (any_of HT_.out (by kernel_rfl)) (fun _ _ _ h => h) (Or.inl ⟨by rfl, ?_⟩) ?_ ?_; rotate_left; · (intro w'; go_simp; with_reducible rfl)
                   rotate_left; · (simp only [Act.put, q1, q2, q3, q4, q5, q6, q7]; rfl)
                   refine pure_ (i := 2) (N := some 87) (v := ?_) (a' := ?_) (bm 11 7) rfl rfl (any_of HT_.out (by kernel_rfl)) (fun _ _ _ h => h) (Or.inl ⟨by rfl, ?_⟩) ?_ ?_; rotate_left; · (intro w'; go_simp; with_reducible rfl)
                   rotate_left; · (simp only [Act.put, q1, q2, q3, q4, q5, q6, q7]; rfl)
                   refine pure_ (i := 3) (N := some 88) (v := ?_) (a' := ?_) (bm 11 15) rfl rfl (any_of HT_.out (by kernel_rfl)) (fun _ _ _ h => h) (Or.inl ⟨by rfl, ?_⟩) ?_ ?_; rotate_left; · (intro w'; go_simp; with_reducible rfl)
                   rotate_left; · (simp only [Act.put, q1, q2, q3, q4, q5, q6, q7]; rfl)
                   refine pure_ (i := 5) (N := some 90) (v := ?_) (a' := ?_) (bm 11 47) rfl rfl (any_of HT_.out (by kernel_rfl)) (fun _ _ _ h => h) (Or.inl ⟨by rfl, ?_⟩) ?_ ?_; rotate_left; · (intro w'; go_simp; with_reducible rfl)
                   rotate_left; · (simp only [Act.put, q1, q2, q3, q4, q5, q6, q7]; rfl)
                   refine pure_ (i := 6) (N := some 91) (v := ?_) (a' := ?_) (bm 11 111) rfl rfl (any_of HT_.out (by kernel_rfl)) (fun _ _ _ h => h) (Or.inl ⟨by rfl, ?_⟩) ?_ ?_; rotate_left; · (intro w'; go_simp; with_reducible rfl)
                   rotate_left; · (simp only [Act.put, q1, q2, q3, q4, q5, q6, q7]; rfl)
                   refine pure_ (i := 7) (N := some 92) (v := ?_) (a' := ?_) (bm 11 239) rfl rfl (any_of HT_.out (by kernel_rfl)) (fun _ _ _ h => h) (Or.inl ⟨by rfl, ?_⟩) ?_ ?_; rotate_left; · (intro w'; go_simp; with_reducible rfl)
                   rotate_left; · (simp only [Act.put, q1, q2, q3, q4, q5, q6, q7]; rfl)
                   refine pure_ (i := 8) (N := some 93) (v := ?_) (a' := ?_) (bm 11 495) rfl rfl (any_of HT_.out (by kernel_rfl)) (fun _ _ _ h => h) (Or.inl ⟨by rfl, ?_⟩) ?_ ?_; rotate_left; · (intro w'; go_simp; with_reducible rfl)
                   rotate_left; · (simp only [Act.put, q1, q2, q3, q4, q5, q6, q7]; rfl)
                   refine take_ (i := 4) (N := some 89) (v := ?_) (a' := ?_) (bm 11 511) rfl rfl (take_ofW HT_.out HW_.out (by kernel_rfl)) (fun _ _ _ h => h) (Or.inl ⟨by rfl, ?_⟩) hHeld ?_ ?_; rotate_left; · (rintro w' ⟨s0, s1, s2, s3, s4, s5, s6, s7, s8, s9, s10, s11, s12, s13⟩; go_simp; with_reducible rfl)
                   rotate_left; · (simp only [Act.put, q1, q2, q3, q4, q5, q6, q7]; rfl)
                   refine take_ (i := 9) (N := some 94) (v := ?_) (a' := ?_) (bm 11 1023) rfl rfl (take_ofW HT_.out HW_.out (by kernel_rfl)) (fun _ _ _ h => h) (Or.inl ⟨by rfl, ?_⟩) hHeld ?_ ?_; rotate_left; · (rintro w' ⟨s0, s1, s2, s3, s4, s5, s6, s7, s8, s9, s10, s11, s12, s13⟩; go_simp; with_reducible rfl)
                   rotate_left; · (simp only [Act.put, q1, q2, q3, q4, q5, q6, q7]; rfl)
                   refine pure_ (i := 10) (N := some 95) (v := ?_) (a' := ?_) (bm 11 2047) rfl rfl (any_of HT_.out (by kernel_rfl)) (fun _ _ _ h => h) (Or.inl ⟨by rfl, ?_⟩) ?_ ?_; rotate_left; · (intro w'; go_simp; with_reducible rfl)
                   rotate_left; · (simp only [Act.put, q1, q2, q3, q4, q5, q6, q7]; rfl)
                   refine done_ (done_of HT_.out (by kernel_rfl)) ?_
                   try go_wp2
                   have n0_ := Aside0.mk (below_drew1 HB.out)
                   clear HB
                   have HB := n0_
                   clear n0_
                   have p181 : 0 ≤ (x10_3 : Int) := of_decide_eq_true (by assumption)
                   have q181 : x10_3 < (l0.length : Int) := of_decide_eq_true (by assumption)
                   obtain ⟨ad181, e181, hx181_0, hx181_1, hx181_2, hx181_3, hx181_4, hx181_5, hx181_6⟩ := at_T41 HR0.out x10_3 p181 q181
                   have hw181_6 := hx181_6
                   have hw181_5 := hx181_5
                   have hw181_4 := hx181_4
                   have hw181_3 := hx181_3
                   have hw181_2 := hx181_2
                   have hw181_1 := hx181_1
                   have hw181_0 := hx181_0
                   obtain rfl : ad178 = ad181 := (by injection e181)
                   replace hx181_0 := cb HB.out hx181_0
                   replace hx181_1 := cb HB.out hx181_1
                   replace hx181_2 := cb HB.out hx181_2
                   replace hx181_3 := cb HB.out hx181_3
                   replace hx181_4 := cb HB.out hx181_4
                   replace hx181_5 := cb HB.out hx181_5
                   replace hx181_6 := cb HB.out hx181_6
                   replace p181 := eq_true p181
                   replace q181 := eq_true q181
                   have p182 : 0 ≤ (x8_2 : Int) := of_decide_eq_true (by assumption)
                   have q182 : x8_2 < (l0.length : Int) := of_decide_eq_true (by assumption)
                   obtain ⟨ad182, e182, hx182_0, hx182_1, hx182_2, hx182_3, hx182_4, hx182_5, hx182_6⟩ := at_T41 HR0.out x8_2 p182 q182
                   have hw182_6 := hx182_6
                   have hw182_5 := hx182_5
                   have hw182_4 := hx182_4
                   have hw182_3 := hx182_3
                   have hw182_2 := hx182_2
                   have hw182_1 := hx182_1
                   have hw182_0 := hx182_0
                   obtain rfl : ad178 = ad182 := (by injection e182)
                   replace hx182_0 := cb HB.out hx182_0
                   replace hx182_1 := cb HB.out hx182_1
                   replace hx182_2 := cb HB.out hx182_2
                   replace hx182_3 := cb HB.out hx182_3
                   replace hx182_4 := cb HB.out hx182_4
                   replace hx182_5 := cb HB.out hx182_5
                   replace hx182_6 := cb HB.out hx182_6
                   replace p182 := eq_true p182
                   replace q182 := eq_true q182
                   have p183 : 0 ≤ (x10_3 : Int) := of_decide_eq_true (by assumption)
                   have q183 : x10_3 < (l0.length : Int) := of_decide_eq_true (by assumption)
                   obtain ⟨ad183, e183, hx183_0, hx183_1, hx183_2, hx183_3, hx183_4, hx183_5, hx183_6⟩ := at_T41 HR0.out x10_3 p183 q183
                   have hw183_6 := hx183_6
                   have hw183_5 := hx183_5
                   have hw183_4 := hx183_4
                   have hw183_3 := hx183_3
                   have hw183_2 := hx183_2
                   have hw183_1 := hx183_1
                   have hw183_0 := hx183_0
                   obtain rfl : ad178 = ad183 := (by injection e183)
                   replace hx183_0 := cb HB.out hx183_0
                   replace hx183_1 := cb HB.out hx183_1
                   replace hx183_2 := cb HB.out hx183_2
                   replace hx183_3 := cb HB.out hx183_3
                   replace hx183_4 := cb HB.out hx183_4
                   replace hx183_5 := cb HB.out hx183_5
                   replace hx183_6 := cb HB.out hx183_6
                   replace p183 := eq_true p183
                   replace q183 := eq_true q183
                   have p184 : 0 ≤ (x8_2 : Int) := of_decide_eq_true (by assumption)
                   have q184 : x8_2 < (l0.length : Int) := of_decide_eq_true (by assumption)
                   obtain ⟨ad184, e184, hx184_0, hx184_1, hx184_2, hx184_3, hx184_4, hx184_5, hx184_6⟩ := at_T41 HR0.out x8_2 p184 q184
                   have hw184_6 := hx184_6
                   have hw184_5 := hx184_5
                   have hw184_4 := hx184_4
                   have hw184_3 := hx184_3
                   have hw184_2 := hx184_2
                   have hw184_1 := hx184_1
                   have hw184_0 := hx184_0
                   obtain rfl : ad178 = ad184 := (by injection e184)
                   replace hx184_0 := cb HB.out hx184_0
                   replace hx184_1 := cb HB.out hx184_1
                   replace hx184_2 := cb HB.out hx184_2
                   replace hx184_3 := cb HB.out hx184_3
                   replace hx184_4 := cb HB.out hx184_4
                   replace hx184_5 := cb HB.out hx184_5
                   replace hx184_6 := cb HB.out hx184_6
                   replace p184 := eq_true p184
                   replace q184 := eq_true q184
                   refine start_ (n := 37) (S := fun w' => w'.cell? (ad178.add ((x10_3).toNat * 7)) = some (.string ((rd_T41 l0 x10_3).f0)) ∧ w'.cell? ⟨(ad178.add ((x10_3).toNat * 7)).block, (ad178.add ((x10_3).toNat * 7)).off + 1, none⟩ = some (.int .i64 ((rd_T41 l0 x10_3).f1)) ∧ w'.cell? ⟨(ad178.add ((x10_3).toNat * 7)).block, (ad178.add ((x10_3).toNat * 7)).off + 2, none⟩ = some (.int .i64 ((rd_T41 l0 x10_3).f2)) ∧ w'.cell? ⟨(ad178.add ((x10_3).toNat * 7)).block, (ad178.add ((x10_3).toNat * 7)).off + 3, none⟩ = some (.int .i64 ((rd_T41 l0 x10_3).f3)) ∧ w'.cell? ⟨(ad178.add ((x10_3).toNat * 7)).block, (ad178.add ((x10_3).toNat * 7)).off + 4, none⟩ = some (.string ((rd_T41 l0 x10_3).f4)) ∧ w'.cell? ⟨(ad178.add ((x10_3).toNat * 7)).block, (ad178.add ((x10_3).toNat * 7)).off + 5, none⟩ = some (.string ((rd_T41 l0 x10_3).f5)) ∧ w'.cell? ⟨(ad178.add ((x10_3).toNat * 7)).block, (ad178.add ((x10_3).toNat * 7)).off + 6, none⟩ = some (.int .i64 ((rd_T41 l0 x10_3).f6)) ∧ w'.cell? (ad178.add ((x8_2).toNat * 7)) = some (.string ((rd_T41 l0 x8_2).f0)) ∧ w'.cell? ⟨(ad178.add ((x8_2).toNat * 7)).block, (ad178.add ((x8_2).toNat * 7)).off + 1, none⟩ = some (.int .i64 ((rd_T41 l0 x8_2).f1)) ∧ w'.cell? ⟨(ad178.add ((x8_2).toNat * 7)).block, (ad178.add ((x8_2).toNat * 7)).off + 2, none⟩ = some (.int .i64 ((rd_T41 l0 x8_2).f2)) ∧ w'.cell? ⟨(ad178.add ((x8_2).toNat * 7)).block, (ad178.add ((x8_2).toNat * 7)).off + 3, none⟩ = some (.int .i64 ((rd_T41 l0 x8_2).f3)) ∧ w'.cell? ⟨(ad178.add ((x8_2).toNat * 7)).block, (ad178.add ((x8_2).toNat * 7)).off + 4, none⟩ = some (.string ((rd_T41 l0 x8_2).f4)) ∧ w'.cell? ⟨(ad178.add ((x8_2).toNat * 7)).block, (ad178.add ((x8_2).toNat * 7)).off + 5, none⟩ = some (.string ((rd_T41 l0 x8_2).f5)) ∧ w'.cell? ⟨(ad178.add ((x8_2).toNat * 7)).block, (ad178.add ((x8_2).toNat * 7)).off + 6, none⟩ = some (.int .i64 ((rd_T41 l0 x8_2).f6)) ∧ w'.cell? (ad178.add ((x10_3).toNat * 7)) = some (.string ((rd_T41 l0 x10_3).f0)) ∧ w'.cell? ⟨(ad178.add ((x10_3).toNat * 7)).block, (ad178.add ((x10_3).toNat * 7)).off + 1, none⟩ = some (.int .i64 ((rd_T41 l0 x10_3).f1)) ∧ w'.cell? ⟨(ad178.add ((x10_3).toNat * 7)).block, (ad178.add ((x10_3).toNat * 7)).off + 2, none⟩ = some (.int .i64 ((rd_T41 l0 x10_3).f2)) ∧ w'.cell? ⟨(ad178.add ((x10_3).toNat * 7)).block, (ad178.add ((x10_3).toNat * 7)).off + 3, none⟩ = some (.int .i64 ((rd_T41 l0 x10_3).f3)) ∧ w'.cell? ⟨(ad178.add ((x10_3).toNat * 7)).block, (ad178.add ((x10_3).toNat * 7)).off + 4, none⟩ = some (.string ((rd_T41 l0 x10_3).f4)) ∧ w'.cell? ⟨(ad178.add ((x10_3).toNat * 7)).block, (ad178.add ((x10_3).toNat * 7)).off + 5, none⟩ = some (.string ((rd_T41 l0 x10_3).f5)) ∧ w'.cell? ⟨(ad178.add ((x10_3).toNat * 7)).block, (ad178.add ((x10_3).toNat * 7)).off + 6, none⟩ = some (.int .i64 ((rd_T41 l0 x10_3).f6)) ∧ w'.cell? (ad178.add ((x8_2).toNat * 7)) = some (.string ((rd_T41 l0 x8_2).f0)) ∧ w'.cell? ⟨(ad178.add ((x8_2).toNat * 7)).block, (ad178.add ((x8_2).toNat * 7)).off + 1, none⟩ = some (.int .i64 ((rd_T41 l0 x8_2).f1)) ∧ w'.cell? ⟨(ad178.add ((x8_2).toNat * 7)).block, (ad178.add ((x8_2).toNat * 7)).off + 2, none⟩ = some (.int .i64 ((rd_T41 l0 x8_2).f2)) ∧ w'.cell? ⟨(ad178.add ((x8_2).toNat * 7)).block, (ad178.add ((x8_2).toNat * 7)).off + 3, none⟩ = some (.int .i64 ((rd_T41 l0 x8_2).f3)) ∧ w'.cell? ⟨(ad178.add ((x8_2).toNat * 7)).block, (ad178.add ((x8_2).toNat * 7)).off + 4, none⟩ = some (.string ((rd_T41 l0 x8_2).f4)) ∧ w'.cell? ⟨(ad178.add ((x8_2).toNat * 7)).block, (ad178.add ((x8_2).toNat * 7)).off + 5, none⟩ = some (.string ((rd_T41 l0 x8_2).f5)) ∧ w'.cell? ⟨(ad178.add ((x8_2).toNat * 7)).block, (ad178.add ((x8_2).toNat * 7)).off + 6, none⟩ = some (.int .i64 ((rd_T41 l0 x8_2).f6))) (ds := []) (bm 37 0) (by kernel_rfl) rfl rfl ⟨(cb HB.out hw181_0), (cb HB.out hw181_1), (cb HB.out hw181_2), (cb HB.out hw181_3), (cb HB.out hw181_4), (cb HB.out hw181_5), (cb HB.out hw181_6), (cb HB.out hw182_0), (cb HB.out hw182_1), (cb HB.out hw182_2), (cb HB.out hw182_3), (cb HB.out hw182_4), (cb HB.out hw182_5), (cb HB.out hw182_6), (cb HB.out hw183_0), (cb HB.out hw183_1), (cb HB.out hw183_2), (cb HB.out hw183_3), (cb HB.out hw183_4), (cb HB.out hw183_5), (cb HB.out hw183_6), (cb HB.out hw184_0), (cb HB.out hw184_1), (cb HB.out hw184_2), (cb HB.out hw184_3), (cb HB.out hw184_4), (cb HB.out hw184_5), (cb HB.out hw184_6)⟩ (fun hHeld => ?_); refine with_tabW spec_TreeOk.tab25 spec_TreeOk.bits25 (fun HT_ HW_ => ?_)
                   generalize w54.drew = w55 at HB hx181_0 hx181_1 hx181_2 hx181_3 hx181_4 hx181_5 hx181_6 hx182_0 hx182_1 hx182_2 hx182_3 hx182_4 hx182_5 hx182_6 hx183_0 hx183_1 hx183_2 hx183_3 hx183_4 hx183_5 hx183_6 hx184_0 hx184_1 hx184_2 hx184_3 hx184_4 hx184_5 hx184_6 hHeld ⊢
                   refine pure_ (i := 0) (N := some 98) (v := ?_) (a' := ?_) (bm 37 1) rfl rfl (any_of HT_.out (by kernel_rfl)) (fun _ _ _ h => h) (Or.inl ⟨by rfl, ?_⟩) ?_ ?_; rotate_left; · (intro w'; go_simp; with_reducible rfl)
                   rotate_left; · (simp only [Act.put, q1, q2, q3, q4, q5, q6, q7]; rfl)
                   refine pure_ (i := 1) (N := some 99) (v := ?_) (a' := ?_) (bm 37 3) rfl rfl (any_of HT_.out (by kernel_rfl)) (fun _ _ _ h => h) (Or.inl ⟨by rfl, ?_⟩) ?_ ?_; rotate_left; · (intro w'; go_simp; with_reducible rfl)
                   rotate_left; · (simp only [Act.put, q1, q2, q3, q4, q5, q6, q7]; rfl)
                   refine pure_ (i := 2) (N := some 100) (v := ?_) (a' := ?_) (bm 37 7) rfl rfl (any_of HT_.out (by kernel_rfl)) (fun _ _ _ h => h) (Or.inl ⟨by rfl, ?_⟩) ?_ ?_; rotate_left; · (intro w'; go_simp; with_reducible rfl)
                   rotate_left; · (simp only [Act.put, q1, q2, q3, q4, q5, q6, q7]; rfl)
                   refine pure_ (i := 3) (N := some 101) (v := ?_) (a' := ?_) (bm 37 15) rfl rfl (any_of HT_.out (by kernel_rfl)) (fun _ _ _ h => h) (Or.inl ⟨by rfl, ?_⟩) ?_ ?_; rotate_left; · (intro w'; go_simp; with_reducible rfl)
                   rotate_left; · (simp only [Act.put, q1, q2, q3, q4, q5, q6, q7]; rfl)
                   refine pure_ (i := 5) (N := some 103) (v := ?_) (a' := ?_) (bm 37 47) rfl rfl (any_of HT_.out (by kernel_rfl)) (fun _ _ _ h => h) (Or.inl ⟨by rfl, ?_⟩) ?_ ?_; rotate_left; · (intro w'; go_simp; with_reducible rfl)
                   rotate_left; · (simp only [Act.put, q1, q2, q3, q4, q5, q6, q7]; rfl)
                   refine pure_ (i := 6) (N := some 104) (v := ?_) (a' := ?_) (bm 37 111) rfl rfl (any_of HT_.out (by kernel_rfl)) (fun _ _ _ h => h) (Or.inl ⟨by rfl, ?_⟩) ?_ ?_; rotate_left; · (intro w'; go_simp; with_reducible rfl)
                   rotate_left; · (simp only [Act.put, q1, q2, q3, q4, q5, q6, q7]; rfl)
                   refine pure_ (i := 7) (N := some 105) (v := ?_) (a' := ?_) (bm 37 239) rfl rfl (any_of HT_.out (by kernel_rfl)) (fun _ _ _ h => h) (Or.inl ⟨by rfl, ?_⟩) ?_ ?_; rotate_left; · (intro w'; go_simp; with_reducible rfl)
                   rotate_left; · (simp only [Act.put, q1, q2, q3, q4, q5, q6, q7]; rfl)
                   refine pure_ (i := 8) (N := some 106) (v := ?_) (a' := ?_) (bm 37 495) rfl rfl (any_of HT_.out (by kernel_rfl)) (fun _ _ _ h => h) (Or.inl ⟨by rfl, ?_⟩) ?_ ?_; rotate_left; · (intro w'; go_simp; with_reducible rfl)
                   rotate_left; · (simp only [Act.put, q1, q2, q3, q4, q5, q6, q7]; rfl)
                   refine take_ (i := 4) (N := some 102) (v := ?_) (a' := ?_) (bm 37 511) rfl rfl (take_ofW HT_.out HW_.out (by kernel_rfl)) (fun _ _ _ h => h) (Or.inl ⟨by rfl, ?_⟩) hHeld ?_ ?_; rotate_left; · (rintro w' ⟨s0, s1, s2, s3, s4, s5, s6, s7, s8, s9, s10, s11, s12, s13, s14, s15, s16, s17, s18, s19, s20, s21, s22, s23, s24, s25, s26, s27⟩; go_simp; with_reducible rfl)
                   rotate_left; · (simp only [Act.put, q1, q2, q3, q4, q5, q6, q7]; rfl)
                   refine take_ (i := 9) (N := some 107) (v := ?_) (a' := ?_) (bm 37 1023) rfl rfl (take_ofW HT_.out HW_.out (by kernel_rfl)) (fun _ _ _ h => h) (Or.inl ⟨by rfl, ?_⟩) hHeld ?_ ?_; rotate_left; · (rintro w' ⟨s0, s1, s2, s3, s4, s5, s6, s7, s8, s9, s10, s11, s12, s13, s14, s15, s16, s17, s18, s19, s20, s21, s22, s23, s24, s25, s26, s27⟩; go_simp; with_reducible rfl)
                   rotate_left; · (simp only [Act.put, q1, q2, q3, q4, q5, q6, q7]; rfl)
                   refine pure_ (i := 10) (N := some 108) (v := ?_) (a' := ?_) (bm 37 2047) rfl rfl (any_of HT_.out (by kernel_rfl)) (fun _ _ _ h => h) (Or.inl ⟨by rfl, ?_⟩) ?_ ?_; rotate_left; · (intro w'; go_simp; with_reducible rfl)
                   rotate_left; · (simp only [Act.put, q1, q2, q3, q4, q5, q6, q7]; rfl)
                   refine pure_ (i := 11) (N := some 109) (v := ?_) (a' := ?_) (bm 37 4095) rfl rfl (any_of HT_.out (by kernel_rfl)) (fun _ _ _ h => h) (Or.inl ⟨by rfl, ?_⟩) ?_ ?_; rotate_left; · (intro w'; go_simp; with_reducible rfl)
                   rotate_left; · (simp only [Act.put, q1, q2, q3, q4, q5, q6, q7]; rfl)
                   refine pure_ (i := 12) (N := some 110) (v := ?_) (a' := ?_) (bm 37 8191) rfl rfl (any_of HT_.out (by kernel_rfl)) (fun _ _ _ h => h) (Or.inl ⟨by rfl, ?_⟩) ?_ ?_; rotate_left; · (intro w'; go_simp; with_reducible rfl)
                   rotate_left; · (simp only [Act.put, q1, q2, q3, q4, q5, q6, q7]; rfl)
                   refine pure_ (i := 13) (N := some 111) (v := ?_) (a' := ?_) (bm 37 16383) rfl rfl (any_of HT_.out (by kernel_rfl)) (fun _ _ _ h => h) (Or.inl ⟨by rfl, ?_⟩) ?_ ?_; rotate_left; · (intro w'; go_simp; with_reducible rfl)
                   rotate_left; · (simp only [Act.put, q1, q2, q3, q4, q5, q6, q7]; rfl)
                   refine pure_ (i := 14) (N := some 112) (v := ?_) (a' := ?_) (bm 37 32767) rfl rfl (any_of HT_.out (by kernel_rfl)) (fun _ _ _ h => h) (Or.inl ⟨by rfl, ?_⟩) ?_ ?_; rotate_left; · (intro w'; go_simp; with_reducible rfl)
                   rotate_left; · (simp only [Act.put, q1, q2, q3, q4, q5, q6, q7]; rfl)
                   refine pure_ (i := 15) (N := some 113) (v := ?_) (a' := ?_) (bm 37 65535) rfl rfl (any_of HT_.out (by kernel_rfl)) (fun _ _ _ h => h) (Or.inl ⟨by rfl, ?_⟩) ?_ ?_; rotate_left; · (intro w'; go_simp; with_reducible rfl)
                   rotate_left; · (simp only [Act.put, q1, q2, q3, q4, q5, q6, q7]; rfl)
                   refine pure_ (i := 17) (N := some 115) (v := ?_) (a' := ?_) (bm 37 196607) rfl rfl (any_of HT_.out (by kernel_rfl)) (fun _ _ _ h => h) (Or.inl ⟨by rfl, ?_⟩) ?_ ?_; rotate_left; · (intro w'; go_simp; with_reducible rfl)
                   rotate_left; · (simp only [Act.put, q1, q2, q3, q4, q5, q6, q7]; rfl)
                   refine pure_ (i := 18) (N := some 116) (v := ?_) (a' := ?_) (bm 37 458751) rfl rfl (any_of HT_.out (by kernel_rfl)) (fun _ _ _ h => h) (Or.inl ⟨by rfl, ?_⟩) ?_ ?_; rotate_left; · (intro w'; go_simp; with_reducible rfl)
                   rotate_left; · (simp only [Act.put, q1, q2, q3, q4, q5, q6, q7]; rfl)
                   refine pure_ (i := 19) (N := some 117) (v := ?_) (a' := ?_) (bm 37 983039) rfl rfl (any_of HT_.out (by kernel_rfl)) (fun _ _ _ h => h) (Or.inl ⟨by rfl, ?_⟩) ?_ ?_; rotate_left; · (intro w'; go_simp; with_reducible rfl)
                   rotate_left; · (simp only [Act.put, q1, q2, q3, q4, q5, q6, q7]; rfl)
                   refine pure_ (i := 20) (N := some 118) (v := ?_) (a' := ?_) (bm 37 2031615) rfl rfl (any_of HT_.out (by kernel_rfl)) (fun _ _ _ h => h) (Or.inl ⟨by rfl, ?_⟩) ?_ ?_; rotate_left; · (intro w'; go_simp; with_reducible rfl)
                   rotate_left; · (simp only [Act.put, q1, q2, q3, q4, q5, q6, q7]; rfl)
                   refine take_ (i := 16) (N := some 114) (v := ?_) (a' := ?_) (bm 37 2097151) rfl rfl (take_ofW HT_.out HW_.out (by kernel_rfl)) (fun _ _ _ h => h) (Or.inl ⟨by rfl, ?_⟩) hHeld ?_ ?_; rotate_left; · (rintro w' ⟨s0, s1, s2, s3, s4, s5, s6, s7, s8, s9, s10, s11, s12, s13, s14, s15, s16, s17, s18, s19, s20, s21, s22, s23, s24, s25, s26, s27⟩; go_simp; with_reducible rfl)
                   rotate_left; · (simp only [Act.put, q1, q2, q3, q4, q5, q6, q7]; rfl)
                   refine take_ (i := 21) (N := some 119) (v := ?_) (a' := ?_) (bm 37 4194303) rfl rfl (take_ofW HT_.out HW_.out (by kernel_rfl)) (fun _ _ _ h => h) (Or.inl ⟨by rfl, ?_⟩) hHeld ?_ ?_; rotate_left; · (rintro w' ⟨s0, s1, s2, s3, s4, s5, s6, s7, s8, s9, s10, s11, s12, s13, s14, s15, s16, s17, s18, s19, s20, s21, s22, s23, s24, s25, s26, s27⟩; go_simp; with_reducible rfl)
                   rotate_left; · (simp only [Act.put, q1, q2, q3, q4, q5, q6, q7]; rfl)
                   refine pure_ (i := 22) (N := some 120) (v := ?_) (a' := ?_) (bm 37 8388607) rfl rfl (any_of HT_.out (by kernel_rfl)) (fun _ _ _ h => h) (Or.inl ⟨by rfl, ?_⟩) ?_ ?_; rotate_left; · (intro w'; go_simp; with_reducible rfl)
                   rotate_left; · (simp only [Act.put, q1, q2, q3, q4, q5, q6, q7]; rfl)
                   refine pure_ (i := 23) (N := some 121) (v := ?_) (a' := ?_) (bm 37 16777215) rfl rfl (any_of HT_.out (by kernel_rfl)) (fun _ _ _ h => h) (Or.inl ⟨by rfl, ?_⟩) ?_ ?_; rotate_left; · (intro w'; go_simp; with_reducible rfl)
                   rotate_left; · (simp only [Act.put, q1, q2, q3, q4, q5, q6, q7]; rfl)
                   refine pure_ (i := 24) (N := some 122) (v := ?_) (a' := ?_) (bm 37 33554431) rfl rfl (any_of HT_.out (by kernel_rfl)) (fun _ _ _ h => h) (Or.inl ⟨by rfl, ?_⟩) ?_ ?_; rotate_left; · (intro w'; go_simp; with_reducible rfl)
                   rotate_left; · (simp only [Act.put, q1, q2, q3, q4, q5, q6, q7]; rfl)
                   refine pure_ (i := 25) (N := some 123) (v := undef) (a' := ?_) (bm 37 67108863) rfl rfl (any_of HT_.out (by kernel_rfl)) (fun _ _ _ h => h) (Or.inr ⟨by rfl, rfl⟩) ?_ ?_
                   rotate_left
                   · (simp only [Act.put, q1, q2, q3, q4, q5, q6, q7]; rfl)
                   refine pure_ (i := 26) (N := some 124) (v := undef) (a' := ?_) (bm 37 134217727) rfl rfl (any_of HT_.out (by kernel_rfl)) (fun _ _ _ h => h) (Or.inr ⟨by rfl, rfl⟩) ?_ ?_
                   rotate_left
                   · (simp only [Act.put, q1, q2, q3, q4, q5, q6, q7]; rfl)
                   refine pure_ (i := 27) (N := some 125) (v := undef) (a' := ?_) (bm 37 268435455) rfl rfl (any_of HT_.out (by kernel_rfl)) (fun _ _ _ h => h) (Or.inr ⟨by rfl, rfl⟩) ?_ ?_
                   rotate_left
                   · (simp only [Act.put, q1, q2, q3, q4, q5, q6, q7]; rfl)
                   refine pure_ (i := 28) (N := some 126) (v := undef) (a' := ?_) (bm 37 536870911) rfl rfl (any_of HT_.out (by kernel_rfl)) (fun _ _ _ h => h) (Or.inr ⟨by rfl, rfl⟩) ?_ ?_
                   rotate_left
                   · (simp only [Act.put, q1, q2, q3, q4, q5, q6, q7]; rfl)
                   refine pure_ (i := 29) (N := some 127) (v := undef) (a' := ?_) (bm 37 1073741823) rfl rfl (any_of HT_.out (by kernel_rfl)) (fun _ _ _ h => h) (Or.inr ⟨by rfl, rfl⟩) ?_ ?_
                   rotate_left
                   · (simp only [Act.put, q1, q2, q3, q4, q5, q6, q7]; rfl)
                   refine pure_ (i := 30) (N := some 128) (v := undef) (a' := ?_) (bm 37 2147483647) rfl rfl (any_of HT_.out (by kernel_rfl)) (fun _ _ _ h => h) (Or.inr ⟨by rfl, rfl⟩) ?_ ?_
                   rotate_left
                   · (simp only [Act.put, q1, q2, q3, q4, q5, q6, q7]; rfl)
                   refine pure_ (i := 31) (N := some 129) (v := undef) (a' := ?_) (bm 37 4294967295) rfl rfl (any_of HT_.out (by kernel_rfl)) (fun _ _ _ h => h) (Or.inr ⟨by rfl, rfl⟩) ?_ ?_
                   rotate_left
                   · (simp only [Act.put, q1, q2, q3, q4, q5, q6, q7]; rfl)
                   refine pure_ (i := 32) (N := some 130) (v := undef) (a' := ?_) (bm 37 8589934591) rfl rfl (any_of HT_.out (by kernel_rfl)) (fun _ _ _ h => h) (Or.inr ⟨by rfl, rfl⟩) ?_ ?_
                   rotate_left
                   · (simp only [Act.put, q1, q2, q3, q4, q5, q6, q7]; rfl)
                   refine pure_ (i := 33) (N := some 131) (v := undef) (a' := ?_) (bm 37 17179869183) rfl rfl (any_of HT_.out (by kernel_rfl)) (fun _ _ _ h => h) (Or.inr ⟨by rfl, rfl⟩) ?_ ?_
                   rotate_left
                   · (simp only [Act.put, q1, q2, q3, q4, q5, q6, q7]; rfl)
                   refine pure_ (i := 34) (N := some 132) (v := undef) (a' := ?_) (bm 37 34359738367) rfl rfl (any_of HT_.out (by kernel_rfl)) (fun _ _ _ h => h) (Or.inr ⟨by rfl, rfl⟩) ?_ ?_
                   rotate_left
                   · (simp only [Act.put, q1, q2, q3, q4, q5, q6, q7]; rfl)
                   refine pure_ (i := 35) (N := some 133) (v := undef) (a' := ?_) (bm 37 68719476735) rfl rfl (any_of HT_.out (by kernel_rfl)) (fun _ _ _ h => h) (Or.inr ⟨by rfl, rfl⟩) ?_ ?_
                   rotate_left
                   · (simp only [Act.put, q1, q2, q3, q4, q5, q6, q7]; rfl)
                   refine pure_ (i := 36) (N := some 134) (v := ?_) (a' := ?_) (bm 37 137438953471) rfl rfl (any_of HT_.out (by kernel_rfl)) (fun _ _ _ h => h) (Or.inl ⟨by rfl, ?_⟩) ?_ ?_; rotate_left; · (intro w'; go_simp; with_reducible rfl)
                   rotate_left; · (simp only [Act.put, q1, q2, q3, q4, q5, q6, q7]; rfl)
                   refine done_ (done_of HT_.out (by kernel_rfl)) ?_
                   try go_wp2
                   go_ret
                   exact ⟨by first | rfl | (simp [errW_none, errW_some] <;> rfl) | (simp [*, errW_none, errW_some] <;> rfl), by repeat (first | exact HB.out | apply below_alloc | apply pw_below_drewN | apply below_drew1)⟩
                 ·
                  rw [if_neg c47] at H
                  have c47b0 : (((rd_T41 l0 x10_3).f2) == ((rd_T41 l0 x8_2).f2)) = false := beq_eq_false_iff_ne.mpr c47
                  have c47b1 : (((rd_T41 l0 x10_3).f2) != ((rd_T41 l0 x8_2).f2)) = true := bne_iff_ne.mpr c47
                  obtain rfl := Option.some.inj H
                  try go_wp2
                  have n0_ := Aside0.mk (below_drew1 HB.out)
                  clear HB
                  have HB := n0_
                  clear n0_
                  have p179 : 0 ≤ (x10_3 : Int) := of_decide_eq_true (by assumption)
                  have q179 : x10_3 < (l0.length : Int) := of_decide_eq_true (by assumption)
                  obtain ⟨ad179, e179, hx179_0, hx179_1, hx179_2, hx179_3, hx179_4, hx179_5, hx179_6⟩ := at_T41 HR0.out x10_3 p179 q179
                  have hw179_6 := hx179_6
                  have hw179_5 := hx179_5
                  have hw179_4 := hx179_4
                  have hw179_3 := hx179_3
                  have hw179_2 := hx179_2
                  have hw179_1 := hx179_1
                  have hw179_0 := hx179_0
                  obtain rfl : ad178 = ad179 := (by injection e179)
                  replace hx179_0 := cb HB.out hx179_0
                  replace hx179_1 := cb HB.out hx179_1
                  replace hx179_2 := cb HB.out hx179_2
                  replace hx179_3 := cb HB.out hx179_3
                  replace hx179_4 := cb HB.out hx179_4
                  replace hx179_5 := cb HB.out hx179_5
                  replace hx179_6 := cb HB.out hx179_6
                  replace p179 := eq_true p179
                  replace q179 := eq_true q179
                  have p180 : 0 ≤ (x8_2 : Int) := of_decide_eq_true (by assumption)
                  have q180 : x8_2 < (l0.length : Int) := of_decide_eq_true (by assumption)
                  obtain ⟨ad180, e180, hx180_0, hx180_1, hx180_2, hx180_3, hx180_4, hx180_5, hx180_6⟩ := at_T41 HR0.out x8_2 p180 q180
                  have hw180_6 := hx180_6
                  have hw180_5 := hx180_5
                  have hw180_4 := hx180_4
                  have hw180_3 := hx180_3
                  have hw180_2 := hx180_2
                  have hw180_1 := hx180_1
                  have hw180_0 := hx180_0
                  obtain rfl : ad178 = ad180 := (by injection e180)
                  replace hx180_0 := cb HB.out hx180_0
                  replace hx180_1 := cb HB.out hx180_1
                  replace hx180_2 := cb HB.out hx180_2
                  replace hx180_3 := cb HB.out hx180_3
                  replace hx180_4 := cb HB.out hx180_4
                  replace hx180_5 := cb HB.out hx180_5
                  replace hx180_6 := cb HB.out hx180_6
                  replace p180 := eq_true p180
                  replace q180 := eq_true q180
                  refine start_ (n := 11) (S := fun w' => w'.cell? (ad178.add ((x10_3).toNat * 7)) = some (.string ((rd_T41 l0 x10_3).f0)) ∧ w'.cell? ⟨(ad178.add ((x10_3).toNat * 7)).block, (ad178.add ((x10_3).toNat * 7)).off + 1, none⟩ = some (.int .i64 ((rd_T41 l0 x10_3).f1)) ∧ w'.cell? ⟨(ad178.add ((x10_3).toNat * 7)).block, (ad178.add ((x10_3).toNat * 7)).off + 2, none⟩ = some (.int .i64 ((rd_T41 l0 x10_3).f2)) ∧ w'.cell? ⟨(ad178.add ((x10_3).toNat * 7)).block, (ad178.add ((x10_3).toNat * 7)).off + 3, none⟩ = some (.int .i64 ((rd_T41 l0 x10_3).f3)) ∧ w'.cell? ⟨(ad178.add ((x10_3).toNat * 7)).block, (ad178.add ((x10_3).toNat * 7)).off + 4, none⟩ = some (.string ((rd_T41 l0 x10_3).f4)) ∧ w'.cell? ⟨(ad178.add ((x10_3).toNat * 7)).block, (ad178.add ((x10_3).toNat * 7)).off + 5, none⟩ = some (.string ((rd_T41 l0 x10_3).f5)) ∧ w'.cell? ⟨(ad178.add ((x10_3).toNat * 7)).block, (ad178.add ((x10_3).toNat * 7)).off + 6, none⟩ = some (.int .i64 ((rd_T41 l0 x10_3).f6)) ∧ w'.cell? (ad178.add ((x8_2).toNat * 7)) = some (.string ((rd_T41 l0 x8_2).f0)) ∧ w'.cell? ⟨(ad178.add ((x8_2).toNat * 7)).block, (ad178.add ((x8_2).toNat * 7)).off + 1, none⟩ = some (.int .i64 ((rd_T41 l0 x8_2).f1)) ∧ w'.cell? ⟨(ad178.add ((x8_2).toNat * 7)).block, (ad178.add ((x8_2).toNat * 7)).off + 2, none⟩ = some (.int .i64 ((rd_T41 l0 x8_2).f2)) ∧ w'.cell? ⟨(ad178.add ((x8_2).toNat * 7)).block, (ad178.add ((x8_2).toNat * 7)).off + 3, none⟩ = some (.int .i64 ((rd_T41 l0 x8_2).f3)) ∧ w'.cell? ⟨(ad178.add ((x8_2).toNat * 7)).block, (ad178.add ((x8_2).toNat * 7)).off + 4, none⟩ = some (.string ((rd_T41 l0 x8_2).f4)) ∧ w'.cell? ⟨(ad178.add ((x8_2).toNat * 7)).block, (ad178.add ((x8_2).toNat * 7)).off + 5, none⟩ = some (.string ((rd_T41 l0 x8_2).f5)) ∧ w'.cell? ⟨(ad178.add ((x8_2).toNat * 7)).block, (ad178.add ((x8_2).toNat * 7)).off + 6, none⟩ = some (.int .i64 ((rd_T41 l0 x8_2).f6))) (ds := []) (bm 11 0) (by kernel_rfl) rfl rfl ⟨(cb HB.out hw179_0), (cb HB.out hw179_1), (cb HB.out hw179_2), (cb HB.out hw179_3), (cb HB.out hw179_4), (cb HB.out hw179_5), (cb HB.out hw179_6), (cb HB.out hw180_0), (cb HB.out hw180_1), (cb HB.out hw180_2), (cb HB.out hw180_3), (cb HB.out hw180_4), (cb HB.out hw180_5), (cb HB.out hw180_6)⟩ (fun hHeld => ?_); refine with_tabW spec_TreeOk.tab23 spec_TreeOk.bits23 (fun HT_ HW_ => ?_)
                  generalize wr.drew = w56 at HB hx179_0 hx179_1 hx179_2 hx179_3 hx179_4 hx179_5 hx179_6 hx180_0 hx180_1 hx180_2 hx180_3 hx180_4 hx180_5 hx180_6 hHeld ⊢
                  refine pure_ (i := 0) (N := some 85) (v := ?_) (a' := ?_) (bm 11 1) rfl rfl (any_of HT_.out (by kernel_rfl)) (fun _ _ _ h => h) (Or.inl ⟨by rfl, ?_⟩) ?_ ?_; rotate_left; · (intro w'; go_simp; with_reducible rfl)
                  rotate_left; · (simp only [Act.put, q1, q2, q3, q4, q5, q6, q7]; rfl)
                  refine pure_ (i := 1) (N := some 86) (v := ?_) (a' := ?_) (bm 11 3) rfl rfl (any_of HT_.out (by kernel_rfl)) (fun _ _ _ h => h) (Or.inl ⟨by rfl, ?_⟩) ?_ ?_; rotate_left; · (intro w'; go_simp; with_reducible rfl)
                  rotate_left; · (simp only [Act.put, q1, q2, q3, q4, q5, q6, q7]; rfl)
                  refine pure_ (i := 2) (N := some 87) (v := ?_) (a' := ?_) (bm 11 7) rfl rfl (any_of HT_.out (by kernel_rfl)) (fun _ _ _ h => h) (Or.inl ⟨by rfl, ?_⟩) ?_ ?_; rotate_left; · (intro w'; go_simp; with_reducible rfl)
                  rotate_left; · (simp only [Act.put, q1, q2, q3, q4, q5, q6, q7]; rfl)
                  refine pure_ (i := 3) (N := some 88) (v := ?_) (a' := ?_) (bm 11 15) rfl rfl (any_of HT_.out (by kernel_rfl)) (fun _ _ _ h => h) (Or.inl ⟨by rfl, ?_⟩) ?_ ?_; rotate_left; · (intro w'; go_simp; with_reducible rfl)
                  rotate_left; · (simp only [Act.put, q1, q2, q3, q4, q5, q6, q7]; rfl)
                  refine pure_ (i := 5) (N := some 90) (v := ?_) (a' := ?_) (bm 11 47) rfl rfl (any_of HT_.out (by kernel_rfl)) (fun _ _ _ h => h) (Or.inl ⟨by rfl, ?_⟩) ?_ ?_; rotate_left; · (intro w'; go_simp; with_reducible rfl)
                  rotate_left; · (simp only [Act.put, q1, q2, q3, q4, q5, q6, q7]; rfl)
                  refine pure_ (i := 6) (N := some 91) (v := ?_) (a' := ?_) (bm 11 111) rfl rfl (any_of HT_.out (by kernel_rfl)) (fun _ _ _ h => h) (Or.inl ⟨by rfl, ?_⟩) ?_ ?_; rotate_left; · (intro w'; go_simp; with_reducible rfl)
                  rotate_left; · (simp only [Act.put, q1, q2, q3, q4, q5, q6, q7]; rfl)
                  refine pure_ (i := 7) (N := some 92) (v := ?_) (a' := ?_) (bm 11 239) rfl rfl (any_of HT_.out (by kernel_rfl)) (fun _ _ _ h => h) (Or.inl ⟨by rfl, ?_⟩) ?_ ?_; rotate_left; · (intro w'; go_simp; with_reducible rfl)
                  rotate_left; · (simp only [Act.put, q1, q2, q3, q4, q5, q6, q7]; rfl)
                  refine pure_ (i := 8) (N := some 93) (v := ?_) (a' := ?_) (bm 11 495) rfl rfl (any_of HT_.out (by kernel_rfl)) (fun _ _ _ h => h) (Or.inl ⟨by rfl, ?_⟩) ?_ ?_; rotate_left; · (intro w'; go_simp; with_reducible rfl)
                  rotate_left; · (simp only [Act.put, q1, q2, q3, q4, q5, q6, q7]; rfl)
                  refine take_ (i := 4) (N := some 89) (v := ?_) (a' := ?_) (bm 11 511) rfl rfl (take_ofW HT_.out HW_.out (by kernel_rfl)) (fun _ _ _ h => h) (Or.inl ⟨by rfl, ?_⟩) hHeld ?_ ?_; rotate_left; · (rintro w' ⟨s0, s1, s2, s3, s4, s5, s6, s7, s8, s9, s10, s11, s12, s13⟩; go_simp; with_reducible rfl)
                  rotate_left; · (simp only [Act.put, q1, q2, q3, q4, q5, q6, q7]; rfl)
                  refine take_ (i := 9) (N := some 94) (v := ?_) (a' := ?_) (bm 11 1023) rfl rfl (take_ofW HT_.out HW_.out (by kernel_rfl)) (fun _ _ _ h => h) (Or.inl ⟨by rfl, ?_⟩) hHeld ?_ ?_; rotate_left; · (rintro w' ⟨s0, s1, s2, s3, s4, s5, s6, s7, s8, s9, s10, s11, s12, s13⟩; go_simp; with_reducible rfl)
                  rotate_left; · (simp only [Act.put, q1, q2, q3, q4, q5, q6, q7]; rfl)
                  refine pure_ (i := 10) (N := some 95) (v := ?_) (a' := ?_) (bm 11 2047) rfl rfl (any_of HT_.out (by kernel_rfl)) (fun _ _ _ h => h) (Or.inl ⟨by rfl, ?_⟩) ?_ ?_; rotate_left; · (intro w'; go_simp; with_reducible rfl)
                  rotate_left; · (simp only [Act.put, q1, q2, q3, q4, q5, q6, q7]; rfl)
                  refine done_ (done_of HT_.out (by kernel_rfl)) ?_
                  try go_wp2
                  have n0_ := Aside0.mk (below_drew1 HB.out)
                  clear HB
                  have HB := n0_
                  clear n0_
                  have p181 : 0 ≤ (x10_3 : Int) := of_decide_eq_true (by assumption)
                  have q181 : x10_3 < (l0.length : Int) := of_decide_eq_true (by assumption)
                  obtain ⟨ad181, e181, hx181_0, hx181_1, hx181_2, hx181_3, hx181_4, hx181_5, hx181_6⟩ := at_T41 HR0.out x10_3 p181 q181
                  have hw181_6 := hx181_6
                  have hw181_5 := hx181_5
                  have hw181_4 := hx181_4
                  have hw181_3 := hx181_3
                  have hw181_2 := hx181_2
                  have hw181_1 := hx181_1
                  have hw181_0 := hx181_0
                  obtain rfl : ad178 = ad181 := (by injection e181)
                  replace hx181_0 := cb HB.out hx181_0
                  replace hx181_1 := cb HB.out hx181_1
                  replace hx181_2 := cb HB.out hx181_2
                  replace hx181_3 := cb HB.out hx181_3
                  replace hx181_4 := cb HB.out hx181_4
                  replace hx181_5 := cb HB.out hx181_5
                  replace hx181_6 := cb HB.out hx181_6
                  replace p181 := eq_true p181
                  replace q181 := eq_true q181
                  have p182 : 0 ≤ (x8_2 : Int) := of_decide_eq_true (by assumption)
                  have q182 : x8_2 < (l0.length : Int) := of_decide_eq_true (by assumption)
                  obtain ⟨ad182, e182, hx182_0, hx182_1, hx182_2, hx182_3, hx182_4, hx182_5, hx182_6⟩ := at_T41 HR0.out x8_2 p182 q182
                  have hw182_6 := hx182_6
                  have hw182_5 := hx182_5
                  have hw182_4 := hx182_4
                  have hw182_3 := hx182_3
                  have hw182_2 := hx182_2
                  have hw182_1 := hx182_1
                  have hw182_0 := hx182_0
                  obtain rfl : ad178 = ad182 := (by injection e182)
                  replace hx182_0 := cb HB.out hx182_0
                  replace hx182_1 := cb HB.out hx182_1
                  replace hx182_2 := cb HB.out hx182_2
                  replace hx182_3 := cb HB.out hx182_3
                  replace hx182_4 := cb HB.out hx182_4
                  replace hx182_5 := cb HB.out hx182_5
                  replace hx182_6 := cb HB.out hx182_6
                  replace p182 := eq_true p182
                  replace q182 := eq_true q182
                  refine start_ (n := 37) (S := fun w' => w'.cell? (ad178.add ((x10_3).toNat * 7)) = some (.string ((rd_T41 l0 x10_3).f0)) ∧ w'.cell? ⟨(ad178.add ((x10_3).toNat * 7)).block, (ad178.add ((x10_3).toNat * 7)).off + 1, none⟩ = some (.int .i64 ((rd_T41 l0 x10_3).f1)) ∧ w'.cell? ⟨(ad178.add ((x10_3).toNat * 7)).block, (ad178.add ((x10_3).toNat * 7)).off + 2, none⟩ = some (.int .i64 ((rd_T41 l0 x10_3).f2)) ∧ w'.cell? ⟨(ad178.add ((x10_3).toNat * 7)).block, (ad178.add ((x10_3).toNat * 7)).off + 3, none⟩ = some (.int .i64 ((rd_T41 l0 x10_3).f3)) ∧ w'.cell? ⟨(ad178.add ((x10_3).toNat * 7)).block, (ad178.add ((x10_3).toNat * 7)).off + 4, none⟩ = some (.string ((rd_T41 l0 x10_3).f4)) ∧ w'.cell? ⟨(ad178.add ((x10_3).toNat * 7)).block, (ad178.add ((x10_3).toNat * 7)).off + 5, none⟩ = some (.string ((rd_T41 l0 x10_3).f5)) ∧ w'.cell? ⟨(ad178.add ((x10_3).toNat * 7)).block, (ad178.add ((x10_3).toNat * 7)).off + 6, none⟩ = some (.int .i64 ((rd_T41 l0 x10_3).f6)) ∧ w'.cell? (ad178.add ((x8_2).toNat * 7)) = some (.string ((rd_T41 l0 x8_2).f0)) ∧ w'.cell? ⟨(ad178.add ((x8_2).toNat * 7)).block, (ad178.add ((x8_2).toNat * 7)).off + 1, none⟩ = some (.int .i64 ((rd_T41 l0 x8_2).f1)) ∧ w'.cell? ⟨(ad178.add ((x8_2).toNat * 7)).block, (ad178.add ((x8_2).toNat * 7)).off + 2, none⟩ = some (.int .i64 ((rd_T41 l0 x8_2).f2)) ∧ w'.cell? ⟨(ad178.add ((x8_2).toNat * 7)).block, (ad178.add ((x8_2).toNat * 7)).off + 3, none⟩ = some (.int .i64 ((rd_T41 l0 x8_2).f3)) ∧ w'.cell? ⟨(ad178.add ((x8_2).toNat * 7)).block, (ad178.add ((x8_2).toNat * 7)).off + 4, none⟩ = some (.string ((rd_T41 l0 x8_2).f4)) ∧ w'.cell? ⟨(ad178.add ((x8_2).toNat * 7)).block, (ad178.add ((x8_2).toNat * 7)).off + 5, none⟩ = some (.string ((rd_T41 l0 x8_2).f5)) ∧ w'.cell? ⟨(ad178.add ((x8_2).toNat * 7)).block, (ad178.add ((x8_2).toNat * 7)).off + 6, none⟩ = some (.int .i64 ((rd_T41 l0 x8_2).f6))) (ds := []) (bm 37 0) (by kernel_rfl) rfl rfl ⟨(cb HB.out hw181_0), (cb HB.out hw181_1), (cb HB.out hw181_2), (cb HB.out hw181_3), (cb HB.out hw181_4), (cb HB.out hw181_5), (cb HB.out hw181_6), (cb HB.out hw182_0), (cb HB.out hw182_1), (cb HB.out hw182_2), (cb HB.out hw182_3), (cb HB.out hw182_4), (cb HB.out hw182_5), (cb HB.out hw182_6)⟩ (fun hHeld => ?_); refine with_tabW spec_TreeOk.tab25 spec_TreeOk.bits25 (fun HT_ HW_ => ?_)
                  generalize w56.drew = w57 at HB hx181_0 hx181_1 hx181_2 hx181_3 hx181_4 hx181_5 hx181_6 hx182_0 hx182_1 hx182_2 hx182_3 hx182_4 hx182_5 hx182_6 hHeld ⊢
                  refine pure_ (i := 0) (N := some 98) (v := ?_) (a' := ?_) (bm 37 1) rfl rfl (any_of HT_.out (by kernel_rfl)) (fun _ _ _ h => h) (Or.inl ⟨by rfl, ?_⟩) ?_ ?_; rotate_left; · (intro w'; go_simp; with_reducible rfl)
                  rotate_left; · (simp only [Act.put, q1, q2, q3, q4, q5, q6, q7]; rfl)
                  refine pure_ (i := 1) (N := some 99) (v := ?_) (a' := ?_) (bm 37 3) rfl rfl (any_of HT_.out (by kernel_rfl)) (fun _ _ _ h => h) (Or.inl ⟨by rfl, ?_⟩) ?_ ?_; rotate_left; · (intro w'; go_simp; with_reducible rfl)
                  rotate_left; · (simp only [Act.put, q1, q2, q3, q4, q5, q6, q7]; rfl)
                  refine pure_ (i := 2) (N := some 100) (v := ?_) (a' := ?_) (bm 37 7) rfl rfl (any_of HT_.out (by kernel_rfl)) (fun _ _ _ h => h) (Or.inl ⟨by rfl, ?_⟩) ?_ ?_; rotate_left; · (intro w'; go_simp; with_reducible rfl)
                  rotate_left; · (simp only [Act.put, q1, q2, q3, q4, q5, q6, q7]; rfl)
                  refine pure_ (i := 3) (N := some 101) (v := ?_) (a' := ?_) (bm 37 15) rfl rfl (any_of HT_.out (by kernel_rfl)) (fun _ _ _ h => h) (Or.inl ⟨by rfl, ?_⟩) ?_ ?_; rotate_left; · (intro w'; go_simp; with_reducible rfl)
                  rotate_left; · (simp only [Act.put, q1, q2, q3, q4, q5, q6, q7]; rfl)
                  refine pure_ (i := 5) (N := some 103) (v := ?_) (a' := ?_) (bm 37 47) rfl rfl (any_of HT_.out (by kernel_rfl)) (fun _ _ _ h => h) (Or.inl ⟨by rfl, ?_⟩) ?_ ?_; rotate_left; · (intro w'; go_simp; with_reducible rfl)
                  rotate_left; · (simp only [Act.put, q1, q2, q3, q4, q5, q6, q7]; rfl)
                  refine pure_ (i := 6) (N := some 104) (v := ?_) (a' := ?_) (bm 37 111) rfl rfl (any_of HT_.out (by kernel_rfl)) (fun _ _ _ h => h) (Or.inl ⟨by rfl, ?_⟩) ?_ ?_; rotate_left; · (intro w'; go_simp; with_reducible rfl)
                  rotate_left; · (simp only [Act.put, q1, q2, q3, q4, q5, q6, q7]; rfl)
                  refine pure_ (i := 7) (N := some 105) (v := ?_) (a' := ?_) (bm 37 239) rfl rfl (any_of HT_.out (by kernel_rfl)) (fun _ _ _ h => h) (Or.inl ⟨by rfl, ?_⟩) ?_ ?_; rotate_left; · (intro w'; go_simp; with_reducible rfl)
                  rotate_left; · (simp only [Act.put, q1, q2, q3, q4, q5, q6, q7]; rfl)
                  refine pure_ (i := 8) (N := some 106) (v := ?_) (a' := ?_) (bm 37 495) rfl rfl (any_of HT_.out (by kernel_rfl)) (fun _ _ _ h => h) (Or.inl ⟨by rfl, ?_⟩) ?_ ?_; rotate_left; · (intro w'; go_simp; with_reducible rfl)
                  rotate_left; · (simp only [Act.put, q1, q2, q3, q4, q5, q6, q7]; rfl)
                  refine take_ (i := 4) (N := some 102) (v := ?_) (a' := ?_) (bm 37 511) rfl rfl (take_ofW HT_.out HW_.out (by kernel_rfl)) (fun _ _ _ h => h) (Or.inl ⟨by rfl, ?_⟩) hHeld ?_ ?_; rotate_left; · (rintro w' ⟨s0, s1, s2, s3, s4, s5, s6, s7, s8, s9, s10, s11, s12, s13⟩; go_simp; with_reducible rfl)
                  rotate_left; · (simp only [Act.put, q1, q2, q3, q4, q5, q6, q7]; rfl)
                  refine take_ (i := 9) (N := some 107) (v := ?_) (a' := ?_) (bm 37 1023) rfl rfl (take_ofW HT_.out HW_.out (by kernel_rfl)) (fun _ _ _ h => h) (Or.inl ⟨by rfl, ?_⟩) hHeld ?_ ?_; rotate_left; · (rintro w' ⟨s0, s1, s2, s3, s4, s5, s6, s7, s8, s9, s10, s11, s12, s13⟩; go_simp; with_reducible rfl)
                  rotate_left; · (simp only [Act.put, q1, q2, q3, q4, q5, q6, q7]; rfl)
                  refine pure_ (i := 10) (N := some 108) (v := ?_) (a' := ?_) (bm 37 2047) rfl rfl (any_of HT_.out (by kernel_rfl)) (fun _ _ _ h => h) (Or.inl ⟨by rfl, ?_⟩) ?_ ?_; rotate_left; · (intro w'; go_simp; with_reducible rfl)
                  rotate_left; · (simp only [Act.put, q1, q2, q3, q4, q5, q6, q7]; rfl)
                  refine pure_ (i := 11) (N := some 109) (v := ?_) (a' := ?_) (bm 37 4095) rfl rfl (any_of HT_.out (by kernel_rfl)) (fun _ _ _ h => h) (Or.inl ⟨by rfl, ?_⟩) ?_ ?_; rotate_left; · (intro w'; go_simp; with_reducible rfl)
                  rotate_left; · (simp only [Act.put, q1, q2, q3, q4, q5, q6, q7]; rfl)
                  refine pure_ (i := 12) (N := some 110) (v := undef) (a' := ?_) (bm 37 8191) rfl rfl (any_of HT_.out (by kernel_rfl)) (fun _ _ _ h => h) (Or.inr ⟨by rfl, rfl⟩) ?_ ?_
                  rotate_left
                  · (simp only [Act.put, q1, q2, q3, q4, q5, q6, q7]; rfl)
                  refine pure_ (i := 13) (N := some 111) (v := undef) (a' := ?_) (bm 37 16383) rfl rfl (any_of HT_.out (by kernel_rfl)) (fun _ _ _ h => h) (Or.inr ⟨by rfl, rfl⟩) ?_ ?_
                  rotate_left
                  · (simp only [Act.put, q1, q2, q3, q4, q5, q6, q7]; rfl)
                  refine pure_ (i := 14) (N := some 112) (v := undef) (a' := ?_) (bm 37 32767) rfl rfl (any_of HT_.out (by kernel_rfl)) (fun _ _ _ h => h) (Or.inr ⟨by rfl, rfl⟩) ?_ ?_
                  rotate_left
                  · (simp only [Act.put, q1, q2, q3, q4, q5, q6, q7]; rfl)
                  refine pure_ (i := 15) (N := some 113) (v := undef) (a' := ?_) (bm 37 65535) rfl rfl (any_of HT_.out (by kernel_rfl)) (fun _ _ _ h => h) (Or.inr ⟨by rfl, rfl⟩) ?_ ?_
                  rotate_left
                  · (simp only [Act.put, q1, q2, q3, q4, q5, q6, q7]; rfl)
                  refine pure_ (i := 16) (N := some 114) (v := undef) (a' := ?_) (bm 37 131071) rfl rfl (any_of HT_.out (by kernel_rfl)) (fun _ _ _ h => h) (Or.inr ⟨by rfl, rfl⟩) ?_ ?_
                  rotate_left
                  · (simp only [Act.put, q1, q2, q3, q4, q5, q6, q7]; rfl)
                  refine pure_ (i := 17) (N := some 115) (v := undef) (a' := ?_) (bm 37 262143) rfl rfl (any_of HT_.out (by kernel_rfl)) (fun _ _ _ h => h) (Or.inr ⟨by rfl, rfl⟩) ?_ ?_
                  rotate_left
                  · (simp only [Act.put, q1, q2, q3, q4, q5, q6, q7]; rfl)
                  refine pure_ (i := 18) (N := some 116) (v := undef) (a' := ?_) (bm 37 524287) rfl rfl (any_of HT_.out (by kernel_rfl)) (fun _ _ _ h => h) (Or.inr ⟨by rfl, rfl⟩) ?_ ?_
                  rotate_left
                  · (simp only [Act.put, q1, q2, q3, q4, q5, q6, q7]; rfl)
                  refine pure_ (i := 19) (N := some 117) (v := undef) (a' := ?_) (bm 37 1048575) rfl rfl (any_of HT_.out (by kernel_rfl)) (fun _ _ _ h => h) (Or.inr ⟨by rfl, rfl⟩) ?_ ?_
                  rotate_left
                  · (simp only [Act.put, q1, q2, q3, q4, q5, q6, q7]; rfl)
                  refine pure_ (i := 20) (N := some 118) (v := undef) (a' := ?_) (bm 37 2097151) rfl rfl (any_of HT_.out (by kernel_rfl)) (fun _ _ _ h => h) (Or.inr ⟨by rfl, rfl⟩) ?_ ?_
                  rotate_left
                  · (simp only [Act.put, q1, q2, q3, q4, q5, q6, q7]; rfl)
                  refine pure_ (i := 21) (N := some 119) (v := undef) (a' := ?_) (bm 37 4194303) rfl rfl (any_of HT_.out (by kernel_rfl)) (fun _ _ _ h => h) (Or.inr ⟨by rfl, rfl⟩) ?_ ?_
                  rotate_left
                  · (simp only [Act.put, q1, q2, q3, q4, q5, q6, q7]; rfl)
                  refine pure_ (i := 22) (N := some 120) (v := undef) (a' := ?_) (bm 37 8388607) rfl rfl (any_of HT_.out (by kernel_rfl)) (fun _ _ _ h => h) (Or.inr ⟨by rfl, rfl⟩) ?_ ?_
                  rotate_left
                  · (simp only [Act.put, q1, q2, q3, q4, q5, q6, q7]; rfl)
                  refine pure_ (i := 23) (N := some 121) (v := ?_) (a' := ?_) (bm 37 16777215) rfl rfl (any_of HT_.out (by kernel_rfl)) (fun _ _ _ h => h) (Or.inl ⟨by rfl, ?_⟩) ?_ ?_; rotate_left; · (intro w'; go_simp; with_reducible rfl)
                  rotate_left; · (simp only [Act.put, q1, q2, q3, q4, q5, q6, q7]; rfl)
                  refine pure_ (i := 24) (N := some 122) (v := ?_) (a' := ?_) (bm 37 33554431) rfl rfl (any_of HT_.out (by kernel_rfl)) (fun _ _ _ h => h) (Or.inl ⟨by rfl, ?_⟩) ?_ ?_; rotate_left; · (intro w'; go_simp; with_reducible rfl)
                  rotate_left; · (simp only [Act.put, q1, q2, q3, q4, q5, q6, q7]; rfl)
                  refine pure_ (i := 25) (N := some 123) (v := undef) (a' := ?_) (bm 37 67108863) rfl rfl (any_of HT_.out (by kernel_rfl)) (fun _ _ _ h => h) (Or.inr ⟨by rfl, rfl⟩) ?_ ?_
                  rotate_left
                  · (simp only [Act.put, q1, q2, q3, q4, q5, q6, q7]; rfl)
                  refine pure_ (i := 26) (N := some 124) (v := undef) (a' := ?_) (bm 37 134217727) rfl rfl (any_of HT_.out (by kernel_rfl)) (fun _ _ _ h => h) (Or.inr ⟨by rfl, rfl⟩) ?_ ?_
                  rotate_left
                  · (simp only [Act.put, q1, q2, q3, q4, q5, q6, q7]; rfl)
                  refine pure_ (i := 27) (N := some 125) (v := undef) (a' := ?_) (bm 37 268435455) rfl rfl (any_of HT_.out (by kernel_rfl)) (fun _ _ _ h => h) (Or.inr ⟨by rfl, rfl⟩) ?_ ?_
                  rotate_left
                  · (simp only [Act.put, q1, q2, q3, q4, q5, q6, q7]; rfl)
                  refine pure_ (i := 28) (N := some 126) (v := undef) (a' := ?_) (bm 37 536870911) rfl rfl (any_of HT_.out (by kernel_rfl)) (fun _ _ _ h => h) (Or.inr ⟨by rfl, rfl⟩) ?_ ?_
                  rotate_left
                  · (simp only [Act.put, q1, q2, q3, q4, q5, q6, q7]; rfl)
                  refine pure_ (i := 29) (N := some 127) (v := undef) (a' := ?_) (bm 37 1073741823) rfl rfl (any_of HT_.out (by kernel_rfl)) (fun _ _ _ h => h) (Or.inr ⟨by rfl, rfl⟩) ?_ ?_
                  rotate_left
                  · (simp only [Act.put, q1, q2, q3, q4, q5, q6, q7]; rfl)
                  refine pure_ (i := 30) (N := some 128) (v := undef) (a' := ?_) (bm 37 2147483647) rfl rfl (any_of HT_.out (by kernel_rfl)) (fun _ _ _ h => h) (Or.inr ⟨by rfl, rfl⟩) ?_ ?_
                  rotate_left
                  · (simp only [Act.put, q1, q2, q3, q4, q5, q6, q7]; rfl)
                  refine pure_ (i := 31) (N := some 129) (v := undef) (a' := ?_) (bm 37 4294967295) rfl rfl (any_of HT_.out (by kernel_rfl)) (fun _ _ _ h => h) (Or.inr ⟨by rfl, rfl⟩) ?_ ?_
                  rotate_left
                  · (simp only [Act.put, q1, q2, q3, q4, q5, q6, q7]; rfl)
                  refine pure_ (i := 32) (N := some 130) (v := undef) (a' := ?_) (bm 37 8589934591) rfl rfl (any_of HT_.out (by kernel_rfl)) (fun _ _ _ h => h) (Or.inr ⟨by rfl, rfl⟩) ?_ ?_
                  rotate_left
                  · (simp only [Act.put, q1, q2, q3, q4, q5, q6, q7]; rfl)
                  refine pure_ (i := 33) (N := some 131) (v := undef) (a' := ?_) (bm 37 17179869183) rfl rfl (any_of HT_.out (by kernel_rfl)) (fun _ _ _ h => h) (Or.inr ⟨by rfl, rfl⟩) ?_ ?_
                  rotate_left
                  · (simp only [Act.put, q1, q2, q3, q4, q5, q6, q7]; rfl)
                  refine pure_ (i := 34) (N := some 132) (v := undef) (a' := ?_) (bm 37 34359738367) rfl rfl (any_of HT_.out (by kernel_rfl)) (fun _ _ _ h => h) (Or.inr ⟨by rfl, rfl⟩) ?_ ?_
                  rotate_left
                  · (simp only [Act.put, q1, q2, q3, q4, q5, q6, q7]; rfl)
                  refine pure_ (i := 35) (N := some 133) (v := undef) (a' := ?_) (bm 37 68719476735) rfl rfl (any_of HT_.out (by kernel_rfl)) (fun _ _ _ h => h) (Or.inr ⟨by rfl, rfl⟩) ?_ ?_
                  rotate_left
                  · (simp only [Act.put, q1, q2, q3, q4, q5, q6, q7]; rfl)
                  refine pure_ (i := 36) (N := some 134) (v := ?_) (a' := ?_) (bm 37 137438953471) rfl rfl (any_of HT_.out (by kernel_rfl)) (fun _ _ _ h => h) (Or.inl ⟨by rfl, ?_⟩) ?_ ?_; rotate_left; · (intro w'; go_simp; with_reducible rfl)
                  rotate_left; · (simp only [Act.put, q1, q2, q3, q4, q5, q6, q7]; rfl)
                  refine done_ (done_of HT_.out (by kernel_rfl)) ?_
                  try go_wp2
                  go_ret
                  exact ⟨by first | rfl | (simp [errW_none, errW_some] <;> rfl) | (simp [*, errW_none, errW_some] <;> rfl), by repeat (first | exact HB.out | apply below_alloc | apply pw_below_drewN | apply below_drew1)⟩
                ·
                 rw [if_neg c46] at H
                 have c46b0 : (((rd_T41 l0 x10_3).f6) == ((rd_T41 l0 x8_2).f6)) = false := beq_eq_false_iff_ne.mpr c46
                 have c46b1 : (((rd_T41 l0 x10_3).f6) != ((rd_T41 l0 x8_2).f6)) = true := bne_iff_ne.mpr c46
                 have H' := Aside0.mk H
                 clear H
                 try go_wp2
                 have n0_ := Aside0.mk (below_drew1 HB.out)
                 clear HB
                 have HB := n0_
                 clear n0_
                 have p179 : 0 ≤ (x10_3 : Int) := of_decide_eq_true (by assumption)
                 have q179 : x10_3 < (l0.length : Int) := of_decide_eq_true (by assumption)
                 obtain ⟨ad179, e179, hx179_0, hx179_1, hx179_2, hx179_3, hx179_4, hx179_5, hx179_6⟩ := at_T41 HR0.out x10_3 p179 q179
                 have hw179_6 := hx179_6
                 have hw179_5 := hx179_5
                 have hw179_4 := hx179_4
                 have hw179_3 := hx179_3
                 have hw179_2 := hx179_2
                 have hw179_1 := hx179_1
                 have hw179_0 := hx179_0
                 obtain rfl : ad178 = ad179 := (by injection e179)
                 replace hx179_0 := cb HB.out hx179_0
                 replace hx179_1 := cb HB.out hx179_1
                 replace hx179_2 := cb HB.out hx179_2
                 replace hx179_3 := cb HB.out hx179_3
                 replace hx179_4 := cb HB.out hx179_4
                 replace hx179_5 := cb HB.out hx179_5
                 replace hx179_6 := cb HB.out hx179_6
                 replace p179 := eq_true p179
                 replace q179 := eq_true q179
                 have p180 : 0 ≤ (x8_2 : Int) := of_decide_eq_true (by assumption)
                 have q180 : x8_2 < (l0.length : Int) := of_decide_eq_true (by assumption)
                 obtain ⟨ad180, e180, hx180_0, hx180_1, hx180_2, hx180_3, hx180_4, hx180_5, hx180_6⟩ := at_T41 HR0.out x8_2 p180 q180
                 have hw180_6 := hx180_6
                 have hw180_5 := hx180_5
                 have hw180_4 := hx180_4
                 have hw180_3 := hx180_3
                 have hw180_2 := hx180_2
                 have hw180_1 := hx180_1
                 have hw180_0 := hx180_0
                 obtain rfl : ad178 = ad180 := (by injection e180)
                 replace hx180_0 := cb HB.out hx180_0
                 replace hx180_1 := cb HB.out hx180_1
                 replace hx180_2 := cb HB.out hx180_2
                 replace hx180_3 := cb HB.out hx180_3
                 replace hx180_4 := cb HB.out hx180_4
                 replace hx180_5 := cb HB.out hx180_5
                 replace hx180_6 := cb HB.out hx180_6
                 replace p180 := eq_true p180
                 replace q180 := eq_true q180
                 refine start_ (n := 11) (S := fun w' => w'.cell? (ad178.add ((x10_3).toNat * 7)) = some (.string ((rd_T41 l0 x10_3).f0)) ∧ w'.cell? ⟨(ad178.add ((x10_3).toNat * 7)).block, (ad178.add ((x10_3).toNat * 7)).off + 1, none⟩ = some (.int .i64 ((rd_T41 l0 x10_3).f1)) ∧ w'.cell? ⟨(ad178.add ((x10_3).toNat * 7)).block, (ad178.add ((x10_3).toNat * 7)).off + 2, none⟩ = some (.int .i64 ((rd_T41 l0 x10_3).f2)) ∧ w'.cell? ⟨(ad178.add ((x10_3).toNat * 7)).block, (ad178.add ((x10_3).toNat * 7)).off + 3, none⟩ = some (.int .i64 ((rd_T41 l0 x10_3).f3)) ∧ w'.cell? ⟨(ad178.add ((x10_3).toNat * 7)).block, (ad178.add ((x10_3).toNat * 7)).off + 4, none⟩ = some (.string ((rd_T41 l0 x10_3).f4)) ∧ w'.cell? ⟨(ad178.add ((x10_3).toNat * 7)).block, (ad178.add ((x10_3).toNat * 7)).off + 5, none⟩ = some (.string ((rd_T41 l0 x10_3).f5)) ∧ w'.cell? ⟨(ad178.add ((x10_3).toNat * 7)).block, (ad178.add ((x10_3).toNat * 7)).off + 6, none⟩ = some (.int .i64 ((rd_T41 l0 x10_3).f6)) ∧ w'.cell? (ad178.add ((x8_2).toNat * 7)) = some (.string ((rd_T41 l0 x8_2).f0)) ∧ w'.cell? ⟨(ad178.add ((x8_2).toNat * 7)).block, (ad178.add ((x8_2).toNat * 7)).off + 1, none⟩ = some (.int .i64 ((rd_T41 l0 x8_2).f1)) ∧ w'.cell? ⟨(ad178.add ((x8_2).toNat * 7)).block, (ad178.add ((x8_2).toNat * 7)).off + 2, none⟩ = some (.int .i64 ((rd_T41 l0 x8_2).f2)) ∧ w'.cell? ⟨(ad178.add ((x8_2).toNat * 7)).block, (ad178.add ((x8_2).toNat * 7)).off + 3, none⟩ = some (.int .i64 ((rd_T41 l0 x8_2).f3)) ∧ w'.cell? ⟨(ad178.add ((x8_2).toNat * 7)).block, (ad178.add ((x8_2).toNat * 7)).off + 4, none⟩ = some (.string ((rd_T41 l0 x8_2).f4)) ∧ w'.cell? ⟨(ad178.add ((x8_2).toNat * 7)).block, (ad178.add ((x8_2).toNat * 7)).off + 5, none⟩ = some (.string ((rd_T41 l0 x8_2).f5)) ∧ w'.cell? ⟨(ad178.add ((x8_2).toNat * 7)).block, (ad178.add ((x8_2).toNat * 7)).off + 6, none⟩ = some (.int .i64 ((rd_T41 l0 x8_2).f6))) (ds := []) (bm 11 0) (by kernel_rfl) rfl rfl ⟨(cb HB.out hw179_0), (cb HB.out hw179_1), (cb HB.out hw179_2), (cb HB.out hw179_3), (cb HB.out hw179_4), (cb HB.out hw179_5), (cb HB.out hw179_6), (cb HB.out hw180_0), (cb HB.out hw180_1), (cb HB.out hw180_2), (cb HB.out hw180_3), (cb HB.out hw180_4), (cb HB.out hw180_5), (cb HB.out hw180_6)⟩ (fun hHeld => ?_); refine with_tabW spec_TreeOk.tab23 spec_TreeOk.bits23 (fun HT_ HW_ => ?_)
                 generalize wr.drew = w58 at HB hx179_0 hx179_1 hx179_2 hx179_3 hx179_4 hx179_5 hx179_6 hx180_0 hx180_1 hx180_2 hx180_3 hx180_4 hx180_5 hx180_6 hHeld ⊢
                 refine pure_ (i := 0) (N := some 85) (v := ?_) (a' := ?_) (bm 11 1) rfl rfl (any_of HT_.out (by kernel_rfl)) (fun _ _ _ h => h) (Or.inl ⟨by rfl, ?_⟩) ?_ ?_; rotate_left; · (intro w'; go_simp; with_reducible rfl)
                 rotate_left; · (simp only [Act.put, q1, q2, q3, q4, q5, q6, q7]; rfl)
                 refine pure_ (i := 1) (N := some 86) (v := ?_) (a' := ?_) (bm 11 3) rfl rfl (any_of HT_.out (by kernel_rfl)) (fun _ _ _ h => h) (Or.inl ⟨by rfl, ?_⟩) ?_ ?_; rotate_left; · (intro w'; go_simp; with_reducible rfl)
                 rotate_left; · (simp only [Act.put, q1, q2, q3, q4, q5, q6, q7]; rfl)
                 refine pure_ (i := 2) (N := some 87) (v := ?_) (a' := ?_) (bm 11 7) rfl rfl (any_of HT_.out (by kernel_rfl)) (fun _ _ _ h => h) (Or.inl ⟨by rfl, ?_⟩) ?_ ?_; rotate_left; · (intro w'; go_simp; with_reducible rfl)
                 rotate_left; · (simp only [Act.put, q1, q2, q3, q4, q5, q6, q7]; rfl)
                 refine pure_ (i := 3) (N := some 88) (v := ?_) (a' := ?_) (bm 11 15) rfl rfl (any_of HT_.out (by kernel_rfl)) (fun _ _ _ h => h) (Or.inl ⟨by rfl, ?_⟩) ?_ ?_; rotate_left; · (intro w'; go_simp; with_reducible rfl)
                 rotate_left; · (simp only [Act.put, q1, q2, q3, q4, q5, q6, q7]; rfl)
                 refine pure_ (i := 5) (N := some 90) (v := ?_) (a' := ?_) (bm 11 47) rfl rfl (any_of HT_.out (by kernel_rfl)) (fun _ _ _ h => h) (Or.inl ⟨by rfl, ?_⟩) ?_ ?_; rotate_left; · (intro w'; go_simp; with_reducible rfl)
                 rotate_left; · (simp only [Act.put, q1, q2, q3, q4, q5, q6, q7]; rfl)
                 refine pure_ (i := 6) (N := some 91) (v := ?_) (a' := ?_) (bm 11 111) rfl rfl (any_of HT_.out (by kernel_rfl)) (fun _ _ _ h => h) (Or.inl ⟨by rfl, ?_⟩) ?_ ?_; rotate_left; · (intro w'; go_simp; with_reducible rfl)
                 rotate_left; · (simp only [Act.put, q1, q2, q3, q4, q5, q6, q7]; rfl)
                 refine pure_ (i := 7) (N := some 92) (v := ?_) (a' := ?_) (bm 11 239) rfl rfl (any_of HT_.out (by kernel_rfl)) (fun _ _ _ h => h) (Or.inl ⟨by rfl, ?_⟩) ?_ ?_; rotate_left; · (intro w'; go_simp; with_reducible rfl)
                 rotate_left; · (simp only [Act.put, q1, q2, q3, q4, q5, q6, q7]; rfl)
                 refine pure_ (i := 8) (N := some 93) (v := ?_) (a' := ?_) (bm 11 495) rfl rfl (any_of HT_.out (by kernel_rfl)) (fun _ _ _ h => h) (Or.inl ⟨by rfl, ?_⟩) ?_ ?_; rotate_left; · (intro w'; go_simp; with_reducible rfl)
                 rotate_left; · (simp only [Act.put, q1, q2, q3, q4, q5, q6, q7]; rfl)
                 refine take_ (i := 4) (N := some 89) (v := ?_) (a' := ?_) (bm 11 511) rfl rfl (take_ofW HT_.out HW_.out (by kernel_rfl)) (fun _ _ _ h => h) (Or.inl ⟨by rfl, ?_⟩) hHeld ?_ ?_; rotate_left; · (rintro w' ⟨s0, s1, s2, s3, s4, s5, s6, s7, s8, s9, s10, s11, s12, s13⟩; go_simp; with_reducible rfl)
                 rotate_left; · (simp only [Act.put, q1, q2, q3, q4, q5, q6, q7]; rfl)
                 refine take_ (i := 9) (N := some 94) (v := ?_) (a' := ?_) (bm 11 1023) rfl rfl (take_ofW HT_.out HW_.out (by kernel_rfl)) (fun _ _ _ h => h) (Or.inl ⟨by rfl, ?_⟩) hHeld ?_ ?_; rotate_left; · (rintro w' ⟨s0, s1, s2, s3, s4, s5, s6, s7, s8, s9, s10, s11, s12, s13⟩; go_simp; with_reducible rfl)
                 rotate_left; · (simp only [Act.put, q1, q2, q3, q4, q5, q6, q7]; rfl)
                 refine pure_ (i := 10) (N := some 95) (v := ?_) (a' := ?_) (bm 11 2047) rfl rfl (any_of HT_.out (by kernel_rfl)) (fun _ _ _ h => h) (Or.inl ⟨by rfl, ?_⟩) ?_ ?_; rotate_left; · (intro w'; go_simp; with_reducible rfl)
                 rotate_left; · (simp only [Act.put, q1, q2, q3, q4, q5, q6, q7]; rfl)
                 refine done_ (done_of HT_.out (by kernel_rfl)) ?_
                 try go_wp2
                 go_roundg k3
                 case measure => have := HK1.out; have := HK2.out; have := HK3.out; omega
                 case rel => exact ⟨(x9_3), (wrap64 (x10_3 + 1)), (by first | rfl | (simp; done) | (simp [*]; done)), (by first | rfl | (simp; done) | (simp [*]; done)), H', ⟨by have := HK1.out; have := HK2.out; have := HK3.out; omega⟩, ⟨by repeat (first | exact HB.out | apply below_alloc | apply pw_below_drewN | apply below_drew1)⟩⟩
               ·
                rw [if_neg c45] at H
                exact absurd H (by simp)
              ·
               rw [if_neg c44] at H
               exact absurd H (by simp)
             ·
              rw [if_neg c43] at H
              exact absurd H (by simp)
            ·
             rw [if_neg c42] at H
             have c42b0 : decide (x10_3 < (l0.length : Int)) = false := decide_eq_false c42
             clear c42
             by_cases c59 : x9_3 < 2
             ·
              rw [if_pos c59] at H
              have c59b0 : decide (x9_3 < 2) = true := decide_eq_true c59
              clear c59
              obtain rfl := Option.some.inj H
              go_wp2
              go_ret
              exact ⟨by first | rfl | (simp [errW_none, errW_some] <;> rfl) | (simp [*, errW_none, errW_some] <;> rfl), by repeat (first | exact HB.out | apply below_alloc | apply pw_below_drewN | apply below_drew1)⟩
             ·
              rw [if_neg c59] at H
              have c59b0 : decide (x9_3 < 2) = false := decide_eq_false c59
              clear c59
              have H' := Aside0.mk H
              clear H
              go_wp2
              go_roundg k3
              case measure => have := HK1.out; have := HK2.out; have := HK3.out; omega
              case rel => exact ⟨(wrap64 (x8_2 + 1)), (by first | rfl | (simp; done) | (simp [*]; done)), H', ⟨by have := HK1.out; have := HK2.out; have := HK3.out; omega⟩, ⟨by repeat (first | exact HB.out | apply below_alloc | apply pw_below_drewN | apply below_drew1)⟩⟩
        ·
         rw [if_neg c40] at H
         exact absurd H (by simp)
       ·
        rw [if_neg c39] at H
        have c39b0 : decide (x8_2 < (l0.length : Int)) = false := decide_eq_false c39
        clear c39
        obtain rfl := Option.some.inj H
        go_wp2
        go_ret
        exact ⟨by first | rfl | (simp [errW_none, errW_some] <;> rfl) | (simp [*, errW_none, errW_some] <;> rfl), by repeat (first | exact HB.out | apply below_alloc | apply pw_below_drewN | apply below_drew1)⟩

end Go.Proofs.YtnfihjebbhjgjaaDoor.PSm
