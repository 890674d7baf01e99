-- Made by a program of this session (tools/pr.sh) out of the translation; Lean checks it.
import Derived.Test.YtnfihjebbhjgjaaDoorPPax0
import Derived.Test.YtnfihjebbhjgjaaDoorPPax3
import Derived.Test.YtnfihjebbhjgjaaDoorPPax7
import Derived.Test.YtnfihjebbhjgjaaDoorPPax16
namespace Go.Proofs.YtnfihjebbhjgjaaDoor.PPa
open Go.RowKit Go.Proofs.YtnfihjebbhjgjaaDoorW.PrintWords Go.Proofs.YtnfihjebbhjgjaaDoorW.PrintLast Go.Proofs.YtnfihjebbhjgjaaDoorW.PrintMore
attribute [local go_sem] max2_int min2_int max_two min_two max_three min_three max_four min_four   -- for this text's walks alone
set_option linter.unusedVariables false
set_option linter.unusedSimpArgs false

/-! ### impl_NodeOk: function 38 -/
def impl_NodeOk.j0 : Nat → Bool → ByteArray → Int → Int → Int → ByteArray → ByteArray → Int → Option (Bool)
  | 0, _, _, _, _, _, _, _, _ => none
  | k + 1, x18, x207000, x207001, x207002, x207003, x207004, x207005, x207006 => if x18 = true then (some false) else (if x207001 = 0 then (if x207004.toList = ([] : List UInt8) then (if x207005.toList = ([] : List UInt8) then (some (x207006 == 0)) else (some false)) else (some false)) else (if x207001 = 1 then (if (x207004.size : Int) ≤ 20000 then (if x207005.toList = ([] : List UInt8) then ((impl_within.f x207006 0 200).bind fun t210 => (some t210)) else (some false)) else (some false)) else (if x207001 = 2 then (if x207004.toList = ([] : List UInt8) then (if x207002 = 0 then (if x207006 = 0 then ((impl_within.f (x207005.size : Int) 1 60).bind fun t211 => (if t211 = true then ((strings_Contains.f x207005 (⟨#[10]⟩ : ByteArray)).bind fun t212 => (some (!t212))) else (some false))) else (some false)) else (some false)) else (some false)) else (some false))))
def impl_NodeOk.f (k : Nat) (a0_0 : ByteArray) (a0_1 : Int) (a0_2 : Int) (a0_3 : Int) (a0_4 : ByteArray) (a0_5 : ByteArray) (a0_6 : Int) : Option (Bool) := (impl_PathOk.f k a0_0).bind fun t207 => (if t207 = true then ((impl_within.f a0_2 0 511).bind fun t208 => (if t208 = true then ((impl_within.f a0_3 0 1000000000).bind fun t209 => (impl_NodeOk.j0 k (!t209) a0_0 a0_1 a0_2 a0_3 a0_4 a0_5 a0_6)) else (impl_NodeOk.j0 k true a0_0 a0_1 a0_2 a0_3 a0_4 a0_5 a0_6))) else (impl_NodeOk.j0 k true a0_0 a0_1 a0_2 a0_3 a0_4 a0_5 a0_6))
theorem impl_NodeOk.mono_l : ∀ k, (∀ y0 y1 y2 y3 y4 y5 y6 y7, LeO (impl_NodeOk.j0 k y0 y1 y2 y3 y4 y5 y6 y7) (impl_NodeOk.j0 (k + 1) y0 y1 y2 y3 y4 y5 y6 y7))
  | 0 => fun _ _ _ _ _ _ _ _ r h => by simp [impl_NodeOk.j0] at h
  | k + 1 => by
    have ih0 := impl_NodeOk.mono_l k
    · intro y0 y1 y2 y3 y4 y5 y6 y7
      unfold impl_NodeOk.j0
      repeat' first
      | (with_reducible exact ih0 _ _ _ _ _ _ _ _)
      | (with_reducible exact impl_PathOk.mono _ _)
      | (with_reducible exact LeO.refl _)
      | (with_reducible exact LeO.none _)
      | (with_reducible refine LeO.ite ?_ ?_)
      | (with_reducible refine LeO.bind ?_ (fun _ => ?_))
      | exact ih0 _ _ _ _ _ _ _ _
      | exact impl_PathOk.mono _ _
      | exact LeO.none _
      | refine LeO.ite ?_ ?_
      | refine LeO.bind ?_ (fun _ => ?_)
theorem impl_NodeOk.mono : ∀ a0 a1 a2 a3 a4 a5 a6 k, LeO (impl_NodeOk.f k a0 a1 a2 a3 a4 a5 a6) (impl_NodeOk.f (k + 1) a0 a1 a2 a3 a4 a5 a6) := by
  intro a0 a1 a2 a3 a4 a5 a6 k
  have ih0 := impl_NodeOk.mono_l k
  unfold impl_NodeOk.f
  repeat' first
      | (with_reducible exact ih0 _ _ _ _ _ _ _ _)
      | (with_reducible exact impl_PathOk.mono _ _)
      | (with_reducible exact LeO.refl _)
      | (with_reducible exact LeO.none _)
      | (with_reducible refine LeO.ite ?_ ?_)
      | (with_reducible refine LeO.bind ?_ (fun _ => ?_))
      | exact ih0 _ _ _ _ _ _ _ _
      | exact impl_PathOk.mono _ _
      | exact LeO.none _
      | refine LeO.ite ?_ ?_
      | refine LeO.bind ?_ (fun _ => ?_)
set_option maxHeartbeats 8000000 in
set_option maxRecDepth 100000 in
theorem impl_NodeOk.calls (k : Nat) (a0_0 : ByteArray) (a0_1 : Int) (a0_2 : Int) (a0_3 : Int) (a0_4 : ByteArray) (a0_5 : ByteArray) (a0_6 : Int) (r : Bool) (w : World) (hT : Tab w) (h : impl_NodeOk.f k a0_0 a0_1 a0_2 a0_3 a0_4 a0_5 a0_6 = some r) :
    Calls Tryd.prog 38 #[.agg #[.string a0_0, .int .i64 a0_1, .int .i64 a0_2, .int .i64 a0_3, .string a0_4, .string a0_5, .int .i64 a0_6]] w fun e w' => e = .returned (.bool r) ∧ Below w.heap.size w w' := by
  have HT := Aside0.mk hT
  clear hT
  have hu41 := Tryd.underlying41
  have HB := Aside0.mk (Below.refl w.heap.size w)
  have H : ((impl_PathOk.f k a0_0).bind fun t207 => (if t207 = true then ((impl_within.f a0_2 0 511).bind fun t208 => (if t208 = true then ((impl_within.f a0_3 0 1000000000).bind fun t209 => (impl_NodeOk.j0 k (!t209) a0_0 a0_1 a0_2 a0_3 a0_4 a0_5 a0_6)) else (impl_NodeOk.j0 k true a0_0 a0_1 a0_2 a0_3 a0_4 a0_5 a0_6))) else (impl_NodeOk.j0 k true a0_0 a0_1 a0_2 a0_3 a0_4 a0_5 a0_6))) = some r := h
  clear h
  have HC2 := Aside0.mk H
  clear H
  go_enter Tryd.func38, Tryd.ntmps38
  go_upto_region 1 with (first | ((with_reducible refine gate_dst (N := 1) rfl ?_); (try (refine gate_guard (by rfl) ?_; dsimp only)); refine box_event ?hg (N := 1) ?hd (cs := #[.string a0_0, .int .i64 a0_1, .int .i64 a0_2, .int .i64 a0_3, .string a0_4, .string a0_5, .int .i64 a0_6]) (t := 41) ?hr ?_; (case hd => rfl); (case hg => rfl); (case hr => first | (go_simp; done) | (go_simp; rfl)); intro gb206 hg w3 hbox hb; have n0_ := Aside0.mk (below_step (by repeat (first | (with_reducible first | exact HB.out | apply below_alloc | apply pw_below_drewN | apply below_drew1) | exact HB.out)) hb); have n1_ := Aside0.mk (hbox); have n2_ := Aside0.mk ((by rw [hg]; exact (below_size (by repeat (first | (with_reducible first | exact HB.out | apply below_alloc | apply pw_below_drewN | apply below_drew1) | exact HB.out))) : w.heap.size ≤ gb206)); have n3_ := Aside0.mk ((by rw [hg]; exact (below_size (by repeat (first | (with_reducible first | exact HB.out | apply below_alloc | apply pw_below_drewN | apply below_drew1) | exact HB.out))) : w.heap.size ≤ gb206)); clear HB; have HB := n0_; have BK206 := n1_; have GW206 := n2_; have GE206 := n3_; clear n0_ n1_ n2_ n3_; clear hb hbox hg))
  (try simp only [Act.put, List.setIfInBounds_toArray, List.set_cons_zero, List.set_cons_succ])
  go_cut [18] (fun v18 wc => ∃ (kq : Nat) (x18_1 : Bool), v18 = .bool x18_1 ∧ Aside0 (impl_NodeOk.j0 kq x18_1 a0_0 a0_1 a0_2 a0_3 a0_4 a0_5 a0_6 = some r) ∧ Aside0 (kq ≤ k) ∧ Aside0 (wc.heap[gb206]? = some (.cells #[.string a0_0, .int .i64 a0_1, .int .i64 a0_2, .int .i64 a0_3, .string a0_4, .string a0_5, .int .i64 a0_6] 41 (0, 0))) ∧ Aside0 (Below w.heap.size w wc))
  case first =>
    have H := HC2.out
    clear HC2
    replace H := Option.bind_eq_some_iff.mp H
    obtain ⟨t207, A40, H⟩ := H
    replace H : (if t207 = true then ((impl_within.f a0_2 0 511).bind fun t208 => (if t208 = true then ((impl_within.f a0_3 0 1000000000).bind fun t209 => (impl_NodeOk.j0 k (!t209) a0_0 a0_1 a0_2 a0_3 a0_4 a0_5 a0_6)) else (impl_NodeOk.j0 k true a0_0 a0_1 a0_2 a0_3 a0_4 a0_5 a0_6))) else (impl_NodeOk.j0 k true a0_0 a0_1 a0_2 a0_3 a0_4 a0_5 a0_6)) = some r := H
    have A4 := Aside0.mk A40
    clear A40
    by_cases c5 : t207 = true
    · subst c5
      have H1 : ((impl_within.f a0_2 0 511).bind fun t208 => (if t208 = true then ((impl_within.f a0_3 0 1000000000).bind fun t209 => (impl_NodeOk.j0 k (!t209) a0_0 a0_1 a0_2 a0_3 a0_4 a0_5 a0_6)) else (impl_NodeOk.j0 k true a0_0 a0_1 a0_2 a0_3 a0_4 a0_5 a0_6))) = some r := by rw [if_pos rfl] at H; exact H
      clear H
      have H := H1
      clear H1
      replace H := Option.bind_eq_some_iff.mp H
      obtain ⟨t208, A60, H⟩ := H
      replace H : (if t208 = true then ((impl_within.f a0_3 0 1000000000).bind fun t209 => (impl_NodeOk.j0 k (!t209) a0_0 a0_1 a0_2 a0_3 a0_4 a0_5 a0_6)) else (impl_NodeOk.j0 k true a0_0 a0_1 a0_2 a0_3 a0_4 a0_5 a0_6)) = some r := H
      have A6 := Aside0.mk A60
      clear A60
      by_cases c7 : t208 = true
      · subst c7
        have H1 : ((impl_within.f a0_3 0 1000000000).bind fun t209 => (impl_NodeOk.j0 k (!t209) a0_0 a0_1 a0_2 a0_3 a0_4 a0_5 a0_6)) = some r := by rw [if_pos rfl] at H; exact H
        clear H
        have H := H1
        clear H1
        replace H := Option.bind_eq_some_iff.mp H
        obtain ⟨t209, A80, H⟩ := H
        replace H : (impl_NodeOk.j0 k (!t209) a0_0 a0_1 a0_2 a0_3 a0_4 a0_5 a0_6) = some r := H
        have A8 := Aside0.mk A80
        clear A80
        have H' := Aside0.mk H
        clear H
        have hcz9_0 : w3.cell? ⟨gb206, 0, none⟩ = some (.string a0_0) := (blk_cell BK206.out 0).trans rfl
        have hcz9_1 : w3.cell? ⟨gb206, 1, none⟩ = some (.int .i64 a0_1) := (blk_cell BK206.out 1).trans rfl
        have hcz9_2 : w3.cell? ⟨gb206, 2, none⟩ = some (.int .i64 a0_2) := (blk_cell BK206.out 2).trans rfl
        have hcz9_3 : w3.cell? ⟨gb206, 3, none⟩ = some (.int .i64 a0_3) := (blk_cell BK206.out 3).trans rfl
        have hcz9_4 : w3.cell? ⟨gb206, 4, none⟩ = some (.string a0_4) := (blk_cell BK206.out 4).trans rfl
        have hcz9_5 : w3.cell? ⟨gb206, 5, none⟩ = some (.string a0_5) := (blk_cell BK206.out 5).trans rfl
        have hcz9_6 : w3.cell? ⟨gb206, 6, none⟩ = some (.int .i64 a0_6) := (blk_cell BK206.out 6).trans rfl
        have hfz9_0 := blk_frozen BK206.out 0
        have hfz9_1 := blk_frozen BK206.out 1
        have hfz9_2 := blk_frozen BK206.out 2
        have hfz9_3 := blk_frozen BK206.out 3
        have hfz9_4 := blk_frozen BK206.out 4
        have hfz9_5 := blk_frozen BK206.out 5
        have hfz9_6 := blk_frozen BK206.out 6
        go_wp2_with (first | ((with_reducible refine gate_callee (f := 21) rfl ?_); refine goesL_ (some 5) rfl rfl Tryd.func21 (by kernel_rfl) rfl #[.string a0_0] rfl (by (try simp only [List.map_toArray, List.map_cons, List.map_nil]); first | done | rfl | (simp only [List.length_drop, List.length_take]; rfl)) ?_; (with_reducible refine (impl_PathOk.calls (hT := Tab.below HT.out (by first | exact HB.out | (repeat (first | (with_reducible first | exact HB.out | apply below_alloc | apply pw_below_drewN | apply below_drew1) | exact HB.out)))) k a0_0 true _ A4.out).mono ?_); rintro e w10 ⟨rfl, hb⟩; refine ⟨_, rfl, ?_⟩; have n0_ := Aside0.mk (blk_below (g := gb206) (o := .cells #[.string a0_0, .int .i64 a0_1, .int .i64 a0_2, .int .i64 a0_3, .string a0_4, .string a0_5, .int .i64 a0_6] 41 (0, 0)) (by (with_reducible repeat (first | refine blk_drewN ?_ _ | refine blk_drew ?_ | refine blk_alloc ?_ _)); exact BK206.out) hb); have n1_ := Aside0.mk (below_step (by repeat (first | (with_reducible first | exact HB.out | apply below_alloc | apply pw_below_drewN | apply below_drew1 | refine below_set ?_ GE206.out) | exact HB.out)) hb); clear BK206; clear HB; have BK206 := n0_; have HB := n1_; clear n0_ n1_; (try clear hb); (try clear hb2); (try clear hk); (try clear hi); have hcz11_0 : w10.cell? ⟨gb206, 0, none⟩ = some (.string a0_0) := (blk_cell BK206.out 0).trans rfl; have hcz11_1 : w10.cell? ⟨gb206, 1, none⟩ = some (.int .i64 a0_1) := (blk_cell BK206.out 1).trans rfl; have hcz11_2 : w10.cell? ⟨gb206, 2, none⟩ = some (.int .i64 a0_2) := (blk_cell BK206.out 2).trans rfl; have hcz11_3 : w10.cell? ⟨gb206, 3, none⟩ = some (.int .i64 a0_3) := (blk_cell BK206.out 3).trans rfl; have hcz11_4 : w10.cell? ⟨gb206, 4, none⟩ = some (.string a0_4) := (blk_cell BK206.out 4).trans rfl; have hcz11_5 : w10.cell? ⟨gb206, 5, none⟩ = some (.string a0_5) := (blk_cell BK206.out 5).trans rfl; have hcz11_6 : w10.cell? ⟨gb206, 6, none⟩ = some (.int .i64 a0_6) := (blk_cell BK206.out 6).trans rfl; have hfz11_0 := blk_frozen BK206.out 0; have hfz11_1 := blk_frozen BK206.out 1; have hfz11_2 := blk_frozen BK206.out 2; have hfz11_3 := blk_frozen BK206.out 3; have hfz11_4 := blk_frozen BK206.out 4; have hfz11_5 := blk_frozen BK206.out 5; have hfz11_6 := blk_frozen BK206.out 6) | (go_at_call 55; (with_reducible refine (impl_within.calls a0_2 0 511 true _ A6.out).mono ?_); rintro e w' ⟨rfl, ⟨nd, rfl⟩⟩) | (go_at_call 55; (with_reducible refine (impl_within.calls a0_3 0 1000000000 t209 _ A8.out).mono ?_); rintro e w' ⟨rfl, ⟨nd, rfl⟩⟩))
        go_meet
        case rel => exact ⟨_, (!t209), (by first | rfl | (simp; done) | (simp [*]; done)), H', ⟨by first | omega | exact Nat.le_refl _⟩, ⟨by (with_reducible repeat (first | refine blk_drewN ?_ _ | refine blk_drew ?_ | refine blk_alloc ?_ _)); exact BK206.out⟩, ⟨by repeat (first | (with_reducible first | exact HB.out | apply below_alloc | apply pw_below_drewN | apply below_drew1 | refine below_set ?_ GE206.out) | exact HB.out)⟩⟩
      · replace c7 := Bool.eq_false_iff.mpr c7
        subst c7
        have H1 : (impl_NodeOk.j0 k true a0_0 a0_1 a0_2 a0_3 a0_4 a0_5 a0_6) = some r := by rw [if_neg (show ¬ (false = true) by decide)] at H; exact H
        clear H
        have H := H1
        clear H1
        have H' := Aside0.mk H
        clear H
        have hcz12_0 : w3.cell? ⟨gb206, 0, none⟩ = some (.string a0_0) := (blk_cell BK206.out 0).trans rfl
        have hcz12_1 : w3.cell? ⟨gb206, 1, none⟩ = some (.int .i64 a0_1) := (blk_cell BK206.out 1).trans rfl
        have hcz12_2 : w3.cell? ⟨gb206, 2, none⟩ = some (.int .i64 a0_2) := (blk_cell BK206.out 2).trans rfl
        have hcz12_3 : w3.cell? ⟨gb206, 3, none⟩ = some (.int .i64 a0_3) := (blk_cell BK206.out 3).trans rfl
        have hcz12_4 : w3.cell? ⟨gb206, 4, none⟩ = some (.string a0_4) := (blk_cell BK206.out 4).trans rfl
        have hcz12_5 : w3.cell? ⟨gb206, 5, none⟩ = some (.string a0_5) := (blk_cell BK206.out 5).trans rfl
        have hcz12_6 : w3.cell? ⟨gb206, 6, none⟩ = some (.int .i64 a0_6) := (blk_cell BK206.out 6).trans rfl
        have hfz12_0 := blk_frozen BK206.out 0
        have hfz12_1 := blk_frozen BK206.out 1
        have hfz12_2 := blk_frozen BK206.out 2
        have hfz12_3 := blk_frozen BK206.out 3
        have hfz12_4 := blk_frozen BK206.out 4
        have hfz12_5 := blk_frozen BK206.out 5
        have hfz12_6 := blk_frozen BK206.out 6
        go_wp2_with (first | ((with_reducible refine gate_callee (f := 21) rfl ?_); refine goesL_ (some 5) rfl rfl Tryd.func21 (by kernel_rfl) rfl #[.string a0_0] rfl (by (try simp only [List.map_toArray, List.map_cons, List.map_nil]); first | done | rfl | (simp only [List.length_drop, List.length_take]; rfl)) ?_; (with_reducible refine (impl_PathOk.calls (hT := Tab.below HT.out (by first | exact HB.out | (repeat (first | (with_reducible first | exact HB.out | apply below_alloc | apply pw_below_drewN | apply below_drew1) | exact HB.out)))) k a0_0 true _ A4.out).mono ?_); rintro e w13 ⟨rfl, hb⟩; refine ⟨_, rfl, ?_⟩; have n0_ := Aside0.mk (blk_below (g := gb206) (o := .cells #[.string a0_0, .int .i64 a0_1, .int .i64 a0_2, .int .i64 a0_3, .string a0_4, .string a0_5, .int .i64 a0_6] 41 (0, 0)) (by (with_reducible repeat (first | refine blk_drewN ?_ _ | refine blk_drew ?_ | refine blk_alloc ?_ _)); exact BK206.out) hb); have n1_ := Aside0.mk (below_step (by repeat (first | (with_reducible first | exact HB.out | apply below_alloc | apply pw_below_drewN | apply below_drew1 | refine below_set ?_ GE206.out) | exact HB.out)) hb); clear BK206; clear HB; have BK206 := n0_; have HB := n1_; clear n0_ n1_; (try clear hb); (try clear hb2); (try clear hk); (try clear hi); have hcz14_0 : w13.cell? ⟨gb206, 0, none⟩ = some (.string a0_0) := (blk_cell BK206.out 0).trans rfl; have hcz14_1 : w13.cell? ⟨gb206, 1, none⟩ = some (.int .i64 a0_1) := (blk_cell BK206.out 1).trans rfl; have hcz14_2 : w13.cell? ⟨gb206, 2, none⟩ = some (.int .i64 a0_2) := (blk_cell BK206.out 2).trans rfl; have hcz14_3 : w13.cell? ⟨gb206, 3, none⟩ = some (.int .i64 a0_3) := (blk_cell BK206.out 3).trans rfl; have hcz14_4 : w13.cell? ⟨gb206, 4, none⟩ = some (.string a0_4) := (blk_cell BK206.out 4).trans rfl; have hcz14_5 : w13.cell? ⟨gb206, 5, none⟩ = some (.string a0_5) := (blk_cell BK206.out 5).trans rfl; have hcz14_6 : w13.cell? ⟨gb206, 6, none⟩ = some (.int .i64 a0_6) := (blk_cell BK206.out 6).trans rfl; have hfz14_0 := blk_frozen BK206.out 0; have hfz14_1 := blk_frozen BK206.out 1; have hfz14_2 := blk_frozen BK206.out 2; have hfz14_3 := blk_frozen BK206.out 3; have hfz14_4 := blk_frozen BK206.out 4; have hfz14_5 := blk_frozen BK206.out 5; have hfz14_6 := blk_frozen BK206.out 6) | (go_at_call 55; (with_reducible refine (impl_within.calls a0_2 0 511 false _ A6.out).mono ?_); rintro e w' ⟨rfl, ⟨nd, rfl⟩⟩))
        go_meet
        case rel => exact ⟨_, (true), (by first | rfl | (simp; done) | (simp [*]; done)), H', ⟨by first | omega | exact Nat.le_refl _⟩, ⟨by (with_reducible repeat (first | refine blk_drewN ?_ _ | refine blk_drew ?_ | refine blk_alloc ?_ _)); exact BK206.out⟩, ⟨by repeat (first | (with_reducible first | exact HB.out | apply below_alloc | apply pw_below_drewN | apply below_drew1 | refine below_set ?_ GE206.out) | exact HB.out)⟩⟩
    · replace c5 := Bool.eq_false_iff.mpr c5
      subst c5
      have H1 : (impl_NodeOk.j0 k true a0_0 a0_1 a0_2 a0_3 a0_4 a0_5 a0_6) = some r := by rw [if_neg (show ¬ (false = true) by decide)] at H; exact H
      clear H
      have H := H1
      clear H1
      have H' := Aside0.mk H
      clear H
      have hcz15_0 : w3.cell? ⟨gb206, 0, none⟩ = some (.string a0_0) := (blk_cell BK206.out 0).trans rfl
      have hcz15_1 : w3.cell? ⟨gb206, 1, none⟩ = some (.int .i64 a0_1) := (blk_cell BK206.out 1).trans rfl
      have hcz15_2 : w3.cell? ⟨gb206, 2, none⟩ = some (.int .i64 a0_2) := (blk_cell BK206.out 2).trans rfl
      have hcz15_3 : w3.cell? ⟨gb206, 3, none⟩ = some (.int .i64 a0_3) := (blk_cell BK206.out 3).trans rfl
      have hcz15_4 : w3.cell? ⟨gb206, 4, none⟩ = some (.string a0_4) := (blk_cell BK206.out 4).trans rfl
      have hcz15_5 : w3.cell? ⟨gb206, 5, none⟩ = some (.string a0_5) := (blk_cell BK206.out 5).trans rfl
      have hcz15_6 : w3.cell? ⟨gb206, 6, none⟩ = some (.int .i64 a0_6) := (blk_cell BK206.out 6).trans rfl
      have hfz15_0 := blk_frozen BK206.out 0
      have hfz15_1 := blk_frozen BK206.out 1
      have hfz15_2 := blk_frozen BK206.out 2
      have hfz15_3 := blk_frozen BK206.out 3
      have hfz15_4 := blk_frozen BK206.out 4
      have hfz15_5 := blk_frozen BK206.out 5
      have hfz15_6 := blk_frozen BK206.out 6
      go_wp2_with (first | ((with_reducible refine gate_callee (f := 21) rfl ?_); refine goesL_ (some 5) rfl rfl Tryd.func21 (by kernel_rfl) rfl #[.string a0_0] rfl (by (try simp only [List.map_toArray, List.map_cons, List.map_nil]); first | done | rfl | (simp only [List.length_drop, List.length_take]; rfl)) ?_; (with_reducible refine (impl_PathOk.calls (hT := Tab.below HT.out (by first | exact HB.out | (repeat (first | (with_reducible first | exact HB.out | apply below_alloc | apply pw_below_drewN | apply below_drew1) | exact HB.out)))) k a0_0 false _ A4.out).mono ?_); rintro e w16 ⟨rfl, hb⟩; refine ⟨_, rfl, ?_⟩; have n0_ := Aside0.mk (blk_below (g := gb206) (o := .cells #[.string a0_0, .int .i64 a0_1, .int .i64 a0_2, .int .i64 a0_3, .string a0_4, .string a0_5, .int .i64 a0_6] 41 (0, 0)) (by (with_reducible repeat (first | refine blk_drewN ?_ _ | refine blk_drew ?_ | refine blk_alloc ?_ _)); exact BK206.out) hb); have n1_ := Aside0.mk (below_step (by repeat (first | (with_reducible first | exact HB.out | apply below_alloc | apply pw_below_drewN | apply below_drew1 | refine below_set ?_ GE206.out) | exact HB.out)) hb); clear BK206; clear HB; have BK206 := n0_; have HB := n1_; clear n0_ n1_; (try clear hb); (try clear hb2); (try clear hk); (try clear hi)))
      go_meet
      case rel => exact ⟨_, (true), (by first | rfl | (simp; done) | (simp [*]; done)), H', ⟨by first | omega | exact Nat.le_refl _⟩, ⟨by (with_reducible repeat (first | refine blk_drewN ?_ _ | refine blk_drew ?_ | refine blk_alloc ?_ _)); exact BK206.out⟩, ⟨by repeat (first | (with_reducible first | exact HB.out | apply below_alloc | apply pw_below_drewN | apply below_drew1 | refine below_set ?_ GE206.out) | exact HB.out)⟩⟩
  case rest =>
    clear HC2
    try clear c2
    try clear p2
    try clear c3
    try clear c5
    try clear c7
    try clear hcz11_0
    try clear hcz11_1
    try clear hcz11_2
    try clear hcz11_3
    try clear hcz11_4
    try clear hcz11_5
    try clear hcz11_6
    try clear hcz12_0
    try clear hcz12_1
    try clear hcz12_2
    try clear hcz12_3
    try clear hcz12_4
    try clear hcz12_5
    try clear hcz12_6
    try clear hcz14_0
    try clear hcz14_1
    try clear hcz14_2
    try clear hcz14_3
    try clear hcz14_4
    try clear hcz14_5
    try clear hcz14_6
    try clear hcz15_0
    try clear hcz15_1
    try clear hcz15_2
    try clear hcz15_3
    try clear hcz15_4
    try clear hcz15_5
    try clear hcz15_6
    try clear hcz9_0
    try clear hcz9_1
    try clear hcz9_2
    try clear hcz9_3
    try clear hcz9_4
    try clear hcz9_5
    try clear hcz9_6
    try clear hfz11_0
    try clear hfz11_1
    try clear hfz11_2
    try clear hfz11_3
    try clear hfz11_4
    try clear hfz11_5
    try clear hfz11_6
    try clear hfz12_0
    try clear hfz12_1
    try clear hfz12_2
    try clear hfz12_3
    try clear hfz12_4
    try clear hfz12_5
    try clear hfz12_6
    try clear hfz14_0
    try clear hfz14_1
    try clear hfz14_2
    try clear hfz14_3
    try clear hfz14_4
    try clear hfz14_5
    try clear hfz14_6
    try clear hfz15_0
    try clear hfz15_1
    try clear hfz15_2
    try clear hfz15_3
    try clear hfz15_4
    try clear hfz15_5
    try clear hfz15_6
    try clear hfz9_0
    try clear hfz9_1
    try clear hfz9_2
    try clear hfz9_3
    try clear hfz9_4
    try clear hfz9_5
    try clear hfz9_6
    obtain ⟨kq, x18_1, rfl, HA, HJ1, BK206, HB⟩ := hcut
    cases kq with
    | zero => exact absurd HA.out (by simp [impl_NodeOk.j0])
    | succ kj1 =>
      have H := HA.out
      clear HA
      simp only [impl_NodeOk.j0] at H
      by_cases c17 : x18_1 = true
      · subst c17
        have H1 : (some false) = some r := by rw [if_pos rfl] at H; exact H
        clear H
        have H := H1
        clear H1
        obtain rfl := Option.some.inj H
        go_wp2
        go_ret
        exact ⟨by first | rfl | (simp [errW_none, errW_some] <;> rfl) | (simp [*, errW_none, errW_some] <;> rfl), by repeat (first | (with_reducible first | exact HB.out | apply below_alloc | apply pw_below_drewN | apply below_drew1 | refine below_set ?_ GE206.out) | exact HB.out)⟩
      · replace c17 := Bool.eq_false_iff.mpr c17
        subst c17
        have H1 : (if a0_1 = 0 then (if a0_4.toList = ([] : List UInt8) then (if a0_5.toList = ([] : List UInt8) then (some (a0_6 == 0)) else (some false)) else (some false)) else (if a0_1 = 1 then (if (a0_4.size : Int) ≤ 20000 then (if a0_5.toList = ([] : List UInt8) then ((impl_within.f a0_6 0 200).bind fun t210 => (some t210)) else (some false)) else (some false)) else (if a0_1 = 2 then (if a0_4.toList = ([] : List UInt8) then (if a0_2 = 0 then (if a0_6 = 0 then ((impl_within.f (a0_5.size : Int) 1 60).bind fun t211 => (if t211 = true then ((strings_Contains.f a0_5 (⟨#[10]⟩ : ByteArray)).bind fun t212 => (some (!t212))) else (some false))) else (some false)) else (some false)) else (some false)) else (some false)))) = some r := by rw [if_neg (show ¬ (false = true) by decide)] at H; exact H
        clear H
        have H := H1
        clear H1
        by_cases c18 : a0_1 = 0
        · rw [if_pos c18] at H
          have c18b0 : (a0_1 == 0) = true := beq_iff_eq.mpr c18
          have c18b1 : (a0_1 != 0) = false := bne_eq_false_iff_eq.mpr c18
          clear c18
          by_cases c19 : a0_4.toList = ([] : List UInt8)
          · rw [if_pos c19] at H
            have c19b0 : (a0_4.toList == ([] : List UInt8)) = true := beq_iff_eq.mpr c19
            try (have c19b0e : a0_4.toList.isEmpty = true := by have h_ := c19b0; revert h_; cases a0_4.toList <;> simp)
            have c19b1 : (a0_4.toList != ([] : List UInt8)) = false := bne_eq_false_iff_eq.mpr c19
            clear c19
            by_cases c20 : a0_5.toList = ([] : List UInt8)
            · rw [if_pos c20] at H
              have c20b0 : (a0_5.toList == ([] : List UInt8)) = true := beq_iff_eq.mpr c20
              try (have c20b0e : a0_5.toList.isEmpty = true := by have h_ := c20b0; revert h_; cases a0_5.toList <;> simp)
              have c20b1 : (a0_5.toList != ([] : List UInt8)) = false := bne_eq_false_iff_eq.mpr c20
              clear c20
              obtain rfl := Option.some.inj H
              have hcz21_0 : wc.cell? ⟨gb206, 0, none⟩ = some (.string a0_0) := (blk_cell BK206.out 0).trans rfl
              have hcz21_1 : wc.cell? ⟨gb206, 1, none⟩ = some (.int .i64 a0_1) := (blk_cell BK206.out 1).trans rfl
              have hcz21_2 : wc.cell? ⟨gb206, 2, none⟩ = some (.int .i64 a0_2) := (blk_cell BK206.out 2).trans rfl
              have hcz21_3 : wc.cell? ⟨gb206, 3, none⟩ = some (.int .i64 a0_3) := (blk_cell BK206.out 3).trans rfl
              have hcz21_4 : wc.cell? ⟨gb206, 4, none⟩ = some (.string a0_4) := (blk_cell BK206.out 4).trans rfl
              have hcz21_5 : wc.cell? ⟨gb206, 5, none⟩ = some (.string a0_5) := (blk_cell BK206.out 5).trans rfl
              have hcz21_6 : wc.cell? ⟨gb206, 6, none⟩ = some (.int .i64 a0_6) := (blk_cell BK206.out 6).trans rfl
              have hfz21_0 := blk_frozen BK206.out 0
              have hfz21_1 := blk_frozen BK206.out 1
              have hfz21_2 := blk_frozen BK206.out 2
              have hfz21_3 := blk_frozen BK206.out 3
              have hfz21_4 := blk_frozen BK206.out 4
              have hfz21_5 := blk_frozen BK206.out 5
              have hfz21_6 := blk_frozen BK206.out 6
              go_wp2
              go_ret
              exact ⟨by first | rfl | (simp [errW_none, errW_some] <;> rfl) | (simp [*, errW_none, errW_some] <;> rfl), by repeat (first | (with_reducible first | exact HB.out | apply below_alloc | apply pw_below_drewN | apply below_drew1 | refine below_set ?_ GE206.out) | exact HB.out)⟩
            · rw [if_neg c20] at H
              have c20b0 : (a0_5.toList == ([] : List UInt8)) = false := beq_eq_false_iff_ne.mpr c20
              try (have c20b0e : a0_5.toList.isEmpty = false := by have h_ := c20b0; revert h_; cases a0_5.toList <;> simp)
              have c20b1 : (a0_5.toList != ([] : List UInt8)) = true := bne_iff_ne.mpr c20
              obtain rfl := Option.some.inj H
              have hcz22_0 : wc.cell? ⟨gb206, 0, none⟩ = some (.string a0_0) := (blk_cell BK206.out 0).trans rfl
              have hcz22_1 : wc.cell? ⟨gb206, 1, none⟩ = some (.int .i64 a0_1) := (blk_cell BK206.out 1).trans rfl
              have hcz22_2 : wc.cell? ⟨gb206, 2, none⟩ = some (.int .i64 a0_2) := (blk_cell BK206.out 2).trans rfl
              have hcz22_3 : wc.cell? ⟨gb206, 3, none⟩ = some (.int .i64 a0_3) := (blk_cell BK206.out 3).trans rfl
              have hcz22_4 : wc.cell? ⟨gb206, 4, none⟩ = some (.string a0_4) := (blk_cell BK206.out 4).trans rfl
              have hcz22_5 : wc.cell? ⟨gb206, 5, none⟩ = some (.string a0_5) := (blk_cell BK206.out 5).trans rfl
              have hcz22_6 : wc.cell? ⟨gb206, 6, none⟩ = some (.int .i64 a0_6) := (blk_cell BK206.out 6).trans rfl
              have hfz22_0 := blk_frozen BK206.out 0
              have hfz22_1 := blk_frozen BK206.out 1
              have hfz22_2 := blk_frozen BK206.out 2
              have hfz22_3 := blk_frozen BK206.out 3
              have hfz22_4 := blk_frozen BK206.out 4
              have hfz22_5 := blk_frozen BK206.out 5
              have hfz22_6 := blk_frozen BK206.out 6
              go_wp2
              go_ret
              exact ⟨by first | rfl | (simp [errW_none, errW_some] <;> rfl) | (simp [*, errW_none, errW_some] <;> rfl), by repeat (first | (with_reducible first | exact HB.out | apply below_alloc | apply pw_below_drewN | apply below_drew1 | refine below_set ?_ GE206.out) | exact HB.out)⟩
          · rw [if_neg c19] at H
            have c19b0 : (a0_4.toList == ([] : List UInt8)) = false := beq_eq_false_iff_ne.mpr c19
            try (have c19b0e : a0_4.toList.isEmpty = false := by have h_ := c19b0; revert h_; cases a0_4.toList <;> simp)
            have c19b1 : (a0_4.toList != ([] : List UInt8)) = true := bne_iff_ne.mpr c19
            obtain rfl := Option.some.inj H
            have hcz23_0 : wc.cell? ⟨gb206, 0, none⟩ = some (.string a0_0) := (blk_cell BK206.out 0).trans rfl
            have hcz23_1 : wc.cell? ⟨gb206, 1, none⟩ = some (.int .i64 a0_1) := (blk_cell BK206.out 1).trans rfl
            have hcz23_2 : wc.cell? ⟨gb206, 2, none⟩ = some (.int .i64 a0_2) := (blk_cell BK206.out 2).trans rfl
            have hcz23_3 : wc.cell? ⟨gb206, 3, none⟩ = some (.int .i64 a0_3) := (blk_cell BK206.out 3).trans rfl
            have hcz23_4 : wc.cell? ⟨gb206, 4, none⟩ = some (.string a0_4) := (blk_cell BK206.out 4).trans rfl
            have hcz23_5 : wc.cell? ⟨gb206, 5, none⟩ = some (.string a0_5) := (blk_cell BK206.out 5).trans rfl
            have hcz23_6 : wc.cell? ⟨gb206, 6, none⟩ = some (.int .i64 a0_6) := (blk_cell BK206.out 6).trans rfl
            have hfz23_0 := blk_frozen BK206.out 0
            have hfz23_1 := blk_frozen BK206.out 1
            have hfz23_2 := blk_frozen BK206.out 2
            have hfz23_3 := blk_frozen BK206.out 3
            have hfz23_4 := blk_frozen BK206.out 4
            have hfz23_5 := blk_frozen BK206.out 5
            have hfz23_6 := blk_frozen BK206.out 6
            go_wp2
            go_ret
            exact ⟨by first | rfl | (simp [errW_none, errW_some] <;> rfl) | (simp [*, errW_none, errW_some] <;> rfl), by repeat (first | (with_reducible first | exact HB.out | apply below_alloc | apply pw_below_drewN | apply below_drew1 | refine below_set ?_ GE206.out) | exact HB.out)⟩
        · rw [if_neg c18] at H
          have c18b0 : (a0_1 == 0) = false := beq_eq_false_iff_ne.mpr c18
          have c18b1 : (a0_1 != 0) = true := bne_iff_ne.mpr c18
          by_cases c24 : a0_1 = 1
          · rw [if_pos c24] at H
            have c24b0 : (a0_1 == 1) = true := beq_iff_eq.mpr c24
            have c24b1 : (a0_1 != 1) = false := bne_eq_false_iff_eq.mpr c24
            clear c24
            by_cases c25 : (a0_4.size : Int) ≤ 20000
            · rw [if_pos c25] at H
              have c25b0 : decide ((a0_4.size : Int) ≤ 20000) = true := decide_eq_true c25
              have c25b1 : decide (a0_4.size ≤ 20000) = true := decide_eq_true (by omega)
              clear c25
              by_cases c26 : a0_5.toList = ([] : List UInt8)
              · rw [if_pos c26] at H
                have c26b0 : (a0_5.toList == ([] : List UInt8)) = true := beq_iff_eq.mpr c26
                try (have c26b0e : a0_5.toList.isEmpty = true := by have h_ := c26b0; revert h_; cases a0_5.toList <;> simp)
                have c26b1 : (a0_5.toList != ([] : List UInt8)) = false := bne_eq_false_iff_eq.mpr c26
                clear c26
                replace H := Option.bind_eq_some_iff.mp H
                obtain ⟨t210, A270, H⟩ := H
                replace H : (some t210) = some r := H
                have A27 := Aside0.mk A270
                clear A270
                obtain rfl := Option.some.inj H
                have hcz28_0 : wc.cell? ⟨gb206, 0, none⟩ = some (.string a0_0) := (blk_cell BK206.out 0).trans rfl
                have hcz28_1 : wc.cell? ⟨gb206, 1, none⟩ = some (.int .i64 a0_1) := (blk_cell BK206.out 1).trans rfl
                have hcz28_2 : wc.cell? ⟨gb206, 2, none⟩ = some (.int .i64 a0_2) := (blk_cell BK206.out 2).trans rfl
                have hcz28_3 : wc.cell? ⟨gb206, 3, none⟩ = some (.int .i64 a0_3) := (blk_cell BK206.out 3).trans rfl
                have hcz28_4 : wc.cell? ⟨gb206, 4, none⟩ = some (.string a0_4) := (blk_cell BK206.out 4).trans rfl
                have hcz28_5 : wc.cell? ⟨gb206, 5, none⟩ = some (.string a0_5) := (blk_cell BK206.out 5).trans rfl
                have hcz28_6 : wc.cell? ⟨gb206, 6, none⟩ = some (.int .i64 a0_6) := (blk_cell BK206.out 6).trans rfl
                have hfz28_0 := blk_frozen BK206.out 0
                have hfz28_1 := blk_frozen BK206.out 1
                have hfz28_2 := blk_frozen BK206.out 2
                have hfz28_3 := blk_frozen BK206.out 3
                have hfz28_4 := blk_frozen BK206.out 4
                have hfz28_5 := blk_frozen BK206.out 5
                have hfz28_6 := blk_frozen BK206.out 6
                go_wp2_with (first | (go_at_call 55; (with_reducible refine (impl_within.calls a0_6 0 200 t210 _ A27.out).mono ?_); rintro e w' ⟨rfl, ⟨nd, rfl⟩⟩))
                go_ret
                exact ⟨by first | rfl | (simp [errW_none, errW_some] <;> rfl) | (simp [*, errW_none, errW_some] <;> rfl), by repeat (first | (with_reducible first | exact HB.out | apply below_alloc | apply pw_below_drewN | apply below_drew1 | refine below_set ?_ GE206.out) | exact HB.out)⟩
              · rw [if_neg c26] at H
                have c26b0 : (a0_5.toList == ([] : List UInt8)) = false := beq_eq_false_iff_ne.mpr c26
                try (have c26b0e : a0_5.toList.isEmpty = false := by have h_ := c26b0; revert h_; cases a0_5.toList <;> simp)
                have c26b1 : (a0_5.toList != ([] : List UInt8)) = true := bne_iff_ne.mpr c26
                obtain rfl := Option.some.inj H
                have hcz29_0 : wc.cell? ⟨gb206, 0, none⟩ = some (.string a0_0) := (blk_cell BK206.out 0).trans rfl
                have hcz29_1 : wc.cell? ⟨gb206, 1, none⟩ = some (.int .i64 a0_1) := (blk_cell BK206.out 1).trans rfl
                have hcz29_2 : wc.cell? ⟨gb206, 2, none⟩ = some (.int .i64 a0_2) := (blk_cell BK206.out 2).trans rfl
                have hcz29_3 : wc.cell? ⟨gb206, 3, none⟩ = some (.int .i64 a0_3) := (blk_cell BK206.out 3).trans rfl
                have hcz29_4 : wc.cell? ⟨gb206, 4, none⟩ = some (.string a0_4) := (blk_cell BK206.out 4).trans rfl
                have hcz29_5 : wc.cell? ⟨gb206, 5, none⟩ = some (.string a0_5) := (blk_cell BK206.out 5).trans rfl
                have hcz29_6 : wc.cell? ⟨gb206, 6, none⟩ = some (.int .i64 a0_6) := (blk_cell BK206.out 6).trans rfl
                have hfz29_0 := blk_frozen BK206.out 0
                have hfz29_1 := blk_frozen BK206.out 1
                have hfz29_2 := blk_frozen BK206.out 2
                have hfz29_3 := blk_frozen BK206.out 3
                have hfz29_4 := blk_frozen BK206.out 4
                have hfz29_5 := blk_frozen BK206.out 5
                have hfz29_6 := blk_frozen BK206.out 6
                go_wp2
                go_ret
                exact ⟨by first | rfl | (simp [errW_none, errW_some] <;> rfl) | (simp [*, errW_none, errW_some] <;> rfl), by repeat (first | (with_reducible first | exact HB.out | apply below_alloc | apply pw_below_drewN | apply below_drew1 | refine below_set ?_ GE206.out) | exact HB.out)⟩
            · rw [if_neg c25] at H
              have c25b0 : decide ((a0_4.size : Int) ≤ 20000) = false := decide_eq_false c25
              have c25b1 : decide (a0_4.size ≤ 20000) = false := decide_eq_false (by omega)
              clear c25
              obtain rfl := Option.some.inj H
              have hcz30_0 : wc.cell? ⟨gb206, 0, none⟩ = some (.string a0_0) := (blk_cell BK206.out 0).trans rfl
              have hcz30_1 : wc.cell? ⟨gb206, 1, none⟩ = some (.int .i64 a0_1) := (blk_cell BK206.out 1).trans rfl
              have hcz30_2 : wc.cell? ⟨gb206, 2, none⟩ = some (.int .i64 a0_2) := (blk_cell BK206.out 2).trans rfl
              have hcz30_3 : wc.cell? ⟨gb206, 3, none⟩ = some (.int .i64 a0_3) := (blk_cell BK206.out 3).trans rfl
              have hcz30_4 : wc.cell? ⟨gb206, 4, none⟩ = some (.string a0_4) := (blk_cell BK206.out 4).trans rfl
              have hcz30_5 : wc.cell? ⟨gb206, 5, none⟩ = some (.string a0_5) := (blk_cell BK206.out 5).trans rfl
              have hcz30_6 : wc.cell? ⟨gb206, 6, none⟩ = some (.int .i64 a0_6) := (blk_cell BK206.out 6).trans rfl
              have hfz30_0 := blk_frozen BK206.out 0
              have hfz30_1 := blk_frozen BK206.out 1
              have hfz30_2 := blk_frozen BK206.out 2
              have hfz30_3 := blk_frozen BK206.out 3
              have hfz30_4 := blk_frozen BK206.out 4
              have hfz30_5 := blk_frozen BK206.out 5
              have hfz30_6 := blk_frozen BK206.out 6
              go_wp2
              go_ret
              exact ⟨by first | rfl | (simp [errW_none, errW_some] <;> rfl) | (simp [*, errW_none, errW_some] <;> rfl), by repeat (first | (with_reducible first | exact HB.out | apply below_alloc | apply pw_below_drewN | apply below_drew1 | refine below_set ?_ GE206.out) | exact HB.out)⟩
          · rw [if_neg c24] at H
            have c24b0 : (a0_1 == 1) = false := beq_eq_false_iff_ne.mpr c24
            have c24b1 : (a0_1 != 1) = true := bne_iff_ne.mpr c24
            by_cases c31 : a0_1 = 2
            · rw [if_pos c31] at H
              have c31b0 : (a0_1 == 2) = true := beq_iff_eq.mpr c31
              have c31b1 : (a0_1 != 2) = false := bne_eq_false_iff_eq.mpr c31
              clear c31
              by_cases c32 : a0_4.toList = ([] : List UInt8)
              · rw [if_pos c32] at H
                have c32b0 : (a0_4.toList == ([] : List UInt8)) = true := beq_iff_eq.mpr c32
                try (have c32b0e : a0_4.toList.isEmpty = true := by have h_ := c32b0; revert h_; cases a0_4.toList <;> simp)
                have c32b1 : (a0_4.toList != ([] : List UInt8)) = false := bne_eq_false_iff_eq.mpr c32
                clear c32
                by_cases c33 : a0_2 = 0
                · rw [if_pos c33] at H
                  have c33b0 : (a0_2 == 0) = true := beq_iff_eq.mpr c33
                  have c33b1 : (a0_2 != 0) = false := bne_eq_false_iff_eq.mpr c33
                  clear c33
                  by_cases c34 : a0_6 = 0
                  · rw [if_pos c34] at H
                    have c34b0 : (a0_6 == 0) = true := beq_iff_eq.mpr c34
                    have c34b1 : (a0_6 != 0) = false := bne_eq_false_iff_eq.mpr c34
                    clear c34
                    replace H := Option.bind_eq_some_iff.mp H
                    obtain ⟨t211, A350, H⟩ := H
                    replace H : (if t211 = true then ((strings_Contains.f a0_5 (⟨#[10]⟩ : ByteArray)).bind fun t212 => (some (!t212))) else (some false)) = some r := H
                    have A35 := Aside0.mk A350
                    clear A350
                    by_cases c36 : t211 = true
                    · subst c36
                      have H1 : ((strings_Contains.f a0_5 (⟨#[10]⟩ : ByteArray)).bind fun t212 => (some (!t212))) = some r := by rw [if_pos rfl] at H; exact H
                      clear H
                      have H := H1
                      clear H1
                      replace H := Option.bind_eq_some_iff.mp H
                      obtain ⟨t212, A370, H⟩ := H
                      replace H : (some (!t212)) = some r := H
                      have A37 := Aside0.mk A370
                      clear A370
                      obtain rfl := Option.some.inj H
                      have hcz38_0 : wc.cell? ⟨gb206, 0, none⟩ = some (.string a0_0) := (blk_cell BK206.out 0).trans rfl
                      have hcz38_1 : wc.cell? ⟨gb206, 1, none⟩ = some (.int .i64 a0_1) := (blk_cell BK206.out 1).trans rfl
                      have hcz38_2 : wc.cell? ⟨gb206, 2, none⟩ = some (.int .i64 a0_2) := (blk_cell BK206.out 2).trans rfl
                      have hcz38_3 : wc.cell? ⟨gb206, 3, none⟩ = some (.int .i64 a0_3) := (blk_cell BK206.out 3).trans rfl
                      have hcz38_4 : wc.cell? ⟨gb206, 4, none⟩ = some (.string a0_4) := (blk_cell BK206.out 4).trans rfl
                      have hcz38_5 : wc.cell? ⟨gb206, 5, none⟩ = some (.string a0_5) := (blk_cell BK206.out 5).trans rfl
                      have hcz38_6 : wc.cell? ⟨gb206, 6, none⟩ = some (.int .i64 a0_6) := (blk_cell BK206.out 6).trans rfl
                      have hfz38_0 := blk_frozen BK206.out 0
                      have hfz38_1 := blk_frozen BK206.out 1
                      have hfz38_2 := blk_frozen BK206.out 2
                      have hfz38_3 := blk_frozen BK206.out 3
                      have hfz38_4 := blk_frozen BK206.out 4
                      have hfz38_5 := blk_frozen BK206.out 5
                      have hfz38_6 := blk_frozen BK206.out 6
                      go_wp2_with (first | (go_at_call 55; (with_reducible refine (impl_within.calls (a0_5.size : Int) 1 60 true _ A35.out).mono ?_); rintro e w' ⟨rfl, ⟨nd, rfl⟩⟩) | (go_at_call 56; (with_reducible refine (strings_Contains.calls a0_5 (⟨#[10]⟩ : ByteArray) t212 _ A37.out).mono ?_); rintro e w' ⟨rfl, ⟨nd, rfl⟩⟩))
                      go_ret
                      exact ⟨by first | rfl | (simp [errW_none, errW_some] <;> rfl) | (simp [*, errW_none, errW_some] <;> rfl), by repeat (first | (with_reducible first | exact HB.out | apply below_alloc | apply pw_below_drewN | apply below_drew1 | refine below_set ?_ GE206.out) | exact HB.out)⟩
                    · replace c36 := Bool.eq_false_iff.mpr c36
                      subst c36
                      have H1 : (some false) = some r := by rw [if_neg (show ¬ (false = true) by decide)] at H; exact H
                      clear H
                      have H := H1
                      clear H1
                      obtain rfl := Option.some.inj H
                      have hcz39_0 : wc.cell? ⟨gb206, 0, none⟩ = some (.string a0_0) := (blk_cell BK206.out 0).trans rfl
                      have hcz39_1 : wc.cell? ⟨gb206, 1, none⟩ = some (.int .i64 a0_1) := (blk_cell BK206.out 1).trans rfl
                      have hcz39_2 : wc.cell? ⟨gb206, 2, none⟩ = some (.int .i64 a0_2) := (blk_cell BK206.out 2).trans rfl
                      have hcz39_3 : wc.cell? ⟨gb206, 3, none⟩ = some (.int .i64 a0_3) := (blk_cell BK206.out 3).trans rfl
                      have hcz39_4 : wc.cell? ⟨gb206, 4, none⟩ = some (.string a0_4) := (blk_cell BK206.out 4).trans rfl
                      have hcz39_5 : wc.cell? ⟨gb206, 5, none⟩ = some (.string a0_5) := (blk_cell BK206.out 5).trans rfl
                      have hcz39_6 : wc.cell? ⟨gb206, 6, none⟩ = some (.int .i64 a0_6) := (blk_cell BK206.out 6).trans rfl
                      have hfz39_0 := blk_frozen BK206.out 0
                      have hfz39_1 := blk_frozen BK206.out 1
                      have hfz39_2 := blk_frozen BK206.out 2
                      have hfz39_3 := blk_frozen BK206.out 3
                      have hfz39_4 := blk_frozen BK206.out 4
                      have hfz39_5 := blk_frozen BK206.out 5
                      have hfz39_6 := blk_frozen BK206.out 6
                      go_wp2_with (first | (go_at_call 55; (with_reducible refine (impl_within.calls (a0_5.size : Int) 1 60 false _ A35.out).mono ?_); rintro e w' ⟨rfl, ⟨nd, rfl⟩⟩))
                      go_ret
                      exact ⟨by first | rfl | (simp [errW_none, errW_some] <;> rfl) | (simp [*, errW_none, errW_some] <;> rfl), by repeat (first | (with_reducible first | exact HB.out | apply below_alloc | apply pw_below_drewN | apply below_drew1 | refine below_set ?_ GE206.out) | exact HB.out)⟩
                  · rw [if_neg c34] at H
                    have c34b0 : (a0_6 == 0) = false := beq_eq_false_iff_ne.mpr c34
                    have c34b1 : (a0_6 != 0) = true := bne_iff_ne.mpr c34
                    obtain rfl := Option.some.inj H
                    have hcz40_0 : wc.cell? ⟨gb206, 0, none⟩ = some (.string a0_0) := (blk_cell BK206.out 0).trans rfl
                    have hcz40_1 : wc.cell? ⟨gb206, 1, none⟩ = some (.int .i64 a0_1) := (blk_cell BK206.out 1).trans rfl
                    have hcz40_2 : wc.cell? ⟨gb206, 2, none⟩ = some (.int .i64 a0_2) := (blk_cell BK206.out 2).trans rfl
                    have hcz40_3 : wc.cell? ⟨gb206, 3, none⟩ = some (.int .i64 a0_3) := (blk_cell BK206.out 3).trans rfl
                    have hcz40_4 : wc.cell? ⟨gb206, 4, none⟩ = some (.string a0_4) := (blk_cell BK206.out 4).trans rfl
                    have hcz40_5 : wc.cell? ⟨gb206, 5, none⟩ = some (.string a0_5) := (blk_cell BK206.out 5).trans rfl
                    have hcz40_6 : wc.cell? ⟨gb206, 6, none⟩ = some (.int .i64 a0_6) := (blk_cell BK206.out 6).trans rfl
                    have hfz40_0 := blk_frozen BK206.out 0
                    have hfz40_1 := blk_frozen BK206.out 1
                    have hfz40_2 := blk_frozen BK206.out 2
                    have hfz40_3 := blk_frozen BK206.out 3
                    have hfz40_4 := blk_frozen BK206.out 4
                    have hfz40_5 := blk_frozen BK206.out 5
                    have hfz40_6 := blk_frozen BK206.out 6
                    go_wp2
                    go_ret
                    exact ⟨by first | rfl | (simp [errW_none, errW_some] <;> rfl) | (simp [*, errW_none, errW_some] <;> rfl), by repeat (first | (with_reducible first | exact HB.out | apply below_alloc | apply pw_below_drewN | apply below_drew1 | refine below_set ?_ GE206.out) | exact HB.out)⟩
                · rw [if_neg c33] at H
                  have c33b0 : (a0_2 == 0) = false := beq_eq_false_iff_ne.mpr c33
                  have c33b1 : (a0_2 != 0) = true := bne_iff_ne.mpr c33
                  obtain rfl := Option.some.inj H
                  have hcz41_0 : wc.cell? ⟨gb206, 0, none⟩ = some (.string a0_0) := (blk_cell BK206.out 0).trans rfl
                  have hcz41_1 : wc.cell? ⟨gb206, 1, none⟩ = some (.int .i64 a0_1) := (blk_cell BK206.out 1).trans rfl
                  have hcz41_2 : wc.cell? ⟨gb206, 2, none⟩ = some (.int .i64 a0_2) := (blk_cell BK206.out 2).trans rfl
                  have hcz41_3 : wc.cell? ⟨gb206, 3, none⟩ = some (.int .i64 a0_3) := (blk_cell BK206.out 3).trans rfl
                  have hcz41_4 : wc.cell? ⟨gb206, 4, none⟩ = some (.string a0_4) := (blk_cell BK206.out 4).trans rfl
                  have hcz41_5 : wc.cell? ⟨gb206, 5, none⟩ = some (.string a0_5) := (blk_cell BK206.out 5).trans rfl
                  have hcz41_6 : wc.cell? ⟨gb206, 6, none⟩ = some (.int .i64 a0_6) := (blk_cell BK206.out 6).trans rfl
                  have hfz41_0 := blk_frozen BK206.out 0
                  have hfz41_1 := blk_frozen BK206.out 1
                  have hfz41_2 := blk_frozen BK206.out 2
                  have hfz41_3 := blk_frozen BK206.out 3
                  have hfz41_4 := blk_frozen BK206.out 4
                  have hfz41_5 := blk_frozen BK206.out 5
                  have hfz41_6 := blk_frozen BK206.out 6
                  go_wp2
                  go_ret
                  exact ⟨by first | rfl | (simp [errW_none, errW_some] <;> rfl) | (simp [*, errW_none, errW_some] <;> rfl), by repeat (first | (with_reducible first | exact HB.out | apply below_alloc | apply pw_below_drewN | apply below_drew1 | refine below_set ?_ GE206.out) | exact HB.out)⟩
              · rw [if_neg c32] at H
                have c32b0 : (a0_4.toList == ([] : List UInt8)) = false := beq_eq_false_iff_ne.mpr c32
                try (have c32b0e : a0_4.toList.isEmpty = false := by have h_ := c32b0; revert h_; cases a0_4.toList <;> simp)
                have c32b1 : (a0_4.toList != ([] : List UInt8)) = true := bne_iff_ne.mpr c32
                obtain rfl := Option.some.inj H
                have hcz42_0 : wc.cell? ⟨gb206, 0, none⟩ = some (.string a0_0) := (blk_cell BK206.out 0).trans rfl
                have hcz42_1 : wc.cell? ⟨gb206, 1, none⟩ = some (.int .i64 a0_1) := (blk_cell BK206.out 1).trans rfl
                have hcz42_2 : wc.cell? ⟨gb206, 2, none⟩ = some (.int .i64 a0_2) := (blk_cell BK206.out 2).trans rfl
                have hcz42_3 : wc.cell? ⟨gb206, 3, none⟩ = some (.int .i64 a0_3) := (blk_cell BK206.out 3).trans rfl
                have hcz42_4 : wc.cell? ⟨gb206, 4, none⟩ = some (.string a0_4) := (blk_cell BK206.out 4).trans rfl
                have hcz42_5 : wc.cell? ⟨gb206, 5, none⟩ = some (.string a0_5) := (blk_cell BK206.out 5).trans rfl
                have hcz42_6 : wc.cell? ⟨gb206, 6, none⟩ = some (.int .i64 a0_6) := (blk_cell BK206.out 6).trans rfl
                have hfz42_0 := blk_frozen BK206.out 0
                have hfz42_1 := blk_frozen BK206.out 1
                have hfz42_2 := blk_frozen BK206.out 2
                have hfz42_3 := blk_frozen BK206.out 3
                have hfz42_4 := blk_frozen BK206.out 4
                have hfz42_5 := blk_frozen BK206.out 5
                have hfz42_6 := blk_frozen BK206.out 6
                go_wp2
                go_ret
                exact ⟨by first | rfl | (simp [errW_none, errW_some] <;> rfl) | (simp [*, errW_none, errW_some] <;> rfl), by repeat (first | (with_reducible first | exact HB.out | apply below_alloc | apply pw_below_drewN | apply below_drew1 | refine below_set ?_ GE206.out) | exact HB.out)⟩
            · rw [if_neg c31] at H
              have c31b0 : (a0_1 == 2) = false := beq_eq_false_iff_ne.mpr c31
              have c31b1 : (a0_1 != 2) = true := bne_iff_ne.mpr c31
              obtain rfl := Option.some.inj H
              have hcz43_0 : wc.cell? ⟨gb206, 0, none⟩ = some (.string a0_0) := (blk_cell BK206.out 0).trans rfl
              have hcz43_1 : wc.cell? ⟨gb206, 1, none⟩ = some (.int .i64 a0_1) := (blk_cell BK206.out 1).trans rfl
              have hcz43_2 : wc.cell? ⟨gb206, 2, none⟩ = some (.int .i64 a0_2) := (blk_cell BK206.out 2).trans rfl
              have hcz43_3 : wc.cell? ⟨gb206, 3, none⟩ = some (.int .i64 a0_3) := (blk_cell BK206.out 3).trans rfl
              have hcz43_4 : wc.cell? ⟨gb206, 4, none⟩ = some (.string a0_4) := (blk_cell BK206.out 4).trans rfl
              have hcz43_5 : wc.cell? ⟨gb206, 5, none⟩ = some (.string a0_5) := (blk_cell BK206.out 5).trans rfl
              have hcz43_6 : wc.cell? ⟨gb206, 6, none⟩ = some (.int .i64 a0_6) := (blk_cell BK206.out 6).trans rfl
              have hfz43_0 := blk_frozen BK206.out 0
              have hfz43_1 := blk_frozen BK206.out 1
              have hfz43_2 := blk_frozen BK206.out 2
              have hfz43_3 := blk_frozen BK206.out 3
              have hfz43_4 := blk_frozen BK206.out 4
              have hfz43_5 := blk_frozen BK206.out 5
              have hfz43_6 := blk_frozen BK206.out 6
              go_wp2
              go_ret
              exact ⟨by first | rfl | (simp [errW_none, errW_some] <;> rfl) | (simp [*, errW_none, errW_some] <;> rfl), by repeat (first | (with_reducible first | exact HB.out | apply below_alloc | apply pw_below_drewN | apply below_drew1 | refine below_set ?_ GE206.out) | exact HB.out)⟩

end Go.Proofs.YtnfihjebbhjgjaaDoor.PPa
