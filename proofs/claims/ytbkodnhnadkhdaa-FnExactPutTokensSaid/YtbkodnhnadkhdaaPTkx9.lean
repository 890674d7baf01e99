-- Made by a program of this session (tools/pr.sh) out of the translation; Lean checks it.
import Derived.Test.YtbkodnhnadkhdaaPTkx0
import Derived.Test.YtbkodnhnadkhdaaPTkx7
import Derived.Test.YtbkodnhnadkhdaaPTkx8
namespace Go.Proofs.Ytbkodnhnadkhdaa.PTk
open Go.RowKit Go.Proofs.YtbkodnhnadkhdaaW.PrintWords Go.Proofs.YtbkodnhnadkhdaaW.PrintLast Go.Proofs.YtbkodnhnadkhdaaW.PrintMore
attribute [local go_sem] max2_int min2_int max_two min_two max_three min_three max_four min_four   -- for this text's walks alone
set_option linter.unusedVariables false
set_option linter.unusedSimpArgs false

-- GIVEN by hand
/-! ### impl_tokensText: function 78 -/
def impl_tokensText.tok (x : S67) : Option ByteArray := if x.f0 = 0 then ((impl_varText.f (wrap64 (2 * (x.f1.size : Int)))).bind fun t => (if t.size + x.f1.size ≤ 9223372036854775807 then some (t ++ x.f1) else none)) else ((impl_varText.f (wrap64 (wrap64 (2 * x.f3) + 1))).bind fun t => ((impl_varText.f x.f2).bind fun u => (if t.size + u.size ≤ 9223372036854775807 then some (t ++ u) else none)))
def impl_tokensText.l0 : Nat → List S67 → Int → List Int → Option ByteArray
  | 0, _, _, _ => none
  | k + 1, l, i, x => if i < (l.length : Int) then (if 0 ≤ i then ((impl_tokensText.tok (rd_T67 l i)).bind fun s => (if x.length + s.size ≤ 140737488355328 then impl_tokensText.l0 k l (wrap64 (i + 1)) (x ++ bytesOf s) else none)) else none) else (if x.length + 1 ≤ 140737488355328 then some (strOfNums (x ++ [0])) else none)
def impl_tokensText.f (l0 : List S67) : Option (ByteArray × Bool) := if (l0.length : Int) > 20000 then some ((⟨#[]⟩ : ByteArray), false) else ((any_impl_tokensText_1.f l0).bind fun t => (if t = true then some ((⟨#[]⟩ : ByteArray), false) else ((impl_tokensText.l0 (l0.length + 1) l0 0 []).bind fun r => some (r, true))))
set_option maxHeartbeats 8000000 in
set_option maxRecDepth 100000 in
theorem impl_tokensText.calls (A0 : Option Addr) (c0 : Nat) (l0 : List S67) (r1 : ByteArray) (r2 : Bool) (w : World) (hr0 : Kd.C k67 w A0 l0.length l0) (hc0 : l0.length ≤ c0) (h : impl_tokensText.f l0 = some (r1, r2)) :
    Calls Try.prog 78 #[.slice A0 l0.length c0] w fun e w' => e = .returned (.tuple #[.string r1, .bool r2]) ∧ Below w.heap.size w w' := by
  have HR0 := Aside0.mk hr0
  have HC0 := Aside0.mk hc0
  clear hr0 hc0
  have HB := Aside0.mk (Below.refl w.heap.size w)
  unfold impl_tokensText.f at h
  by_cases c1 : (l0.length : Int) > 20000
  · rw [if_pos c1] at h
    have c1b : decide (20000 < (l0.length : Int)) = true := decide_eq_true c1
    have c1c : decide (20000 < l0.length) = true := decide_eq_true (by omega)
    clear c1
    obtain ⟨rfl, rfl⟩ : (⟨#[]⟩ : ByteArray) = r1 ∧ false = r2 := by simpa using h
    clear h
    go_enter Try.func78, Try.ntmps78
    go_wp2
    go_ret2
    exact ⟨rfl, HB.out⟩
  · rw [if_neg c1] at h
    have c1b : decide (20000 < (l0.length : Int)) = false := decide_eq_false c1
    have c1c : decide (20000 < l0.length) = false := decide_eq_false (by omega)
    clear c1
    obtain ⟨t, A20, H⟩ := Option.bind_eq_some_iff.mp h
    clear h
    have A2 := Aside0.mk A20
    clear A20
    by_cases c2 : t = true
    · subst c2
      rw [if_pos rfl] at H
      obtain ⟨rfl, rfl⟩ : (⟨#[]⟩ : ByteArray) = r1 ∧ false = r2 := by simpa using H
      clear H
      go_enter Try.func78, Try.ntmps78
      go_wp2_with (go_at_call 64; refine (any_impl_tokensText_1.calls _ _ _ true _ HR0.out HC0.out A2.out).mono ?_; rintro e w4 ⟨rfl, hb⟩; have n0_ := Aside0.mk (below_step HB.out hb); clear HB; have HB := n0_; clear n0_ hb)
      go_ret2
      exact ⟨rfl, HB.out⟩
    · obtain rfl : t = false := by simpa using c2
      rw [if_neg (by decide)] at H
      obtain ⟨r, A30, H⟩ := Option.bind_eq_some_iff.mp H
      obtain ⟨rfl, rfl⟩ : r = r1 ∧ true = r2 := by simpa using H
      clear H c2
      have H' := Aside0.mk A30
      clear A30
      go_enter Try.func78, Try.ntmps78
      go_wp2_with (go_at_call 64; refine (any_impl_tokensText_1.calls _ _ _ false _ HR0.out HC0.out A2.out).mono ?_; rintro e w4 ⟨rfl, hb⟩; have n0_ := Aside0.mk (below_step HB.out hb); have HI := Aside0.mk (Lib.fresh_isBuilder 94 5 w4); have n1_ := Aside0.mk (below_alloc n0_.out (.cells #[.pointer none, .slice none 0 0] 94)); have GB := Aside0.mk (n0_.out.size); clear HB; have HB := n1_; clear n0_ n1_ hb)
      go_loopg [16] (l0.length + 1) (fun kq v16 w' => ∃ (x16 : Int) (x : List Int), v16 = .int .i64 x16 ∧ Aside0 (impl_tokensText.l0 kq l0 x16 x = some r) ∧ Aside0 (kq ≤ l0.length + 1) ∧ Aside0 (Ytbkodnhnadkhdaa.Build.BytesL x) ∧ Aside0 (Lib.IsBuilder 94 5 w4.heap.size w4.heap.size (nums .u8 x) w') ∧ Aside0 (Below w.heap.size w w') ∧ Aside0 (w4.heap.size ≤ w'.heap.size))
      case atStart => exact ⟨0, [], rfl, H', ⟨Nat.le_refl _⟩, ⟨Ytbkodnhnadkhdaa.Build.bytesL_nil⟩, HI, HB, ⟨by simp⟩⟩
      case round =>
        clear H' HI HB
        obtain ⟨x16, x, rfl, HA, HK, HY, HI, HB, HZ⟩ := hrel
        cases gk with
        | zero => exact absurd HA.out (by simp [impl_tokensText.l0])
        | succ k1 =>
          have H := HA.out
          clear HA
          simp only [impl_tokensText.l0] at H
          by_cases c5 : x16 < (l0.length : Int)
          · rw [if_pos c5] at H
            have c5b : decide (x16 < (l0.length : Int)) = true := decide_eq_true c5
            by_cases c6 : 0 ≤ x16
            · rw [if_pos c6] at H
              have c6b : decide (0 ≤ x16) = true := decide_eq_true c6
              obtain ⟨s, A40, H⟩ := Option.bind_eq_some_iff.mp H
              by_cases c7 : x.length + s.size ≤ 140737488355328
              · rw [if_pos c7] at H
                have C7 := Aside0.mk c7
                clear c7
                have H' := Aside0.mk H
                clear H
                obtain ⟨ad, e0, hx0, hx1, hx2, hx3⟩ := at_T67 HR0.out x16 c6 c5
                cases e0
                replace hx0 := pw_cell_below HB.out hx0
                replace hx1 := pw_cell_below HB.out hx1
                replace hx2 := pw_cell_below HB.out hx2
                replace hx3 := pw_cell_below HB.out hx3
                unfold impl_tokensText.tok at A40
                replace c5 := eq_true c5
                replace c6 := eq_true c6
                by_cases c8 : (rd_T67 l0 x16).f0 = 0
                · rw [if_pos c8] at A40
                  have c8b : ((rd_T67 l0 x16).f0 == 0) = true := beq_iff_eq.2 c8
                  have c8c : decide ((rd_T67 l0 x16).f0 = 0) = true := decide_eq_true c8
                  clear c8
                  obtain ⟨t, A50, A40⟩ := Option.bind_eq_some_iff.mp A40
                  by_cases c9 : t.size + (rd_T67 l0 x16).f1.size ≤ 9223372036854775807
                  rotate_left
                  · rw [if_neg c9] at A40; cases A40
                  rw [if_pos c9] at A40
                  obtain rfl := Option.some.inj A40
                  clear A40
                  have A5 := Aside0.mk A50
                  clear A50
                  have c9b := eq_true c9
                  have c9c : (9223372036854775807 < t.size + (rd_T67 l0 x16).f1.size) = False := eq_false (Nat.not_lt.2 c9)
                  go_wp2_with (first | ((with_reducible refine gate_dst (N := 6) rfl ?_); refine box_event ?hg (N := 6) ?hd (cs := #[.int .i64 0, .string (⟨#[]⟩ : ByteArray), .int .i64 0, .int .i64 0]) (t := 67) ?hr ?_; (case hd => rfl); (case hg => rfl); (case hr => first | (go_simp; done) | (go_simp; rfl)); intro gb hg w10 hbox hb; have BK := Aside0.mk hbox; have GE := Aside0.mk (Nat.le_of_eq hg.symm); have HW := Aside0.mk hb; clear hg hb hbox; have hcz0 : w10.cell? ⟨gb, 0, none⟩ = some (.int .i64 0) := (blk_cell BK.out 0).trans rfl; have hcz1 : w10.cell? ⟨gb, 1, none⟩ = some (.string (⟨#[]⟩ : ByteArray)) := (blk_cell BK.out 1).trans rfl; have hcz2 : w10.cell? ⟨gb, 2, none⟩ = some (.int .i64 0) := (blk_cell BK.out 2).trans rfl; have hcz3 : w10.cell? ⟨gb, 3, none⟩ = some (.int .i64 0) := (blk_cell BK.out 3).trans rfl; have hfz0 := blk_frozen BK.out 0; have hfz1 := blk_frozen BK.out 1; have hfz2 := blk_frozen BK.out 2; have hfz3 := blk_frozen BK.out 3))
                  have HV := Aside0.mk (((((HW.out.setCell (p := ⟨gb, 0, none⟩) GE.out (.int .i64 (rd_T67 l0 x16).f0)).setCell (p := ⟨gb, 1, none⟩) GE.out (.string (rd_T67 l0 x16).f1)).setCell (p := ⟨gb, 2, none⟩) GE.out (.int .i64 (rd_T67 l0 x16).f2)).setCell (p := ⟨gb, 3, none⟩) GE.out (.int .i64 (rd_T67 l0 x16).f3)).drew)
                  have BW := Aside0.mk (blk_set (blk_set (blk_set (blk_set BK.out 0 (.int .i64 (rd_T67 l0 x16).f0)) 1 (.string (rd_T67 l0 x16).f1)) 2 (.int .i64 (rd_T67 l0 x16).f2)) 3 (.int .i64 (rd_T67 l0 x16).f3))
                  have hs1 : ((((w10.setCell ⟨gb, 0, none⟩ (.int .i64 (rd_T67 l0 x16).f0)).setCell ⟨gb, 1, none⟩ (.string (rd_T67 l0 x16).f1)).setCell ⟨gb, 2, none⟩ (.int .i64 (rd_T67 l0 x16).f2)).setCell ⟨gb, 3, none⟩ (.int .i64 (rd_T67 l0 x16).f3)).drew.cell? ⟨gb, 1, none⟩ = some (.string (rd_T67 l0 x16).f1) := (blk_cell BW.out 1).trans rfl
                  have hs2 : ((((w10.setCell ⟨gb, 0, none⟩ (.int .i64 (rd_T67 l0 x16).f0)).setCell ⟨gb, 1, none⟩ (.string (rd_T67 l0 x16).f1)).setCell ⟨gb, 2, none⟩ (.int .i64 (rd_T67 l0 x16).f2)).setCell ⟨gb, 3, none⟩ (.int .i64 (rd_T67 l0 x16).f3)).drew.cell? ⟨gb, 2, none⟩ = some (.int .i64 (rd_T67 l0 x16).f2) := (blk_cell BW.out 2).trans rfl
                  have hs3 : ((((w10.setCell ⟨gb, 0, none⟩ (.int .i64 (rd_T67 l0 x16).f0)).setCell ⟨gb, 1, none⟩ (.string (rd_T67 l0 x16).f1)).setCell ⟨gb, 2, none⟩ (.int .i64 (rd_T67 l0 x16).f2)).setCell ⟨gb, 3, none⟩ (.int .i64 (rd_T67 l0 x16).f3)).drew.cell? ⟨gb, 3, none⟩ = some (.int .i64 (rd_T67 l0 x16).f3) := (blk_cell BW.out 3).trans rfl
                  have n0_ := Aside0.mk (Ytbkodnhnadkhdaa.Build.isBuilder_below HI.out HV.out)
                  have n1_ := Aside0.mk (below_step HB.out HV.out)
                  have n2_ := Aside0.mk (Nat.le_trans HZ.out HV.out.size)
                  clear HI HB HZ
                  have HI := n0_
                  have HB := n1_
                  have HZ := n2_
                  clear n0_ n1_ n2_ HV BW
                  refine start_ (n := 9) (S := fun w' => w'.cell? ⟨gb, 1, none⟩ = some (.string (rd_T67 l0 x16).f1)) (ds := [8]) #[false, false, false, false, false, false, false, false, false] (by kernel_rfl) rfl rfl hs1 (fun hHeld => ?_)
                  clear hs1 hs2 hs3
                  generalize ((((w10.setCell ⟨gb, 0, none⟩ (.int .i64 (rd_T67 l0 x16).f0)).setCell ⟨gb, 1, none⟩ (.string (rd_T67 l0 x16).f1)).setCell ⟨gb, 2, none⟩ (.int .i64 (rd_T67 l0 x16).f2)).setCell ⟨gb, 3, none⟩ (.int .i64 (rd_T67 l0 x16).f3)).drew = w12 at HI HB HZ hHeld ⊢
                  refine pure_ (i := 0) (N := some 23) (v := ?_) (a' := ?_) #[true, false, false, false, false, false, false, false, false] rfl rfl (by kernel_rfl) (fun _ _ _ h => h) (Or.inl ⟨by rfl, ?_⟩) ?_ ?_
                  rotate_left
                  · intro w'
                    go_simp
                    with_reducible rfl
                  rotate_left
                  · simp only [Act.put, List.setIfInBounds_toArray, List.set_cons_zero, List.set_cons_succ, i64_w, i32_w, IntKind.wrap_u8, IntKind.wrap_u32]
                    rfl
                  refine pure_ (i := 5) (N := some 28) (v := ?_) (a' := ?_) #[true, false, false, false, false, true, false, false, false] rfl rfl (by kernel_rfl) (fun _ _ _ h => h) (Or.inl ⟨by rfl, ?_⟩) ?_ ?_
                  rotate_left
                  · intro w'
                    go_simp
                    with_reducible rfl
                  rotate_left
                  · simp only [Act.put, List.setIfInBounds_toArray, List.set_cons_zero, List.set_cons_succ, i64_w, i32_w, IntKind.wrap_u8, IntKind.wrap_u32]
                    rfl
                  refine take_ (i := 1) (N := some 24) (v := ?_) (a' := ?_) #[true, true, false, false, false, true, false, false, false] rfl rfl (by kernel_rfl) (fun _ _ _ h => h) (Or.inl ⟨by rfl, ?_⟩) hHeld ?_ ?_
                  rotate_left
                  · rintro w' s0
                    go_simp
                    with_reducible rfl
                  rotate_left
                  · simp only [Act.put, List.setIfInBounds_toArray, List.set_cons_zero, List.set_cons_succ, i64_w, i32_w, IntKind.wrap_u8, IntKind.wrap_u32]
                    rfl
                  refine pure_ (i := 2) (N := some 25) (v := ?_) (a' := ?_) #[true, true, true, false, false, true, false, false, false] rfl rfl (by kernel_rfl) (fun _ _ _ h => h) (Or.inl ⟨by rfl, ?_⟩) ?_ ?_
                  rotate_left
                  · intro w'
                    go_simp
                    with_reducible rfl
                  rotate_left
                  · simp only [Act.put, List.setIfInBounds_toArray, List.set_cons_zero, List.set_cons_succ, i64_w, i32_w, IntKind.wrap_u8, IntKind.wrap_u32]
                    rfl
                  refine pure_ (i := 3) (N := some 26) (v := ?_) (a' := ?_) #[true, true, true, true, false, true, false, false, false] rfl rfl (by kernel_rfl) (fun _ _ _ h => h) (Or.inl ⟨by rfl, ?_⟩) ?_ ?_
                  rotate_left
                  · intro w'
                    go_simp
                    with_reducible rfl
                  rotate_left
                  · simp only [Act.put, List.setIfInBounds_toArray, List.set_cons_zero, List.set_cons_succ, i64_w, i32_w, IntKind.wrap_u8, IntKind.wrap_u32]
                    rfl
                  refine take_ (i := 6) (N := some 29) (v := ?_) (a' := ?_) #[true, true, true, true, false, true, true, false, false] rfl rfl (by kernel_rfl) (fun _ _ _ h => h) (Or.inl ⟨by rfl, ?_⟩) hHeld ?_ ?_
                  rotate_left
                  · rintro w' s0
                    go_simp
                    with_reducible rfl
                  rotate_left
                  · simp only [Act.put, List.setIfInBounds_toArray, List.set_cons_zero, List.set_cons_succ, i64_w, i32_w, IntKind.wrap_u8, IntKind.wrap_u32]
                    rfl
                  refine one_ (i := 4) (N := some 27) #[true, true, true, true, true, true, true, false, false] rfl rfl (by kernel_rfl) (by decide) (fun K hK => ?_)
                  refine goes_ Try.func90 (by kernel_rfl) rfl #[.int .i64 (wrap64 (2 * ((rd_T67 l0 x16).f1.size : Int)))] (by rfl) rfl rfl (by (try simp only [List.map_toArray, List.map_cons, List.map_nil]); first | done | rfl | (simp only [List.length_drop, List.length_take]; rfl)) ?_
                  with_reducible refine (impl_varText.calls (wrap64 (2 * ((rd_T67 l0 x16).f1.size : Int))) t _ A5.out).mono ?_
                  rintro e w14 ⟨rfl, hb⟩
                  refine ⟨_, rfl, ?_⟩
                  have n0_ := Aside0.mk (Ytbkodnhnadkhdaa.Build.isBuilder_below HI.out hb)
                  have n1_ := Aside0.mk (below_step HB.out hb)
                  have n2_ := Aside0.mk (Nat.le_trans HZ.out hb.size)
                  have hS_ := pw_cell_below hb hHeld
                  clear HI HB HZ hHeld
                  have HI := n0_
                  have HB := n1_
                  have HZ := n2_
                  clear n0_ n1_ n2_ hb
                  refine hK.out _ _ hS_ (fun hHeld => ?_)
                  clear hK K hS_
                  refine norm_ (a' := ?_) ?_ ?_
                  rotate_left
                  · show Act.put _ (some 27) _ = _
                    simp only [Act.put, List.setIfInBounds_toArray, List.set_cons_zero, List.set_cons_succ, i64_w, i32_w, IntKind.wrap_u8, IntKind.wrap_u32]
                    rfl
                  refine pure_ (i := 7) (N := some 30) (v := ?_) (a' := ?_) #[true, true, true, true, true, true, true, true, false] rfl rfl (by kernel_rfl) (fun _ _ _ h => h) (Or.inl ⟨by rfl, ?_⟩) ?_ ?_
                  rotate_left
                  · intro w'
                    go_simp
                    with_reducible rfl
                  rotate_left
                  · simp only [Act.put, List.setIfInBounds_toArray, List.set_cons_zero, List.set_cons_succ, i64_w, i32_w, IntKind.wrap_u8, IntKind.wrap_u32]
                    rfl
                  refine last_ (i := 8) (N := some 31) #[true, true, true, true, true, true, true, true, true] rfl rfl (by kernel_rfl) (by decide) (fun K hK => ?_)
                  refine goes_ Try.func89 (by kernel_rfl) rfl #[.pointer (some ⟨w4.heap.size, 0, none⟩), .string (t ++ (rd_T67 l0 x16).f1)] (by rfl) rfl rfl (by (try simp only [List.map_toArray, List.map_cons, List.map_nil]); first | done | rfl | (simp only [List.length_drop, List.length_take]; rfl)) ?_
                  with_reducible refine (Ytbkodnhnadkhdaa.Build.WriteString w4.heap.size w4.heap.size (nums .u8 x) (t ++ (rd_T67 l0 x16).f1) _ HI.out (by rw [nums_length]; exact C7.out) HZ.out).mono ?_
                  rintro e w19 ⟨rfl, hi, hb⟩
                  refine ⟨_, rfl, ?_⟩
                  have hi2 : Lib.IsBuilder 94 5 w4.heap.size w4.heap.size (nums .u8 (x ++ bytesOf (t ++ (rd_T67 l0 x16).f1))) w19 := .inr (by rw [nums_append, ← Ytbkodnhnadkhdaa.Build.strCells_of]; exact hi)
                  have n0_ := Aside0.mk hi2
                  have n1_ := Aside0.mk (HB.out.trans (hb.mono GB.out))
                  have n2_ := Aside0.mk (Nat.le_trans HZ.out hb.size)
                  clear HI HB HZ hHeld hi hi2
                  have HI := n0_
                  have HB := n1_
                  have HZ := n2_
                  clear n0_ n1_ n2_ hb
                  refine hK.out _ _ ?_
                  clear hK K
                  refine norm_ (a' := ?_) ?_ ?_
                  rotate_left
                  · show Act.put _ (some 31) _ = _
                    simp only [Act.put, List.setIfInBounds_toArray, List.set_cons_zero, List.set_cons_succ, i64_w, i32_w, IntKind.wrap_u8, IntKind.wrap_u32]
                    rfl
                  refine done_ (by kernel_rfl) ?_
                  try go_wp2
                  go_roundg k1
                  case measure => have := HK.out; omega
                  case rel => exact ⟨_, _, rfl, H', ⟨by have := HK.out; omega⟩, ⟨Ytbkodnhnadkhdaa.Build.bytesL_app HY.out (Ytbkodnhnadkhdaa.Build.bytesL_of _)⟩, HI, HB, HZ⟩
                · rw [if_neg c8] at A40
                  have c8b : ((rd_T67 l0 x16).f0 == 0) = false := beq_eq_false_iff_ne.2 c8
                  have c8c : decide ((rd_T67 l0 x16).f0 = 0) = false := decide_eq_false c8
                  clear c8
                  obtain ⟨t, A50, A40⟩ := Option.bind_eq_some_iff.mp A40
                  obtain ⟨u, A60, A40⟩ := Option.bind_eq_some_iff.mp A40
                  by_cases c9 : t.size + u.size ≤ 9223372036854775807
                  rotate_left
                  · rw [if_neg c9] at A40; cases A40
                  rw [if_pos c9] at A40
                  obtain rfl := Option.some.inj A40
                  clear A40
                  have A5 := Aside0.mk A50
                  have A6 := Aside0.mk A60
                  clear A50 A60
                  have c9b := eq_true c9
                  have c9c : (9223372036854775807 < t.size + u.size) = False := eq_false (Nat.not_lt.2 c9)
                  go_wp2_with (first | ((with_reducible refine gate_dst (N := 6) rfl ?_); refine box_event ?hg (N := 6) ?hd (cs := #[.int .i64 0, .string (⟨#[]⟩ : ByteArray), .int .i64 0, .int .i64 0]) (t := 67) ?hr ?_; (case hd => rfl); (case hg => rfl); (case hr => first | (go_simp; done) | (go_simp; rfl)); intro gb hg w10 hbox hb; have BK := Aside0.mk hbox; have GE := Aside0.mk (Nat.le_of_eq hg.symm); have HW := Aside0.mk hb; clear hg hb hbox; have hcz0 : w10.cell? ⟨gb, 0, none⟩ = some (.int .i64 0) := (blk_cell BK.out 0).trans rfl; have hcz1 : w10.cell? ⟨gb, 1, none⟩ = some (.string (⟨#[]⟩ : ByteArray)) := (blk_cell BK.out 1).trans rfl; have hcz2 : w10.cell? ⟨gb, 2, none⟩ = some (.int .i64 0) := (blk_cell BK.out 2).trans rfl; have hcz3 : w10.cell? ⟨gb, 3, none⟩ = some (.int .i64 0) := (blk_cell BK.out 3).trans rfl; have hfz0 := blk_frozen BK.out 0; have hfz1 := blk_frozen BK.out 1; have hfz2 := blk_frozen BK.out 2; have hfz3 := blk_frozen BK.out 3))
                  have HV := Aside0.mk (((((HW.out.setCell (p := ⟨gb, 0, none⟩) GE.out (.int .i64 (rd_T67 l0 x16).f0)).setCell (p := ⟨gb, 1, none⟩) GE.out (.string (rd_T67 l0 x16).f1)).setCell (p := ⟨gb, 2, none⟩) GE.out (.int .i64 (rd_T67 l0 x16).f2)).setCell (p := ⟨gb, 3, none⟩) GE.out (.int .i64 (rd_T67 l0 x16).f3)).drew)
                  have BW := Aside0.mk (blk_set (blk_set (blk_set (blk_set BK.out 0 (.int .i64 (rd_T67 l0 x16).f0)) 1 (.string (rd_T67 l0 x16).f1)) 2 (.int .i64 (rd_T67 l0 x16).f2)) 3 (.int .i64 (rd_T67 l0 x16).f3))
                  have hs1 : ((((w10.setCell ⟨gb, 0, none⟩ (.int .i64 (rd_T67 l0 x16).f0)).setCell ⟨gb, 1, none⟩ (.string (rd_T67 l0 x16).f1)).setCell ⟨gb, 2, none⟩ (.int .i64 (rd_T67 l0 x16).f2)).setCell ⟨gb, 3, none⟩ (.int .i64 (rd_T67 l0 x16).f3)).drew.cell? ⟨gb, 1, none⟩ = some (.string (rd_T67 l0 x16).f1) := (blk_cell BW.out 1).trans rfl
                  have hs2 : ((((w10.setCell ⟨gb, 0, none⟩ (.int .i64 (rd_T67 l0 x16).f0)).setCell ⟨gb, 1, none⟩ (.string (rd_T67 l0 x16).f1)).setCell ⟨gb, 2, none⟩ (.int .i64 (rd_T67 l0 x16).f2)).setCell ⟨gb, 3, none⟩ (.int .i64 (rd_T67 l0 x16).f3)).drew.cell? ⟨gb, 2, none⟩ = some (.int .i64 (rd_T67 l0 x16).f2) := (blk_cell BW.out 2).trans rfl
                  have hs3 : ((((w10.setCell ⟨gb, 0, none⟩ (.int .i64 (rd_T67 l0 x16).f0)).setCell ⟨gb, 1, none⟩ (.string (rd_T67 l0 x16).f1)).setCell ⟨gb, 2, none⟩ (.int .i64 (rd_T67 l0 x16).f2)).setCell ⟨gb, 3, none⟩ (.int .i64 (rd_T67 l0 x16).f3)).drew.cell? ⟨gb, 3, none⟩ = some (.int .i64 (rd_T67 l0 x16).f3) := (blk_cell BW.out 3).trans rfl
                  have n0_ := Aside0.mk (Ytbkodnhnadkhdaa.Build.isBuilder_below HI.out HV.out)
                  have n1_ := Aside0.mk (below_step HB.out HV.out)
                  have n2_ := Aside0.mk (Nat.le_trans HZ.out HV.out.size)
                  clear HI HB HZ
                  have HI := n0_
                  have HB := n1_
                  have HZ := n2_
                  clear n0_ n1_ n2_ HV BW
                  refine start_ (n := 10) (S := fun w' => w'.cell? ⟨gb, 3, none⟩ = some (.int .i64 (rd_T67 l0 x16).f3) ∧ w'.cell? ⟨gb, 2, none⟩ = some (.int .i64 (rd_T67 l0 x16).f2)) (ds := [9]) #[false, false, false, false, false, false, false, false, false, false] (by kernel_rfl) rfl rfl ⟨hs3, hs2⟩ (fun hHeld => ?_)
                  clear hs1 hs2 hs3
                  generalize ((((w10.setCell ⟨gb, 0, none⟩ (.int .i64 (rd_T67 l0 x16).f0)).setCell ⟨gb, 1, none⟩ (.string (rd_T67 l0 x16).f1)).setCell ⟨gb, 2, none⟩ (.int .i64 (rd_T67 l0 x16).f2)).setCell ⟨gb, 3, none⟩ (.int .i64 (rd_T67 l0 x16).f3)).drew = w12 at HI HB HZ hHeld ⊢
                  refine pure_ (i := 0) (N := some 32) (v := ?_) (a' := ?_) #[true, false, false, false, false, false, false, false, false, false] rfl rfl (by kernel_rfl) (fun _ _ _ h => h) (Or.inl ⟨by rfl, ?_⟩) ?_ ?_
                  rotate_left
                  · intro w'
                    go_simp
                    with_reducible rfl
                  rotate_left
                  · simp only [Act.put, List.setIfInBounds_toArray, List.set_cons_zero, List.set_cons_succ, i64_w, i32_w, IntKind.wrap_u8, IntKind.wrap_u32]
                    rfl
                  refine pure_ (i := 5) (N := some 37) (v := ?_) (a' := ?_) #[true, false, false, false, false, true, false, false, false, false] rfl rfl (by kernel_rfl) (fun _ _ _ h => h) (Or.inl ⟨by rfl, ?_⟩) ?_ ?_
                  rotate_left
                  · intro w'
                    go_simp
                    with_reducible rfl
                  rotate_left
                  · simp only [Act.put, List.setIfInBounds_toArray, List.set_cons_zero, List.set_cons_succ, i64_w, i32_w, IntKind.wrap_u8, IntKind.wrap_u32]
                    rfl
                  refine take_ (i := 1) (N := some 33) (v := ?_) (a' := ?_) #[true, true, false, false, false, true, false, false, false, false] rfl rfl (by kernel_rfl) (fun _ _ _ h => h) (Or.inl ⟨by rfl, ?_⟩) hHeld ?_ ?_
                  rotate_left
                  · rintro w' ⟨s0, s1⟩
                    go_simp
                    with_reducible rfl
                  rotate_left
                  · simp only [Act.put, List.setIfInBounds_toArray, List.set_cons_zero, List.set_cons_succ, i64_w, i32_w, IntKind.wrap_u8, IntKind.wrap_u32]
                    rfl
                  refine pure_ (i := 2) (N := some 34) (v := ?_) (a' := ?_) #[true, true, true, false, false, true, false, false, false, false] rfl rfl (by kernel_rfl) (fun _ _ _ h => h) (Or.inl ⟨by rfl, ?_⟩) ?_ ?_
                  rotate_left
                  · intro w'
                    go_simp
                    with_reducible rfl
                  rotate_left
                  · simp only [Act.put, List.setIfInBounds_toArray, List.set_cons_zero, List.set_cons_succ, i64_w, i32_w, IntKind.wrap_u8, IntKind.wrap_u32]
                    rfl
                  refine pure_ (i := 3) (N := some 35) (v := ?_) (a' := ?_) #[true, true, true, true, false, true, false, false, false, false] rfl rfl (by kernel_rfl) (fun _ _ _ h => h) (Or.inl ⟨by rfl, ?_⟩) ?_ ?_
                  rotate_left
                  · intro w'
                    go_simp
                    with_reducible rfl
                  rotate_left
                  · simp only [Act.put, List.setIfInBounds_toArray, List.set_cons_zero, List.set_cons_succ, i64_w, i32_w, IntKind.wrap_u8, IntKind.wrap_u32]
                    rfl
                  refine take_ (i := 6) (N := some 38) (v := ?_) (a' := ?_) #[true, true, true, true, false, true, true, false, false, false] rfl rfl (by kernel_rfl) (fun _ _ _ h => h) (Or.inl ⟨by rfl, ?_⟩) hHeld ?_ ?_
                  rotate_left
                  · rintro w' ⟨s0, s1⟩
                    go_simp
                    with_reducible rfl
                  rotate_left
                  · simp only [Act.put, List.setIfInBounds_toArray, List.set_cons_zero, List.set_cons_succ, i64_w, i32_w, IntKind.wrap_u8, IntKind.wrap_u32]
                    rfl
                  refine one_ (i := 4) (N := some 36) #[true, true, true, true, true, true, true, false, false, false] rfl rfl (by kernel_rfl) (by decide) (fun K hK => ?_)
                  refine goes_ Try.func90 (by kernel_rfl) rfl #[.int .i64 (wrap64 (wrap64 (2 * (rd_T67 l0 x16).f3) + 1))] (by rfl) rfl rfl (by (try simp only [List.map_toArray, List.map_cons, List.map_nil]); first | done | rfl | (simp only [List.length_drop, List.length_take]; rfl)) ?_
                  with_reducible refine (impl_varText.calls (wrap64 (wrap64 (2 * (rd_T67 l0 x16).f3) + 1)) t _ A5.out).mono ?_
                  rintro e w14 ⟨rfl, hb⟩
                  refine ⟨_, rfl, ?_⟩
                  have n0_ := Aside0.mk (Ytbkodnhnadkhdaa.Build.isBuilder_below HI.out hb)
                  have n1_ := Aside0.mk (below_step HB.out hb)
                  have n2_ := Aside0.mk (Nat.le_trans HZ.out hb.size)
                  have hS_ := And.intro (pw_cell_below hb hHeld.1) (pw_cell_below hb hHeld.2)
                  clear HI HB HZ hHeld
                  have HI := n0_
                  have HB := n1_
                  have HZ := n2_
                  clear n0_ n1_ n2_ hb
                  refine hK.out _ _ hS_ (fun hHeld => ?_)
                  clear hK K hS_
                  refine norm_ (a' := ?_) ?_ ?_
                  rotate_left
                  · show Act.put _ (some 36) _ = _
                    simp only [Act.put, List.setIfInBounds_toArray, List.set_cons_zero, List.set_cons_succ, i64_w, i32_w, IntKind.wrap_u8, IntKind.wrap_u32]
                    rfl
                  refine one_ (i := 7) (N := some 39) #[true, true, true, true, true, true, true, true, false, false] rfl rfl (by kernel_rfl) (by decide) (fun K hK => ?_)
                  refine goes_ Try.func90 (by kernel_rfl) rfl #[.int .i64 ((rd_T67 l0 x16).f2)] (by rfl) rfl rfl (by (try simp only [List.map_toArray, List.map_cons, List.map_nil]); first | done | rfl | (simp only [List.length_drop, List.length_take]; rfl)) ?_
                  with_reducible refine (impl_varText.calls ((rd_T67 l0 x16).f2) u _ A6.out).mono ?_
                  rintro e w15 ⟨rfl, hb⟩
                  refine ⟨_, rfl, ?_⟩
                  have n0_ := Aside0.mk (Ytbkodnhnadkhdaa.Build.isBuilder_below HI.out hb)
                  have n1_ := Aside0.mk (below_step HB.out hb)
                  have n2_ := Aside0.mk (Nat.le_trans HZ.out hb.size)
                  have hS_ := And.intro (pw_cell_below hb hHeld.1) (pw_cell_below hb hHeld.2)
                  clear HI HB HZ hHeld
                  have HI := n0_
                  have HB := n1_
                  have HZ := n2_
                  clear n0_ n1_ n2_ hb
                  refine hK.out _ _ hS_ (fun hHeld => ?_)
                  clear hK K hS_
                  refine norm_ (a' := ?_) ?_ ?_
                  rotate_left
                  · show Act.put _ (some 39) _ = _
                    simp only [Act.put, List.setIfInBounds_toArray, List.set_cons_zero, List.set_cons_succ, i64_w, i32_w, IntKind.wrap_u8, IntKind.wrap_u32]
                    rfl
                  refine pure_ (i := 8) (N := some 40) (v := ?_) (a' := ?_) #[true, true, true, true, true, true, true, true, true, false] rfl rfl (by kernel_rfl) (fun _ _ _ h => h) (Or.inl ⟨by rfl, ?_⟩) ?_ ?_
                  rotate_left
                  · intro w'
                    go_simp
                    with_reducible rfl
                  rotate_left
                  · simp only [Act.put, List.setIfInBounds_toArray, List.set_cons_zero, List.set_cons_succ, i64_w, i32_w, IntKind.wrap_u8, IntKind.wrap_u32]
                    rfl
                  refine last_ (i := 9) (N := some 41) #[true, true, true, true, true, true, true, true, true, true] rfl rfl (by kernel_rfl) (by decide) (fun K hK => ?_)
                  refine goes_ Try.func89 (by kernel_rfl) rfl #[.pointer (some ⟨w4.heap.size, 0, none⟩), .string (t ++ u)] (by rfl) rfl rfl (by (try simp only [List.map_toArray, List.map_cons, List.map_nil]); first | done | rfl | (simp only [List.length_drop, List.length_take]; rfl)) ?_
                  with_reducible refine (Ytbkodnhnadkhdaa.Build.WriteString w4.heap.size w4.heap.size (nums .u8 x) (t ++ u) _ HI.out (by rw [nums_length]; exact C7.out) HZ.out).mono ?_
                  rintro e w19 ⟨rfl, hi, hb⟩
                  refine ⟨_, rfl, ?_⟩
                  have hi2 : Lib.IsBuilder 94 5 w4.heap.size w4.heap.size (nums .u8 (x ++ bytesOf (t ++ u))) w19 := .inr (by rw [nums_append, ← Ytbkodnhnadkhdaa.Build.strCells_of]; exact hi)
                  have n0_ := Aside0.mk hi2
                  have n1_ := Aside0.mk (HB.out.trans (hb.mono GB.out))
                  have n2_ := Aside0.mk (Nat.le_trans HZ.out hb.size)
                  clear HI HB HZ hHeld hi hi2
                  have HI := n0_
                  have HB := n1_
                  have HZ := n2_
                  clear n0_ n1_ n2_ hb
                  refine hK.out _ _ ?_
                  clear hK K
                  refine norm_ (a' := ?_) ?_ ?_
                  rotate_left
                  · show Act.put _ (some 41) _ = _
                    simp only [Act.put, List.setIfInBounds_toArray, List.set_cons_zero, List.set_cons_succ, i64_w, i32_w, IntKind.wrap_u8, IntKind.wrap_u32]
                    rfl
                  refine done_ (by kernel_rfl) ?_
                  try go_wp2
                  go_roundg k1
                  case measure => have := HK.out; omega
                  case rel => exact ⟨_, _, rfl, H', ⟨by have := HK.out; omega⟩, ⟨Ytbkodnhnadkhdaa.Build.bytesL_app HY.out (Ytbkodnhnadkhdaa.Build.bytesL_of _)⟩, HI, HB, HZ⟩
              · rw [if_neg c7] at H
                cases H
            · rw [if_neg c6] at H
              cases H
          · rw [if_neg c5] at H
            have c5b : decide (x16 < (l0.length : Int)) = false := decide_eq_false c5
            clear c5
            by_cases c7 : x.length + 1 ≤ 140737488355328
            rotate_left
            · rw [if_neg c7] at H; cases H
            rw [if_pos c7] at H
            have C7 := Aside0.mk c7
            clear c7
            obtain rfl := Option.some.inj H
            clear H
            go_wp2_with (first | (go_at_call 91; refine (Ytbkodnhnadkhdaa.Build.WriteByte _ _ _ _ _ HI.out ?_ ?_).mono ?_; (rw [nums_length]; exact C7.out); (exact HZ.out); rintro e w1 ⟨rfl, hi, hb⟩; have n0_ := Aside0.mk hi; have n1_ := Aside0.mk (HB.out.trans (hb.mono GB.out)); have n2_ := Aside0.mk (Nat.le_trans HZ.out hb.size); clear HI HB HZ; have HI := n0_; have HB := n1_; have HZ := n2_; clear n0_ n1_ n2_ hi hb) | (go_at_call 92; refine (Ytbkodnhnadkhdaa.Build.StringN w4.heap.size _ (x ++ [0]) _ (Ytbkodnhnadkhdaa.Build.bytesL_snoc HY.out (by decide) (by decide)) (Or.inr (by rw [nums_append]; exact HI.out)) HZ.out).mono ?_; rintro e w1 ⟨rfl, hb⟩; have n1_ := Aside0.mk (HB.out.trans (hb.mono GB.out)); clear HI HB; have HB := n1_; clear n1_ hb))
            go_ret2
            exact ⟨rfl, HB.out⟩

end Go.Proofs.Ytbkodnhnadkhdaa.PTk
