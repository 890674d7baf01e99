/- The reference's StrongOf: the same sixteen bytes, or noughts where the text is too long. No condition. -/
import Derived.Test.YtbkodnhnadkhdaaDoorStrO
import Derived.Deep.RegionWith
namespace Go.Proofs.YtbkodnhnadkhdaaDoor.Str
open Go Go.RowKit Go.Proofs.YtbkodnhnadkhdaaDoor.PM5 Go.Proofs.YtbkodnhnadkhdaaDoorW.PrintWords Go.Proofs.YtbkodnhnadkhdaaDoorW.PrintLast Go.Proofs.YtbkodnhnadkhdaaDoorW.PrintMore Go.Proofs.YtbkodnhnadkhdaaDoor.Arith Go.Proofs.YtbkodnhnadkhdaaDoor.Lib Go.Proofs.YtbkodnhnadkhdaaDoor.Word Go.Proofs.YtbkodnhnadkhdaaDoor.Pad Go.Proofs.YtbkodnhnadkhdaaDoor.Mix
set_option linter.unusedVariables false
def outL (x : S4) (q : Nat) : List Int := (word16 x).take q ++ List.replicate (16 - q) 0
theorem outL_length (x : S4) (q : Nat) (h : q ≤ 16) : (outL x q).length = 16 := by unfold outL; rw [List.length_append, List.length_take, List.length_replicate, word16_length]; omega
theorem outL_end (x : S4) : outL x 16 = word16 x := by unfold outL; rw [List.take_of_length_le (by rw [word16_length]; exact Nat.le_refl _)]; simp
theorem outL_set (x : S4) (q : Nat) (h : q < 16) : (arr .u8 (outL x q)).setIfInBounds q (.int .u8 ((word16 x).getD q 0)) = arr .u8 (outL x (q + 1)) := by
  unfold arr
  rw [List.setIfInBounds_toArray, ← List.map_set]
  congr 2
  have hl := word16_length x
  unfold outL
  have h1 : ((word16 x).take q).length = q := by rw [List.length_take]; omega
  rw [List.set_append_right _ _ (by omega), h1, Nat.sub_self, show 16 - q = (16 - (q + 1)) + 1 by omega, List.replicate_succ, List.set_cons_zero, List.take_succ_eq_append_getElem (by omega), List.append_assoc]
  simp [List.getD_eq_getElem?_getD, List.getElem?_eq_getElem (show q < (word16 x).length by omega)]
def comp (x : S4) (n : Nat) : Int := [x.1, x.2.1, x.2.2.1, x.2.2.2].getD n 0
theorem comp_word (x : S4) (n i : Nat) (hn : n < 4) (hi : i < 4) : (word (comp x n)).getD i 0 = (word16 x).getD (4 * n + i) 0 := by
  have h1 : n = 0 ∨ n = 1 ∨ n = 2 ∨ n = 3 := by omega
  have h2 : i = 0 ∨ i = 1 ∨ i = 2 ∨ i = 3 := by omega
  rcases h1 with rfl | rfl | rfl | rfl <;> rcases h2 with rfl | rfl | rfl | rfl <;> rfl
theorem comp_ok (x : S4) (n : Nat) (hn : n < 4) (h : ok4 x) : 0 ≤ comp x n ∧ comp x n < 4294967296 := by
  have h1 : n = 0 ∨ n = 1 ∨ n = 2 ∨ n = 3 := by omega
  rcases h1 with rfl | rfl | rfl | rfl
  · exact h.1
  · exact h.2.1
  · exact h.2.2.1
  · exact h.2.2.2
theorem comp_cell {w : World} {g t : Nat} (x : S4) (n : Nat) (hn : n < 4) (h : w.heap[g]? = some (.cells #[.int .u32 x.1, .int .u32 x.2.1, .int .u32 x.2.2.1, .int .u32 x.2.2.2] t (0, 0))) : w.cell? ⟨g, n, none⟩ = some (.int .u32 (comp x n)) := by
  obtain ⟨⟨h0, h1, h2, h3⟩, _⟩ := row4 h
  have : n = 0 ∨ n = 1 ∨ n = 2 ∨ n = 3 := by omega
  rcases this with rfl | rfl | rfl | rfl <;> assumption
theorem cell16 {w : World} {g t : Nat} (xs : List Int) (n : Nat) (hn : n < xs.length) (h : w.heap[g]? = some (.cells (arr .u8 xs) t (0, 0))) : w.cell? ⟨g, n, none⟩ = some (.int .u8 (xs.getD n 0)) ∧ w.frozen? ⟨g, n, none⟩ = false := by
  refine ⟨?_, by simp [World.frozen?, h]⟩
  have := arr_at .u8 xs n hn
  simp only [World.cell?, h]
  exact this
set_option maxHeartbeats 4000000 in
set_option maxRecDepth 100000 in
theorem strongOfS (s : ByteArray) (w : World) :
    Calls Tryd.prog 16 #[.string s] w fun e w' => e = .returned (b16 (sumOf s)) ∧ Below w.heap.size w w' := by
  unfold sumOf
  by_cases hs : s.size ≤ 20000
  · rw [if_pos hs]
    obtain ⟨kp, hkp⟩ := spec_ev s hs
    have hpad := hkp kp (Nat.le_refl _)
    have hpl : (pad s).length = 64 * blocks s := by have := padS_size s; unfold padS at this; rwa [strOfNums_size] at this
    have hm0 := blocks_pos s
    have hms := blocks_small s (by omega)
    have hpb := pad_bytes s
    have hres : md5 s = word16 (fold (strOfNums (pad s)) (blocks s)) := rfl
    rw [hres]
    clear hkp hres
    obtain ⟨hA, hB, hz, hB1⟩ := two16 w
    generalize pad s = ps at *
    generalize blocks s = m at *
    have hl0 : ((ps.length : Int) == 0) = false := by simp; intro h; simp [h] at hpl; omega
    have hl1 : decide (ps.length = 0) = false := decide_eq_false (by omega)
    have HP := Aside0.mk hpl
    clear hpl
    go_enter Tryd.func16, Tryd.ntmps16
    go_upto_region 2 with fail
    generalize hW1 : (w.alloc z16).alloc z16 = W1 at hA hB hz hB1
    clear hW1
    go_upto_region 3 with (go_at_call 50; refine (spec_PadStrong.calls kp s ps _ hpad).mono ?_; rintro e w2 ⟨v0, rfl, hR, hb2⟩; obtain ⟨A1, c1, rfl, hc1, hC1⟩ := Kd.RM_reads hR)
    clear hpad
    go_wp2
    have hg := heap_alloc_new w2 (Obj.cells #[Value.int IntKind.u32 1732584193, Value.int IntKind.u32 4023233417, Value.int IntKind.u32 2562383102, Value.int IntKind.u32 271733878] 23)
    have hz2 : W1.heap.size ≤ w2.heap.size := hb2.size
    have hA2 := (hb2.block w.heap.size (by omega)).trans hA
    have hB2 := (hb2.block (w.heap.size + 1) (by omega)).trans hB
    have hBw2 := below_step hB1 hb2
    have hBL := below_alloc (Below.refl w2.heap.size w2) (Obj.cells #[Value.int IntKind.u32 1732584193, Value.int IntKind.u32 4023233417, Value.int IntKind.u32 2562383102, Value.int IntKind.u32 271733878] 23)
    have hzL : (w2.alloc (Obj.cells #[Value.int IntKind.u32 1732584193, Value.int IntKind.u32 4023233417, Value.int IntKind.u32 2562383102, Value.int IntKind.u32 271733878] 23)).heap.size = w2.heap.size + 1 := by simp
    generalize hWL : w2.alloc (Obj.cells #[Value.int IntKind.u32 1732584193, Value.int IntKind.u32 4023233417, Value.int IntKind.u32 2562383102, Value.int IntKind.u32 271733878] 23) = WL at hg hBL hzL
    clear hWL hb2 hA hB hB1
    obtain ⟨i0, hi0, hi1⟩ := Option.map_eq_some_iff.1 (show (Tryd.prog.info? 5).map (fun i => i.size) = some 1 by kernel_rfl)
    obtain ⟨p, hp⟩ : ∃ p, p = strOfNums ps := ⟨_, rfl⟩
    have hps : p.size = 64 * m := by rw [hp, strOfNums_size, HP.out]
    have NP := Aside0.mk hp
    clear hp
    go_loopg [6] (m + 1) (fun kq v6 w' => ∃ n : Nat, n + kq = m + 1 ∧ n ≤ m ∧ v6 = .int .i64 (64 * (n : Int)) ∧ w'.heap[w2.heap.size]? = some (.cells #[.int .u32 (fold p n).1, .int .u32 (fold p n).2.1, .int .u32 (fold p n).2.2.1, .int .u32 (fold p n).2.2.2] 23 (0, 0)) ∧ Below w2.heap.size w2 w' ∧ w2.heap.size < w'.heap.size)
    case atStart => exact ⟨0, by omega, by omega, rfl, hg, hBL, by omega⟩
    case round =>
      obtain ⟨n, hn, hnm, rfl, hY, hBw, hzw⟩ := hrel
      clear hg hBL hzL
      by_cases hl : n < m
      · have e3 := fold_at p n m hps hl
        have hnx : fold p (n + 1) = mixOut (p.extract (64 * n) (64 * n + 64)) (fold p n) := rfl
        have wa : IntKind.i64.wrap (64 * (n : Int) + 64) = 64 * (n : Int) + 64 := by rw [IntKind.wrap_i64]; omega
        have cb : decide (64 * (n : Int) + 64 ≤ (ps.length : Int)) = true := decide_eq_true (by have := HP.out; omega)
        have hsl := cut_mid (P := Tryd.prog) 50 5 .i64 .i64 Tryd.underlying50 hi0 1 hi1 A1 ps.length c1 (64 * (n : Int)) (64 * (n : Int) + 64) (by omega) (by omega) (by have := HP.out; omega) hc1
        have hCm := Kd.C_mid (lo := (64 * (n : Int)).toNat) (hi := (64 * (n : Int) + 64).toNat) (Kd.C_below hC1 hBw) (by omega) (by have := HP.out; omega) hc1
        obtain ⟨⟨A, B, C, D⟩, hf⟩ : ∃ f, f = fold p n := ⟨_, rfl⟩
        rw [← hf] at hY hnx
        obtain ⟨⟨A', B', C', D'⟩, hf'⟩ : ∃ f, f = fold p (n + 1) := ⟨_, rfl⟩
        have M : ∀ w, Calls Tryd.prog 12 #[.agg #[.int .u32 A, .int .u32 B, .int .u32 C, .int .u32 D], .string (p.extract (64 * n) (64 * n + 64))] w fun e w' => e = .returned (.agg #[.int .u32 A', .int .u32 B', .int .u32 C', .int .u32 D']) ∧ Below w.heap.size w w' := fun w => by
          have := mixS A B C D (p.extract (64 * n) (64 * n + 64)) w e3
          rw [← hnx, ← hf'] at this; exact this
        have hx : p.extract (64 * n) (64 * n + 64) = strOfNums ((ps.take (64 * (n : Int) + 64).toNat).drop (64 * (n : Int)).toNat) := by
          rw [NP.out, extract_strOfNums]; congr 1
        rw [hx] at M
        have hml : ((ps.take (64 * (n : Int) + 64).toNat).drop (64 * (n : Int)).toNat).length = (64 * (n : Int) + 64).toNat - (64 * (n : Int)).toNat := by have := HP.out; rw [List.length_drop, List.length_take]; omega
        rw [hml] at hCm
        have hd : ∀ c, (convert 50 9 (.slice (if c1 = (64 * (n : Int)).toNat then A1 else A1.map (·.add ((64 * (n : Int)).toNat * (Kd.int .u8).sz))) ((64 * (n : Int) + 64).toNat - (64 * (n : Int)).toNat) c)).run Tryd.prog wr.drew = .ok (.string (strOfNums ((ps.take (64 * (n : Int) + 64).toNat).drop (64 * (n : Int)).toNat))) wr.drew := fun c => Kd.C_string Tryd.underlying50 Tryd.underlying5 Tryd.underlying9 (Kd.C_below hCm (below_drew (Below.refl _ _)))
        obtain ⟨⟨m0, m1, m2, m3⟩, f0, f1, f2, f3⟩ := row4 hY
        change ∀ W : World, (Instr.slice 50 (.slice A1 ps.length c1) (some (.int .i64 (64 * (n : Int)))) (some (.int .i64 (64 * (n : Int) + 64))) none).run Tryd.prog W = .ok (.slice (if c1 = (64 * (n : Int)).toNat then A1 else A1.map (·.add ((64 * (n : Int)).toNat * (Kd.int .u8).sz))) ((64 * (n : Int) + 64).toNat - (64 * (n : Int)).toNat) (c1 - (64 * (n : Int)).toNat)) W at hsl
        generalize (if c1 = (64 * (n : Int)).toNat then A1 else A1.map (·.add ((64 * (n : Int)).toNat * (Kd.int .u8).sz))) = A9 at hsl hd
        generalize ((64 * (n : Int) + 64).toNat - (64 * (n : Int)).toNat) = n9 at hsl hd
        generalize (c1 - (64 * (n : Int)).toNat) = c9 at hsl
        replace hd := hd c9
        generalize strOfNums ((ps.take (64 * (n : Int) + 64).toNat).drop (64 * (n : Int)).toNat) = x at hd M
        clear hf hnx hCm hml hx
        go_upto_region 9 with fail
        go_region_with (go_at_call 12; refine (M _).mono ?_; rintro e w5 ⟨rfl, hb5⟩; have hY5 := (hb5.block w2.heap.size hzw).trans hY; have hz5 : w2.heap.size < w5.heap.size := Nat.lt_of_lt_of_le hzw hb5.size; have hB5 : Below w2.heap.size w2 w5 := below_step (below_drew hBw) hb5; clear m0 m1 m2 m3 f0 f1 f2 f3; obtain ⟨⟨m0, m1, m2, m3⟩, f0, f1, f2, f3⟩ := row4 hY5)
        all_goals go_wp2
        all_goals (obtain ⟨k1, rfl⟩ : ∃ k1, gk = k1 + 1 := ⟨gk - 1, by omega⟩)
        all_goals go_roundg k1
        all_goals first
          | (case measure => omega)
          | skip
        all_goals (case rel => refine ⟨n + 1, by omega, by omega, by first | (congr 1; done) | (congr 1; omega), ?_, below4 _ _ _ _ hB5 (Nat.le_refl _), by simpa using hz5⟩; rw [← hf']; exact set4 _ _ _ _ hY5)
      · obtain rfl : n = m := by omega
        have cb : decide (64 * (n : Int) + 64 ≤ (ps.length : Int)) = false := decide_eq_false (by have := HP.out; omega)
        have wa : IntKind.i64.wrap (64 * (n : Int) + 64) = 64 * (n : Int) + 64 := by rw [IntKind.wrap_i64]; omega
        obtain ⟨x, hx⟩ : ∃ x, x = fold p n := ⟨_, rfl⟩
        have hok : ok4 x := by rw [hx]; exact fold_ok _ _
        rw [← hx] at hY
        rw [NP.out] at hx
        have NX := Aside0.mk hx
        have hA3 := (hBw.block w.heap.size (by omega)).trans hA2
        have hB3 := (hBw.block (w.heap.size + 1) (by omega)).trans hB2
        have hB0 : Below w.heap.size w wr := below_step hBw2 hBw
        have hgz : w.heap.size + 2 ≤ w2.heap.size := by omega
        generalize w2.heap.size = g2 at *
        clear hx hBw hBw2 hA2 hB2 hC1 hps NP HP hpb hm0 hms hn hnm hl0 hl1 hi1 hi0
        go_wp2
        go_loopg [7] 4 (fun kq v7 w' => ∃ n : Nat, n + kq = 4 ∧ v7 = .int .i64 (n : Int) ∧ w'.heap[g2]? = some (.cells #[.int .u32 x.1, .int .u32 x.2.1, .int .u32 x.2.2.1, .int .u32 x.2.2.2] 23 (0, 0)) ∧ w'.heap[w.heap.size]? = some z16 ∧ w'.heap[w.heap.size + 1]? = some (.cells (arr .u8 (outL x (4 * n))) 28 (0, 0)) ∧ Below w.heap.size w w' ∧ g2 < w'.heap.size)
        case atStart => exact ⟨0, by omega, rfl, hY, hA3, hB3, hB0, hzw⟩
        case round =>
          obtain ⟨n1, hn1, rfl, hg2, hg0, hg1, hBw, hzw1⟩ := hrel
          clear hY hA3 hB3 hB0 hzw
          by_cases h4 : (n1 : Int) < 4
          · have h4b : decide ((n1 : Int) < 4) = true := decide_eq_true h4
            obtain ⟨k3, rfl⟩ : ∃ k3, gk = k3 + 1 := ⟨gk - 1, by omega⟩
            have n0 : (0 : Int) ≤ (n1 : Int) := by omega
            have hcc := comp_cell x n1 (by omega) hg2
            have hco := comp_ok x n1 (by omega) hok
            have hwd := word_spec (comp x n1) hco.1 hco.2
            have hwl : (word (comp x n1)).length = 4 := rfl
            go_wp2_with (go_at_call 51; refine (spec_PutWord.calls _ _ _ hwd).mono ?_; rintro e w5 ⟨v0, rfl, hR, hb5⟩; obtain ⟨g3, c3, rfl, hg3, hgl3, hcl3⟩ := Kd.RM_form (Kd.RM_of hR) (by rw [word_length]; omega))
            have hq2 := (hb5.block g2 hzw1).trans hg2
            have hq0 := (hb5.block w.heap.size (by omega)).trans hg0
            have hq1 := (hb5.block (w.heap.size + 1) (by omega)).trans hg1
            have hBq := below_step hBw hb5
            have hzq : g2 < w5.heap.size := Nat.lt_of_lt_of_le hzw1 hb5.size
            have hne3 : g3 ≠ w.heap.size + 1 := by omega
            have hce : ∀ i : Nat, i < 4 → w5.cell? ⟨g3, i, none⟩ = some (.int .u8 ((word16 x).getD (4 * n1 + i) 0)) := fun i hi => by
              rw [← comp_word x n1 i (by omega) hi]
              exact (Kd.RM_celln 0 (Kd.RM_of hR) (i : Int) (by omega) (by rw [word_length]; omega)).1
            clear hb5 hg0 hg1 hg2 hBw hR hcl3 hcc hwd
            go_loopg [9] 4 (fun kq v9 w' => ∃ i : Nat, i + kq = 4 ∧ v9 = .int .i64 (i : Int) ∧ w'.heap[g2]? = some (.cells #[.int .u32 x.1, .int .u32 x.2.1, .int .u32 x.2.2.1, .int .u32 x.2.2.2] 23 (0, 0)) ∧ w'.heap[w.heap.size]? = some z16 ∧ w'.heap[w.heap.size + 1]? = some (.cells (arr .u8 (outL x (4 * n1 + i))) 28 (0, 0)) ∧ Below w.heap.size w w' ∧ g2 < w'.heap.size ∧ w'.heap[g3]? = w5.heap[g3]?)
            case atStart => exact ⟨0, by omega, rfl, hq2, hq0, hq1, hBq, hzq, rfl⟩
            case round =>
              obtain ⟨i, hi, rfl, hg2, hg0, hg1, hBw, hzw2, hg3e⟩ := hrel
              clear hq2 hq0 hq1 hBq hzq
              by_cases h5 : (i : Int) < 4
              · have h5b : decide ((i : Int) < 4) = true := decide_eq_true h5
                have i0 : (0 : Int) ≤ (i : Int) := by omega
                have hci := (World.cell?_of_block (a := ⟨g3, i, none⟩) hg3e).trans (hce i (by omega))
                obtain ⟨hc1c, hf1c⟩ := cell16 (outL x (4 * n1 + i)) (4 * n1 + i) (by rw [outL_length _ _ (by omega)]; omega) hg1
                have w4 : IntKind.i64.wrap (4 * (n1 : Int)) = 4 * (n1 : Int) := by rw [IntKind.wrap_i64]; omega
                have w4b : IntKind.i64.wrap (4 * (n1 : Int) + (i : Int)) = 4 * (n1 : Int) + (i : Int) := by rw [IntKind.wrap_i64]; omega
                have q0 : (0 : Int) ≤ 4 * (n1 : Int) + (i : Int) := by omega
                have q1 : 4 * (n1 : Int) + (i : Int) < 16 := by omega
                have q2 : (4 * (n1 : Int) + (i : Int)).toNat = 4 * n1 + i := by omega
                go_wp2
                obtain ⟨k2, rfl⟩ : ∃ k2, gk = k2 + 1 := ⟨gk - 1, by omega⟩
                go_roundg k2
                case measure => omega
                case rel => exact ⟨i + 1, by omega, by simp, (Below.heap_setCell _ _ _ _ (by simp; omega)).trans hg2, (Below.heap_setCell _ _ _ _ (by simp)).trans hg0, (heap_setCell_self _ _ _ _ _ _ _ hg1).trans (by have h_ := outL_set x (4 * n1 + i) (by omega); rw [List.getD_eq_getElem?_getD] at h_; rw [h_]; rfl), Below.setCell hBw (by simp) _, by simpa using hzw2, (Below.heap_setCell _ _ _ _ (by simpa using hne3)).trans hg3e⟩
              · have h5b : decide ((i : Int) < 4) = false := decide_eq_false h5
                obtain rfl : i = 4 := by omega
                go_wp2
                go_roundg k3
                case measure => omega
                case rel => exact ⟨n1 + 1, by omega, by simp, hg2, hg0, by rw [Nat.mul_succ]; exact hg1, hBw, hzw2⟩
          · have h4b : decide ((n1 : Int) < 4) = false := decide_eq_false h4
            obtain rfl : n1 = 4 := by omega
            rw [show 4 * 4 = 16 from rfl, outL_end] at hg1
            have hres : word16 x = word16 (fold (strOfNums ps) n) := by rw [← NX.out]
            have hl16 := word16_length x
            have NR := Aside0.mk hres
            clear hres NX hok
            generalize word16 x = xs at hg1 NR hl16
            match xs, hl16, NR with
            | [a0, a1, a2, a3, a4, a5, a6, a7, a8, a9, a10, a11, a12, a13, a14, a15], _, NR =>
              obtain ⟨⟨b0, b1, b2, b3, b4, b5, b6, b7, b8, b9, b10, b11, b12, b13, b14, b15⟩, _⟩ := row16 (show wr.heap[w.heap.size + 1]? = some (.cells #[.int .u8 a0, .int .u8 a1, .int .u8 a2, .int .u8 a3, .int .u8 a4, .int .u8 a5, .int .u8 a6, .int .u8 a7, .int .u8 a8, .int .u8 a9, .int .u8 a10, .int .u8 a11, .int .u8 a12, .int .u8 a13, .int .u8 a14, .int .u8 a15] 28 (0, 0)) from hg1)
              obtain ⟨⟨m0, m1, m2, m3, m4, m5, m6, m7, m8, m9, m10, m11, m12, m13, m14, m15⟩, f0, f1, f2, f3, f4, f5, f6, f7, f8, f9, f10, f11, f12, f13, f14, f15⟩ := row16 hg0
              go_wp2
              refine bodyPost_ret (results_cell_row (p := 2) (ty := 28) rfl _ _ w.heap.size 28 #[.int .u8 a0, .int .u8 a1, .int .u8 a2, .int .u8 a3, .int .u8 a4, .int .u8 a5, .int .u8 a6, .int .u8 a7, .int .u8 a8, .int .u8 a9, .int .u8 a10, .int .u8 a11, .int .u8 a12, .int .u8 a13, .int .u8 a14, .int .u8 a15] (0, 0) _ rfl (set16 _ _ _ _ _ _ _ _ _ _ _ _ _ _ _ _  hg0) Tryd.underlying28 rfl (by kernel_rfl)) rfl ⟨by rw [← NR.out]; rfl, below16 _ _ _ _ _ _ _ _ _ _ _ _ _ _ _ _  hBw (Nat.le_refl _)⟩
  · rw [if_neg hs]
    have hpad : spec_PadStrong.f 0 s = some [] := by unfold spec_PadStrong.f; rw [if_pos (by omega)]
    obtain ⟨hA, hB, hz, hB1⟩ := two16 w
    go_enter Tryd.func16, Tryd.ntmps16
    go_upto_region 2 with fail
    generalize hW1 : (w.alloc z16).alloc z16 = W1 at hA hB hz hB1
    clear hW1
    go_upto_region 3 with (go_at_call 50; refine (spec_PadStrong.calls 0 s [] _ hpad).mono ?_; rintro e w2 ⟨v0, rfl, hR, hb2⟩; obtain ⟨A1, c1, rfl, hc1, hC1⟩ := Kd.RM_reads hR)
    have hA2 := (hb2.block w.heap.size (by omega)).trans hA
    have hB2 := (hb2.block (w.heap.size + 1) (by omega)).trans hB
    have hBw2 := below_step hB1 hb2
    clear hA hB hpad
    obtain ⟨⟨b0, b1, b2, b3, b4, b5, b6, b7, b8, b9, b10, b11, b12, b13, b14, b15⟩, _⟩ := row16 hB2
    obtain ⟨⟨m0, m1, m2, m3, m4, m5, m6, m7, m8, m9, m10, m11, m12, m13, m14, m15⟩, f0, f1, f2, f3, f4, f5, f6, f7, f8, f9, f10, f11, f12, f13, f14, f15⟩ := row16 hA2
    go_wp2
    refine bodyPost_ret (results_cell_row (p := 2) (ty := 28) rfl _ _ w.heap.size 28 #[.int .u8 0, .int .u8 0, .int .u8 0, .int .u8 0, .int .u8 0, .int .u8 0, .int .u8 0, .int .u8 0, .int .u8 0, .int .u8 0, .int .u8 0, .int .u8 0, .int .u8 0, .int .u8 0, .int .u8 0, .int .u8 0] (0, 0) _ rfl (set16 _ _ _ _ _ _ _ _ _ _ _ _ _ _ _ _  hA2) Tryd.underlying28 rfl (by kernel_rfl)) rfl ⟨rfl, below16 _ _ _ _ _ _ _ _ _ _ _ _ _ _ _ _  hBw2 (Nat.le_refl _)⟩
end Go.Proofs.YtbkodnhnadkhdaaDoor.Str
