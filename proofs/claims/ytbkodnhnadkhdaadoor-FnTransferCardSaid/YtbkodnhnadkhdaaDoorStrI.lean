/- The program's strong sum: what it hands back is sixteen bytes of the padded blocks. Condition: at most a million bytes; the tables hold what was laid. -/
import Derived.Test.YtbkodnhnadkhdaaDoorStrP
import Derived.Deep.RegionWith
import Derived.Deep.RegionHeld3
namespace Go.Proofs.YtbkodnhnadkhdaaDoor.Str
open Go Go.RowKit Go.Proofs.YtbkodnhnadkhdaaDoor.PM5 Go.Proofs.YtbkodnhnadkhdaaDoorW.PrintWords Go.Proofs.YtbkodnhnadkhdaaDoorW.PrintLast Go.Proofs.YtbkodnhnadkhdaaDoorW.PrintMore Go.Proofs.YtbkodnhnadkhdaaDoor.Arith Go.Proofs.YtbkodnhnadkhdaaDoor.Lib Go.Proofs.YtbkodnhnadkhdaaDoor.Word Go.Proofs.YtbkodnhnadkhdaaDoor.Pad Go.Proofs.YtbkodnhnadkhdaaDoor.Mix
set_option linter.unusedVariables false
set_option maxHeartbeats 2000000 in
set_option maxRecDepth 100000 in
theorem strongI (s : ByteArray) (hs : s.size ≤ 1000000) (w : World) (hT : Tab w) :
    Calls Tryd.prog 52 #[.string s] w fun e w' => e = .returned (.string (strOfNums (md5 s))) ∧ Below w.heap.size w w' := by
  obtain ⟨kp, hkp⟩ := impl_ev s hs
  have hpad := hkp kp (Nat.le_refl _)
  have hps := padS_size s
  have hm0 := blocks_pos s
  have hms := blocks_small s hs
  have hres : md5 s = word16 (fold (padS s) (blocks s)) := rfl
  rw [hres]
  change impl_padded.f kp s = some (padS s) at hpad
  clear hkp hres
  generalize padS s = p at *
  generalize blocks s = m at *
  go_enter Tryd.func52, Tryd.ntmps52
  go_wp2_with (go_at_call 94; refine (impl_padded.calls kp s p _ hpad).mono ?_; rintro e w2 ⟨rfl, hb2⟩)
  have hX : (w.alloc (Obj.cells #[.int .u32 1732584193, .int .u32 4023233417, .int .u32 2562383102, .int .u32 271733878] 23)).heap[w.heap.size]? = some (.cells #[.int .u32 1732584193, .int .u32 4023233417, .int .u32 2562383102, .int .u32 271733878] 23 (0, 0)) := heap_alloc_new w _
  have hX2 := (hb2.block w.heap.size (by simp)).trans hX
  have hz2 : w.heap.size < w2.heap.size := by have := hb2.size; simp at this; omega
  have hB2 : Below w.heap.size w w2 := below_step (below_alloc (Below.refl _ _) _) hb2
  clear hX hb2
  go_loopg [4] m (fun kq v4 w' => ∃ (n : Nat), n + kq = m ∧ v4 = .string (p.extract (64 * n) p.size) ∧ w'.heap[w.heap.size]? = some (.cells #[.int .u32 (fold p n).1, .int .u32 (fold p n).2.1, .int .u32 (fold p n).2.2.1, .int .u32 (fold p n).2.2.2] 23 (0, 0)) ∧ Below w.heap.size w w' ∧ w.heap.size < w'.heap.size)
  case atStart => exact ⟨0, by omega, by rw [Nat.mul_zero, extract_whole], hX2, hB2, hz2⟩
  case round =>
    obtain ⟨n, hn, rfl, hY, hBw, hzw⟩ := hrel
    clear hX2 hB2 hz2
    have hsz : (p.extract (64 * n) p.size).size = 64 * (m - n) := by rw [ByteArray.size_extract]; omega
    by_cases hl : n < m
    · have e1 := ext_ext p n m hps hl
      have e2 := ext_tail p n m hps hl
      have e3 := fold_at p n m hps hl
      have hne : (p.extract (64 * n) p.size).toList ≠ [] := fun h => by rw [toList_nil] at h; omega
      have hnb : ((p.extract (64 * n) p.size).toList == ([] : List UInt8)) = false := by simpa using hne
      have hnx : fold p (n + 1) = mixOut (p.extract (64 * n) (64 * n + 64)) (fold p n) := rfl
      rw [← e1] at hnx e3
      have hq : (64 : Int) ≤ ((p.extract (64 * n) p.size).size : Int) := by omega
      have hqb := eq_true hq
      have hqd := decide_eq_true hq
      have hqn : 64 ≤ (p.extract (64 * n) p.size).size := by omega
      have hqnb := eq_true hqn
      clear hsz
      generalize hxx : p.extract (64 * n) p.size = x at *
      clear e1
      obtain ⟨⟨A, B, C, D⟩, hf⟩ : ∃ f, f = fold p n := ⟨_, rfl⟩
      rw [← hf] at hY hnx
      obtain ⟨⟨A', B', C', D'⟩, hf'⟩ : ∃ f, f = fold p (n + 1) := ⟨_, rfl⟩
      have M : ∀ w, Tab w → Calls Tryd.prog 49 #[.agg #[.int .u32 A, .int .u32 B, .int .u32 C, .int .u32 D], .string (x.extract 0 64)] w fun e w' => e = .returned (.agg #[.int .u32 A', .int .u32 B', .int .u32 C', .int .u32 D']) ∧ Below w.heap.size w w' := fun w hw => by
        have := mix A B C D (x.extract 0 64) w hw e3
        rw [← hnx, ← hf'] at this; exact this
      obtain ⟨⟨m0, m1, m2, m3⟩, f0, f1, f2, f3⟩ := row4 hY
      clear hf hnx
      go_upto_region 5 with fail
      go_region_with (go_at_call 49; refine (M _ (hT.below (by repeat (first | exact hBw | apply pw_below_drewN | apply below_drew1)))).mono ?_; rintro e w5 ⟨rfl, hb5⟩; have hY5 := (hb5.block w.heap.size hzw).trans hY; have hz5 : w.heap.size < w5.heap.size := Nat.lt_of_lt_of_le hzw hb5.size; have hB5 : Below w.heap.size w w5 := below_step (by repeat (first | exact hBw | apply pw_below_drewN | apply below_drew1)) hb5; clear m0 m1 m2 m3 f0 f1 f2 f3; obtain ⟨⟨m0, m1, m2, m3⟩, f0, f1, f2, f3⟩ := row4 hY5)
      all_goals go_wp2
      all_goals (obtain ⟨k1, rfl⟩ : ∃ k1, gk = k1 + 1 := ⟨gk - 1, by omega⟩)
      all_goals go_roundg k1
      all_goals first
        | (case measure => omega)
        | skip
      all_goals (case rel => refine ⟨n + 1, by omega, by rw [hps], ?_, below4 _ _ _ _ hB5 (Nat.le_refl _), by simpa using hz5⟩; rw [← hf']; exact set4 _ _ _ _ hY5)
    · obtain rfl : n = m := by omega
      have hne : (p.extract (64 * n) p.size).toList = [] := by rw [toList_nil]; omega
      have hnb : ((p.extract (64 * n) p.size).toList == ([] : List UInt8)) = true := by simpa using hne
      obtain ⟨⟨A, B, C, D⟩, hf⟩ : ∃ f, f = fold p n := ⟨_, rfl⟩
      rw [← hf] at hY
      have ht := text16 (A, B, C, D)
      simp only at ht
      obtain ⟨⟨m0, m1, m2, m3⟩, f0, f1, f2, f3⟩ := row4 hY
      clear hY hps hpad hm0 hms hsz hn hs
      have hsm : ∀ x : Int, (strOfNums (word x)).size = 4 := fun x => by rw [strOfNums_size, word_length]
      have z1 := hsm A
      have z2 := hsm B
      have z3 := hsm C
      have z4 := hsm D
      have t1 := word_text A
      have t2 := word_text B
      have t3 := word_text C
      have t4 := word_text D
      clear hsm
      generalize strOfNums (word A) = sA at *
      generalize strOfNums (word B) = sB at *
      generalize strOfNums (word C) = sC at *
      generalize strOfNums (word D) = sD at *
      go_upto_region 6 with fail
      go_region_held3 (fun w' => w'.cell? ⟨w.heap.size, 0, none⟩ = some (.int .u32 A) ∧ w'.cell? ⟨w.heap.size, 1, none⟩ = some (.int .u32 B) ∧ w'.cell? ⟨w.heap.size, 2, none⟩ = some (.int .u32 C) ∧ w'.cell? ⟨w.heap.size, 3, none⟩ = some (.int .u32 D) ∧ Below w.heap.size w w')
        (first | exact ⟨m0, m1, m2, m3, below_drew1 hBw⟩ | exact ⟨m0, m1, m2, m3, below_drew hBw⟩ | (go_split_ands; exact ⟨pw_cell_below hb6 (by assumption), pw_cell_below hb6 (by assumption), pw_cell_below hb6 (by assumption), pw_cell_below hb6 (by assumption), below_step (by assumption) hb6⟩))
        (first | (go_at_call_of 53 (Value.int .u32 A); refine (impl_wordText.calls A sA _ t1).mono ?_; rintro e w6 ⟨rfl, hb6⟩) | (go_at_call_of 53 (Value.int .u32 B); refine (impl_wordText.calls B sB _ t2).mono ?_; rintro e w6 ⟨rfl, hb6⟩) | (go_at_call_of 53 (Value.int .u32 C); refine (impl_wordText.calls C sC _ t3).mono ?_; rintro e w6 ⟨rfl, hb6⟩) | (go_at_call_of 53 (Value.int .u32 D); refine (impl_wordText.calls D sD _ t4).mono ?_; rintro e w6 ⟨rfl, hb6⟩))
      all_goals (
        rename_i hS
        go_wp2
        go_ret
        exact ⟨rfl, hS.2.2.2.2⟩)
end Go.Proofs.YtbkodnhnadkhdaaDoor.Str
