/- SeedStrong and ShortSum, the program's and the reference's: bytes of one sum. Condition: a seed is a word; at most 2^20 bytes; for the program, the tables hold what was laid. -/
import Derived.Test.YtbkodnhnadkhdaaDoorStrQ
namespace Go.Proofs.YtbkodnhnadkhdaaDoor.Str
open Go Go.RowKit Go.Proofs.YtbkodnhnadkhdaaDoor.PM5 Go.Proofs.YtbkodnhnadkhdaaDoorW.PrintWords Go.Proofs.YtbkodnhnadkhdaaDoorW.PrintLast Go.Proofs.YtbkodnhnadkhdaaDoorW.PrintMore Go.Proofs.YtbkodnhnadkhdaaDoor.Arith Go.Proofs.YtbkodnhnadkhdaaDoor.Lib Go.Proofs.YtbkodnhnadkhdaaDoor.Word Go.Proofs.YtbkodnhnadkhdaaDoor.Pad Go.Proofs.YtbkodnhnadkhdaaDoor.Mix
set_option linter.unusedVariables false
set_option linter.unusedSimpArgs false
def seeded (a : Int) (s : ByteArray) : ByteArray := strOfNums (word a) ++ s
theorem seeded_size (a : Int) (s : ByteArray) : (seeded a s).size = 4 + s.size := by unfold seeded; rw [ByteArray.size_append, strOfNums_size, word_length]
theorem one16 (w : World) : (w.alloc z16).heap[w.heap.size]? = some z16 ∧ (w.alloc z16).heap.size = w.heap.size + 1 ∧ Below w.heap.size w (w.alloc z16) := ⟨heap_alloc_new w z16, by simp, below_alloc (Below.refl _ _) _⟩
theorem sumOf_long (s : ByteArray) (h : 20000 < s.size) : b16 (sumOf s) = .agg #[.int .u8 0, .int .u8 0, .int .u8 0, .int .u8 0, .int .u8 0, .int .u8 0, .int .u8 0, .int .u8 0, .int .u8 0, .int .u8 0, .int .u8 0, .int .u8 0, .int .u8 0, .int .u8 0, .int .u8 0, .int .u8 0] := by
  unfold sumOf; rw [if_neg (by omega)]; rfl
set_option maxHeartbeats 4000000 in
set_option maxRecDepth 100000 in
theorem seedI (a : Int) (s : ByteArray) (w : World) (hs : s.size ≤ 1048576) (hT : Tab w) :
    Calls Tryd.prog 20 #[.int .u32 a, .string s] w fun e w' => e = .returned (b16 (sumOf (seeded a s))) ∧ Below w.heap.size w w' := by
  obtain ⟨xs, hxs⟩ : ∃ xs, xs = sumOf (seeded a s) := ⟨_, rfl⟩
  have hl : xs.length = 16 := by rw [hxs]; unfold sumOf; split <;> rfl
  have MO : ∀ w, Tab w → Calls Tryd.prog 17 #[.string (strOfNums (word a) ++ s)] w fun e w' => e = .returned (b16 xs) ∧ Below w.heap.size w w' := fun w h => by rw [hxs]; exact strongOfI _ w h
  rw [← hxs]
  clear hxs
  match xs, hl, MO with
  | [a0, a1, a2, a3, a4, a5, a6, a7, a8, a9, a10, a11, a12, a13, a14, a15], _, MO =>
    replace MO : ∀ w, Tab w → Calls Tryd.prog 17 #[.string (strOfNums (word a) ++ s)] w fun e w' => e = .returned (.agg #[.int .u8 a0, .int .u8 a1, .int .u8 a2, .int .u8 a3, .int .u8 a4, .int .u8 a5, .int .u8 a6, .int .u8 a7, .int .u8 a8, .int .u8 a9, .int .u8 a10, .int .u8 a11, .int .u8 a12, .int .u8 a13, .int .u8 a14, .int .u8 a15]) ∧ Below w.heap.size w w' := MO
    have t1 := word_text a
    have z1 : (strOfNums (word a)).size = 4 := by rw [strOfNums_size, word_length]
    generalize strOfNums (word a) = sA at *
    obtain ⟨hA, hz, hB⟩ := one16 w
    have g1 : (9223372036854775807 < sA.size + s.size) = False := eq_false (by omega)
    have g2 : (9223372036854775807 < 4 + s.size) = False := eq_false (by omega)
    go_enter Tryd.func20, Tryd.ntmps20
    go_upto_region 1 with fail
    generalize hW1 : w.alloc z16 = W1 at hA hz hB
    clear hW1
    go_wp2_with (first | (go_at_call 53; refine (impl_wordText.calls a sA _ t1).mono ?_; rintro e w2 ⟨rfl, hb2⟩) | (go_at_call 17; refine (MO _ (hT.below (below_step hB hb2))).mono ?_; rintro e w3 ⟨rfl, hb3⟩; have hY := (hb3.block w.heap.size (by have := hb2.size; omega)).trans ((hb2.block w.heap.size (by omega)).trans hA); obtain ⟨⟨m0, m1, m2, m3, m4, m5, m6, m7, m8, m9, m10, m11, m12, m13, m14, m15⟩, f0, f1, f2, f3, f4, f5, f6, f7, f8, f9, f10, f11, f12, f13, f14, f15⟩ := row16 hY))
    refine bodyPost_ret (results_cell_row (p := 4) (ty := 28) rfl _ _ w.heap.size 28 #[.int .u8 a0, .int .u8 a1, .int .u8 a2, .int .u8 a3, .int .u8 a4, .int .u8 a5, .int .u8 a6, .int .u8 a7, .int .u8 a8, .int .u8 a9, .int .u8 a10, .int .u8 a11, .int .u8 a12, .int .u8 a13, .int .u8 a14, .int .u8 a15] (0, 0) _ rfl (set16 _ _ _ _ _ _ _ _ _ _ _ _ _ _ _ _ hY) Tryd.underlying28 rfl (by kernel_rfl)) rfl ⟨rfl, below16 _ _ _ _ _ _ _ _ _ _ _ _ _ _ _ _ (below_step (below_step hB hb2) hb3) (Nat.le_refl _)⟩
set_option maxHeartbeats 4000000 in
set_option maxRecDepth 100000 in
theorem seedS (a : Int) (ha : 0 ≤ a ∧ a < 4294967296) (s : ByteArray) (w : World) (hs : s.size ≤ 1048576) :
    Calls Tryd.prog 19 #[.int .u32 a, .string s] w fun e w' => e = .returned (b16 (sumOf (seeded a s))) ∧ Below w.heap.size w w' := by
  by_cases hl : (20000 : Int) < (s.size : Int)
  · have h1 : decide ((20000 : Int) < (s.size : Int)) = true := decide_eq_true hl
    have h2 : decide (20000 < s.size) = true := decide_eq_true (by omega)
    rw [sumOf_long _ (by rw [seeded_size]; omega)]
    obtain ⟨hA, hz, hB⟩ := one16 w
    obtain ⟨⟨m0, m1, m2, m3, m4, m5, m6, m7, m8, m9, m10, m11, m12, m13, m14, m15⟩, f0, f1, f2, f3, f4, f5, f6, f7, f8, f9, f10, f11, f12, f13, f14, f15⟩ := row16 hA
    go_enter Tryd.func19, Tryd.ntmps19
    go_wp2
    exact bodyPost_ret (results_cell_row (p := 4) (ty := 28) rfl _ _ w.heap.size 28 _ (0, 0) _ rfl hA Tryd.underlying28 rfl (by kernel_rfl)) rfl ⟨rfl, hB⟩
  · have h1 : decide ((20000 : Int) < (s.size : Int)) = false := decide_eq_false hl
    have h2 : decide (20000 < s.size) = false := decide_eq_false (by omega)
    obtain ⟨xs, hxs⟩ : ∃ xs, xs = sumOf (seeded a s) := ⟨_, rfl⟩
    have hlx : xs.length = 16 := by rw [hxs]; unfold sumOf; split <;> rfl
    have MO : ∀ w, Calls Tryd.prog 16 #[.string (strOfNums (word a) ++ s)] w fun e w' => e = .returned (b16 xs) ∧ Below w.heap.size w w' := fun w => by rw [hxs]; exact strongOfS _ w
    rw [← hxs]
    clear hxs
    match xs, hlx, MO with
    | [a0, a1, a2, a3, a4, a5, a6, a7, a8, a9, a10, a11, a12, a13, a14, a15], _, MO =>
      replace MO : ∀ w, Calls Tryd.prog 16 #[.string (strOfNums (word a) ++ s)] w fun e w' => e = .returned (.agg #[.int .u8 a0, .int .u8 a1, .int .u8 a2, .int .u8 a3, .int .u8 a4, .int .u8 a5, .int .u8 a6, .int .u8 a7, .int .u8 a8, .int .u8 a9, .int .u8 a10, .int .u8 a11, .int .u8 a12, .int .u8 a13, .int .u8 a14, .int .u8 a15]) ∧ Below w.heap.size w w' := MO
      have t1 := word_spec a ha.1 ha.2
      have z1 : (strOfNums (word a)).size = 4 := by rw [strOfNums_size, word_length]
      have l1 : (word a).length = 4 := rfl
      obtain ⟨hA, hz, hB⟩ := one16 w
      have g1 : (9223372036854775807 < (strOfNums (word a)).size + s.size) = False := eq_false (by omega)
      have g2 : (9223372036854775807 < 4 + s.size) = False := eq_false (by omega)
      go_enter Tryd.func19, Tryd.ntmps19
      go_upto_region 3 with fail
      generalize hW1 : w.alloc z16 = W1 at hA hz hB
      clear hW1
      generalize hsA : strOfNums (word a) = sA at *
      go_wp2_with (first | (go_at_call 51; refine (spec_PutWord.calls a (word a) _ t1).mono ?_; rintro e w2 ⟨v0, rfl, hR, hb2⟩; obtain ⟨A1, c1, rfl, hc1, hC1⟩ := Kd.RM_reads (Kd.RM_of hR); have hcv := Kd.C_string (c := c1) Tryd.underlying50 Tryd.underlying5 Tryd.underlying9 hC1; rw [hsA, l1] at hcv) | (go_at_call 16; refine (MO _).mono ?_; rintro e w3 ⟨rfl, hb3⟩; have hY := (hb3.block w.heap.size (by have := hb2.size; omega)).trans ((hb2.block w.heap.size (by omega)).trans hA); obtain ⟨⟨m0, m1, m2, m3, m4, m5, m6, m7, m8, m9, m10, m11, m12, m13, m14, m15⟩, f0, f1, f2, f3, f4, f5, f6, f7, f8, f9, f10, f11, f12, f13, f14, f15⟩ := row16 hY))
      exact bodyPost_ret (results_cell_row (p := 4) (ty := 28) rfl _ _ w.heap.size 28 #[.int .u8 a0, .int .u8 a1, .int .u8 a2, .int .u8 a3, .int .u8 a4, .int .u8 a5, .int .u8 a6, .int .u8 a7, .int .u8 a8, .int .u8 a9, .int .u8 a10, .int .u8 a11, .int .u8 a12, .int .u8 a13, .int .u8 a14, .int .u8 a15] (0, 0) _ rfl (set16 _ _ _ _ _ _ _ _ _ _ _ _ _ _ _ _  hY) Tryd.underlying28 rfl (by kernel_rfl)) rfl ⟨rfl, below16 _ _ _ _ _ _ _ _ _ _ _ _ _ _ _ _  (below_step (below_step hB hb2) hb3) (Nat.le_refl _)⟩
end Go.Proofs.YtbkodnhnadkhdaaDoor.Str
