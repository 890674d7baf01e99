/- The laws on StrongOf and SeedStrong: their walks. Condition: a seed is a word; the tables hold what was laid. -/
import Derived.Test.YtbkodnhnadkhdaaDoorStrV
namespace Go.Proofs.YtbkodnhnadkhdaaDoor.Str
open Go Go.RowKit Go.Proofs.YtbkodnhnadkhdaaDoor.PM5 Go.Proofs.YtbkodnhnadkhdaaDoorW.PrintWords Go.Proofs.YtbkodnhnadkhdaaDoorW.PrintLast Go.Proofs.YtbkodnhnadkhdaaDoorW.PrintMore Go.Proofs.YtbkodnhnadkhdaaDoor.Arith Go.Proofs.YtbkodnhnadkhdaaDoor.Lib Go.Proofs.YtbkodnhnadkhdaaDoor.Word Go.Proofs.YtbkodnhnadkhdaaDoor.Pad Go.Proofs.YtbkodnhnadkhdaaDoor.Mix
set_option linter.unusedVariables false
set_option linter.unusedSimpArgs false
set_option maxHeartbeats 2000000 in
set_option maxRecDepth 100000 in
theorem eq16 (xs : List Int) (hx : xs.length = 16) (w : World) :
    Calls Tryd.prog 18 #[.agg (arr .u8 xs), .agg (arr .u8 xs)] w fun e w' => e = .returned (.bool true) ∧ Below w.heap.size w w' := by
  go_enter Tryd.func18, Tryd.ntmps18
  go_wp2
  obtain ⟨W1, hW1⟩ : ∃ W1, W1 = ((w.alloc (Obj.cells (arr .u8 xs) 28)).alloc (Obj.cells (arr .u8 xs) 28)) := ⟨_, rfl⟩
  have hB1 : Below w.heap.size w W1 := by rw [hW1]; exact below_alloc (below_alloc (Below.refl _ _) _) _
  have hc0 : ∀ i, i < 16 → W1.cell? ⟨w.heap.size, i, none⟩ = some (.int .u8 (xs.getD i 0)) := fun i hi => by
    rw [hW1, ← arr_at .u8 xs i (by omega)]
    have h1 := heap_alloc_new w (Obj.cells (arr .u8 xs) 28)
    have h2 := (below_alloc (Below.refl (w.alloc (Obj.cells (arr .u8 xs) 28)).heap.size _) (Obj.cells (arr .u8 xs) 28)).block w.heap.size (by simp)
    rw [h1] at h2
    simp only [World.cell?, h2]; rfl
  have hc1 : ∀ i, i < 16 → W1.cell? ⟨w.heap.size + 1, i, none⟩ = some (.int .u8 (xs.getD i 0)) := fun i hi => by
    rw [hW1, ← arr_at .u8 xs i (by omega)]
    have h1 := heap_alloc_new (w.alloc (Obj.cells (arr .u8 xs) 28)) (Obj.cells (arr .u8 xs) 28)
    rw [show (w.alloc (Obj.cells (arr .u8 xs) 28)).heap.size = w.heap.size + 1 by simp] at h1
    simp only [World.cell?, h1]; rfl
  rw [← hW1]
  clear hW1
  go_loopg [5] 16 (fun kq v5 w' => ∃ (n : Nat), n + kq = 16 ∧ v5 = .int .i64 (n : Int) ∧ Below W1.heap.size W1 w')
  case atStart => exact ⟨0, by omega, rfl, Below.refl _ _⟩
  case round =>
    obtain ⟨n, hn, rfl, hBw⟩ := hrel
    by_cases h4 : (n : Int) < 16
    · have h4b : decide ((n : Int) < 16) = true := decide_eq_true h4
      have c0 := pw_cell_below hBw (hc0 n (by omega))
      have c1 := pw_cell_below hBw (hc1 n (by omega))
      clear hx hc0 hc1
      have n0 : (0 : Int) ≤ (n : Int) := by omega
      go_wp2
      go_quiet (fail)
      go_wp2
      obtain ⟨k1, rfl⟩ : ∃ k1, gk = k1 + 1 := ⟨gk - 1, by omega⟩
      go_roundg k1
      case measure => omega
      case rel => exact ⟨n + 1, by omega, by simp, pw_below_drewN hBw _⟩
    · have h4b : decide ((n : Int) < 16) = false := decide_eq_false h4
      go_wp2
      go_ret
      exact ⟨rfl, below_step hB1 hBw⟩
set_option maxHeartbeats 4000000 in
set_option maxRecDepth 100000 in
theorem lawStrongOf (s : ByteArray) (w : World) (hT : Tab w) :
    Calls Tryd.prog 4 #[.string s] w fun e w' => e = .returned (.bool true) ∧ Below w.heap.size w w' := by
  by_cases hz : (1048576 : Int) < (s.size : Int)
  · have hz1 : decide ((1048576 : Int) < (s.size : Int)) = true := decide_eq_true hz
    have hz2 : decide (1048576 < s.size) = true := decide_eq_true (by omega)
    go_enter Tryd.func4, Tryd.ntmps4
    go_wp2
    go_ret
    exact ⟨rfl, Below.refl _ _⟩
  · have hz1 : decide ((1048576 : Int) < (s.size : Int)) = false := decide_eq_false hz
    have hz2 : decide (1048576 < s.size) = false := decide_eq_false (by omega)
    obtain ⟨xs, hxs⟩ : ∃ xs, xs = sumOf (s) := ⟨_, rfl⟩
    have hlx : xs.length = 16 := by rw [hxs]; unfold sumOf; split <;> rfl
    have MS : ∀ w, Calls Tryd.prog 16 #[.string s] w fun e w' => e = .returned (b16 xs) ∧ Below w.heap.size w w' := fun w => by rw [hxs]; exact strongOfS s w
    have MI : ∀ w, Tab w → Calls Tryd.prog 17 #[.string s] w fun e w' => e = .returned (b16 xs) ∧ Below w.heap.size w w' := fun w h => by rw [hxs]; exact strongOfI s w h
    clear hxs
    match xs, hlx, MS, MI with
    | [a0, a1, a2, a3, a4, a5, a6, a7, a8, a9, a10, a11, a12, a13, a14, a15], _, MS, MI =>
      replace MS : ∀ w, Calls Tryd.prog 16 #[.string s] w fun e w' => e = .returned (.agg #[.int .u8 a0, .int .u8 a1, .int .u8 a2, .int .u8 a3, .int .u8 a4, .int .u8 a5, .int .u8 a6, .int .u8 a7, .int .u8 a8, .int .u8 a9, .int .u8 a10, .int .u8 a11, .int .u8 a12, .int .u8 a13, .int .u8 a14, .int .u8 a15]) ∧ Below w.heap.size w w' := MS
      replace MI : ∀ w, Tab w → Calls Tryd.prog 17 #[.string s] w fun e w' => e = .returned (.agg #[.int .u8 a0, .int .u8 a1, .int .u8 a2, .int .u8 a3, .int .u8 a4, .int .u8 a5, .int .u8 a6, .int .u8 a7, .int .u8 a8, .int .u8 a9, .int .u8 a10, .int .u8 a11, .int .u8 a12, .int .u8 a13, .int .u8 a14, .int .u8 a15]) ∧ Below w.heap.size w w' := MI
      go_enter Tryd.func4, Tryd.ntmps4
      go_upto_region 4 with (go_at_call 16; refine (MS _).mono ?_; rintro e w2 ⟨rfl, hb2⟩)
      have hg2 : (w2.alloc (Obj.cells #[.int .u8 a0, .int .u8 a1, .int .u8 a2, .int .u8 a3, .int .u8 a4, .int .u8 a5, .int .u8 a6, .int .u8 a7, .int .u8 a8, .int .u8 a9, .int .u8 a10, .int .u8 a11, .int .u8 a12, .int .u8 a13, .int .u8 a14, .int .u8 a15] 28)).heap[w2.heap.size]? = some (.cells #[.int .u8 a0, .int .u8 a1, .int .u8 a2, .int .u8 a3, .int .u8 a4, .int .u8 a5, .int .u8 a6, .int .u8 a7, .int .u8 a8, .int .u8 a9, .int .u8 a10, .int .u8 a11, .int .u8 a12, .int .u8 a13, .int .u8 a14, .int .u8 a15] 28 (0, 0)) := heap_alloc_new w2 _
      have hB2 : Below w.heap.size w (w2.alloc (Obj.cells #[.int .u8 a0, .int .u8 a1, .int .u8 a2, .int .u8 a3, .int .u8 a4, .int .u8 a5, .int .u8 a6, .int .u8 a7, .int .u8 a8, .int .u8 a9, .int .u8 a10, .int .u8 a11, .int .u8 a12, .int .u8 a13, .int .u8 a14, .int .u8 a15] 28)) := below_alloc hb2 _
      have hz2 : (w2.alloc (Obj.cells #[.int .u8 a0, .int .u8 a1, .int .u8 a2, .int .u8 a3, .int .u8 a4, .int .u8 a5, .int .u8 a6, .int .u8 a7, .int .u8 a8, .int .u8 a9, .int .u8 a10, .int .u8 a11, .int .u8 a12, .int .u8 a13, .int .u8 a14, .int .u8 a15] 28)).heap.size = w2.heap.size + 1 := by simp
      generalize w2.alloc (Obj.cells #[.int .u8 a0, .int .u8 a1, .int .u8 a2, .int .u8 a3, .int .u8 a4, .int .u8 a5, .int .u8 a6, .int .u8 a7, .int .u8 a8, .int .u8 a9, .int .u8 a10, .int .u8 a11, .int .u8 a12, .int .u8 a13, .int .u8 a14, .int .u8 a15] 28) = W2 at hg2 hB2 hz2 ⊢
      generalize w2.heap.size = g2 at *
      clear hb2 MS
      go_upto_region 5 with (go_at_call 17; refine (MI _ (hT.below hB2)).mono ?_; rintro e w3 ⟨rfl, hb3⟩)
      have hg3 : (w3.alloc (Obj.cells #[.int .u8 a0, .int .u8 a1, .int .u8 a2, .int .u8 a3, .int .u8 a4, .int .u8 a5, .int .u8 a6, .int .u8 a7, .int .u8 a8, .int .u8 a9, .int .u8 a10, .int .u8 a11, .int .u8 a12, .int .u8 a13, .int .u8 a14, .int .u8 a15] 28)).heap[w3.heap.size]? = some (.cells #[.int .u8 a0, .int .u8 a1, .int .u8 a2, .int .u8 a3, .int .u8 a4, .int .u8 a5, .int .u8 a6, .int .u8 a7, .int .u8 a8, .int .u8 a9, .int .u8 a10, .int .u8 a11, .int .u8 a12, .int .u8 a13, .int .u8 a14, .int .u8 a15] 28 (0, 0)) := heap_alloc_new w3 _
      have hB3 : Below w.heap.size w (w3.alloc (Obj.cells #[.int .u8 a0, .int .u8 a1, .int .u8 a2, .int .u8 a3, .int .u8 a4, .int .u8 a5, .int .u8 a6, .int .u8 a7, .int .u8 a8, .int .u8 a9, .int .u8 a10, .int .u8 a11, .int .u8 a12, .int .u8 a13, .int .u8 a14, .int .u8 a15] 28)) := below_alloc (below_step hB2 hb3) _
      have hg2b : (w3.alloc (Obj.cells #[.int .u8 a0, .int .u8 a1, .int .u8 a2, .int .u8 a3, .int .u8 a4, .int .u8 a5, .int .u8 a6, .int .u8 a7, .int .u8 a8, .int .u8 a9, .int .u8 a10, .int .u8 a11, .int .u8 a12, .int .u8 a13, .int .u8 a14, .int .u8 a15] 28)).heap[g2]? = some (.cells #[.int .u8 a0, .int .u8 a1, .int .u8 a2, .int .u8 a3, .int .u8 a4, .int .u8 a5, .int .u8 a6, .int .u8 a7, .int .u8 a8, .int .u8 a9, .int .u8 a10, .int .u8 a11, .int .u8 a12, .int .u8 a13, .int .u8 a14, .int .u8 a15] 28 (0, 0)) := (hBx_ (by have := hb3.size; omega)).trans ((hb3.block g2 (by omega)).trans hg2)
      generalize w3.alloc (Obj.cells #[.int .u8 a0, .int .u8 a1, .int .u8 a2, .int .u8 a3, .int .u8 a4, .int .u8 a5, .int .u8 a6, .int .u8 a7, .int .u8 a8, .int .u8 a9, .int .u8 a10, .int .u8 a11, .int .u8 a12, .int .u8 a13, .int .u8 a14, .int .u8 a15] 28) = W3 at hg3 hB3 hg2b ⊢
      generalize w3.heap.size = g3 at *
      clear hb3 MI hg2 hB2
      obtain ⟨⟨m0, m1, m2, m3, m4, m5, m6, m7, m8, m9, m10, m11, m12, m13, m14, m15⟩, _⟩ := row16 hg2b
      obtain ⟨⟨n0, n1, n2, n3, n4, n5, n6, n7, n8, n9, n10, n11, n12, n13, n14, n15⟩, _⟩ := row16 hg3
      go_wp2_with (go_at_call 18; refine (eq16 [a0, a1, a2, a3, a4, a5, a6, a7, a8, a9, a10, a11, a12, a13, a14, a15] rfl _).mono ?_; rintro e w4 ⟨rfl, hb4⟩)
      go_ret
      exact ⟨rfl, below_step hB3 hb4⟩
set_option maxHeartbeats 4000000 in
set_option maxRecDepth 100000 in
theorem lawSeedStrong (a : Int) (ha : 0 ≤ a ∧ a < 4294967296) (s : ByteArray) (w : World) (hT : Tab w) :
    Calls Tryd.prog 5 #[.int .u32 a, .string s] w fun e w' => e = .returned (.bool true) ∧ Below w.heap.size w w' := by
  by_cases hz : (1048576 : Int) < (s.size : Int)
  · have hz1 : decide ((1048576 : Int) < (s.size : Int)) = true := decide_eq_true hz
    have hz2 : decide (1048576 < s.size) = true := decide_eq_true (by omega)
    go_enter Tryd.func5, Tryd.ntmps5
    go_wp2
    go_ret
    exact ⟨rfl, Below.refl _ _⟩
  · have hz1 : decide ((1048576 : Int) < (s.size : Int)) = false := decide_eq_false hz
    have hz2 : decide (1048576 < s.size) = false := decide_eq_false (by omega)
    obtain ⟨xs, hxs⟩ : ∃ xs, xs = sumOf (seeded a s) := ⟨_, rfl⟩
    have hlx : xs.length = 16 := by rw [hxs]; unfold sumOf; split <;> rfl
    have MS : ∀ w, Calls Tryd.prog 19 #[.int .u32 a, .string s] w fun e w' => e = .returned (b16 xs) ∧ Below w.heap.size w w' := fun w => by rw [hxs]; exact seedS a ha s w (by omega)
    have MI : ∀ w, Tab w → Calls Tryd.prog 20 #[.int .u32 a, .string s] w fun e w' => e = .returned (b16 xs) ∧ Below w.heap.size w w' := fun w h => by rw [hxs]; exact seedI a s w (by omega) h
    clear hxs
    match xs, hlx, MS, MI with
    | [a0, a1, a2, a3, a4, a5, a6, a7, a8, a9, a10, a11, a12, a13, a14, a15], _, MS, MI =>
      replace MS : ∀ w, Calls Tryd.prog 19 #[.int .u32 a, .string s] w fun e w' => e = .returned (.agg #[.int .u8 a0, .int .u8 a1, .int .u8 a2, .int .u8 a3, .int .u8 a4, .int .u8 a5, .int .u8 a6, .int .u8 a7, .int .u8 a8, .int .u8 a9, .int .u8 a10, .int .u8 a11, .int .u8 a12, .int .u8 a13, .int .u8 a14, .int .u8 a15]) ∧ Below w.heap.size w w' := MS
      replace MI : ∀ w, Tab w → Calls Tryd.prog 20 #[.int .u32 a, .string s] w fun e w' => e = .returned (.agg #[.int .u8 a0, .int .u8 a1, .int .u8 a2, .int .u8 a3, .int .u8 a4, .int .u8 a5, .int .u8 a6, .int .u8 a7, .int .u8 a8, .int .u8 a9, .int .u8 a10, .int .u8 a11, .int .u8 a12, .int .u8 a13, .int .u8 a14, .int .u8 a15]) ∧ Below w.heap.size w w' := MI
      go_enter Tryd.func5, Tryd.ntmps5
      go_upto_region 4 with (go_at_call 19; refine (MS _).mono ?_; rintro e w2 ⟨rfl, hb2⟩)
      have hg2 : (w2.alloc (Obj.cells #[.int .u8 a0, .int .u8 a1, .int .u8 a2, .int .u8 a3, .int .u8 a4, .int .u8 a5, .int .u8 a6, .int .u8 a7, .int .u8 a8, .int .u8 a9, .int .u8 a10, .int .u8 a11, .int .u8 a12, .int .u8 a13, .int .u8 a14, .int .u8 a15] 28)).heap[w2.heap.size]? = some (.cells #[.int .u8 a0, .int .u8 a1, .int .u8 a2, .int .u8 a3, .int .u8 a4, .int .u8 a5, .int .u8 a6, .int .u8 a7, .int .u8 a8, .int .u8 a9, .int .u8 a10, .int .u8 a11, .int .u8 a12, .int .u8 a13, .int .u8 a14, .int .u8 a15] 28 (0, 0)) := heap_alloc_new w2 _
      have hB2 : Below w.heap.size w (w2.alloc (Obj.cells #[.int .u8 a0, .int .u8 a1, .int .u8 a2, .int .u8 a3, .int .u8 a4, .int .u8 a5, .int .u8 a6, .int .u8 a7, .int .u8 a8, .int .u8 a9, .int .u8 a10, .int .u8 a11, .int .u8 a12, .int .u8 a13, .int .u8 a14, .int .u8 a15] 28)) := below_alloc hb2 _
      have hz2 : (w2.alloc (Obj.cells #[.int .u8 a0, .int .u8 a1, .int .u8 a2, .int .u8 a3, .int .u8 a4, .int .u8 a5, .int .u8 a6, .int .u8 a7, .int .u8 a8, .int .u8 a9, .int .u8 a10, .int .u8 a11, .int .u8 a12, .int .u8 a13, .int .u8 a14, .int .u8 a15] 28)).heap.size = w2.heap.size + 1 := by simp
      generalize w2.alloc (Obj.cells #[.int .u8 a0, .int .u8 a1, .int .u8 a2, .int .u8 a3, .int .u8 a4, .int .u8 a5, .int .u8 a6, .int .u8 a7, .int .u8 a8, .int .u8 a9, .int .u8 a10, .int .u8 a11, .int .u8 a12, .int .u8 a13, .int .u8 a14, .int .u8 a15] 28) = W2 at hg2 hB2 hz2 ⊢
      generalize w2.heap.size = g2 at *
      clear hb2 MS
      go_upto_region 5 with (go_at_call 20; refine (MI _ (hT.below hB2)).mono ?_; rintro e w3 ⟨rfl, hb3⟩)
      have hg3 : (w3.alloc (Obj.cells #[.int .u8 a0, .int .u8 a1, .int .u8 a2, .int .u8 a3, .int .u8 a4, .int .u8 a5, .int .u8 a6, .int .u8 a7, .int .u8 a8, .int .u8 a9, .int .u8 a10, .int .u8 a11, .int .u8 a12, .int .u8 a13, .int .u8 a14, .int .u8 a15] 28)).heap[w3.heap.size]? = some (.cells #[.int .u8 a0, .int .u8 a1, .int .u8 a2, .int .u8 a3, .int .u8 a4, .int .u8 a5, .int .u8 a6, .int .u8 a7, .int .u8 a8, .int .u8 a9, .int .u8 a10, .int .u8 a11, .int .u8 a12, .int .u8 a13, .int .u8 a14, .int .u8 a15] 28 (0, 0)) := heap_alloc_new w3 _
      have hB3 : Below w.heap.size w (w3.alloc (Obj.cells #[.int .u8 a0, .int .u8 a1, .int .u8 a2, .int .u8 a3, .int .u8 a4, .int .u8 a5, .int .u8 a6, .int .u8 a7, .int .u8 a8, .int .u8 a9, .int .u8 a10, .int .u8 a11, .int .u8 a12, .int .u8 a13, .int .u8 a14, .int .u8 a15] 28)) := below_alloc (below_step hB2 hb3) _
      have hg2b : (w3.alloc (Obj.cells #[.int .u8 a0, .int .u8 a1, .int .u8 a2, .int .u8 a3, .int .u8 a4, .int .u8 a5, .int .u8 a6, .int .u8 a7, .int .u8 a8, .int .u8 a9, .int .u8 a10, .int .u8 a11, .int .u8 a12, .int .u8 a13, .int .u8 a14, .int .u8 a15] 28)).heap[g2]? = some (.cells #[.int .u8 a0, .int .u8 a1, .int .u8 a2, .int .u8 a3, .int .u8 a4, .int .u8 a5, .int .u8 a6, .int .u8 a7, .int .u8 a8, .int .u8 a9, .int .u8 a10, .int .u8 a11, .int .u8 a12, .int .u8 a13, .int .u8 a14, .int .u8 a15] 28 (0, 0)) := (hBx_ (by have := hb3.size; omega)).trans ((hb3.block g2 (by omega)).trans hg2)
      generalize w3.alloc (Obj.cells #[.int .u8 a0, .int .u8 a1, .int .u8 a2, .int .u8 a3, .int .u8 a4, .int .u8 a5, .int .u8 a6, .int .u8 a7, .int .u8 a8, .int .u8 a9, .int .u8 a10, .int .u8 a11, .int .u8 a12, .int .u8 a13, .int .u8 a14, .int .u8 a15] 28) = W3 at hg3 hB3 hg2b ⊢
      generalize w3.heap.size = g3 at *
      clear hb3 MI hg2 hB2
      obtain ⟨⟨m0, m1, m2, m3, m4, m5, m6, m7, m8, m9, m10, m11, m12, m13, m14, m15⟩, _⟩ := row16 hg2b
      obtain ⟨⟨n0, n1, n2, n3, n4, n5, n6, n7, n8, n9, n10, n11, n12, n13, n14, n15⟩, _⟩ := row16 hg3
      go_wp2_with (go_at_call 18; refine (eq16 [a0, a1, a2, a3, a4, a5, a6, a7, a8, a9, a10, a11, a12, a13, a14, a15] rfl _).mono ?_; rintro e w4 ⟨rfl, hb4⟩)
      go_ret
      exact ⟨rfl, below_step hB3 hb4⟩
end Go.Proofs.YtbkodnhnadkhdaaDoor.Str
