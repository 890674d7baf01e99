/- The law's own functions over four words: copies and comparisons. No condition. -/
import Derived.LoopN
import Derived.Test.YtbkodnhnadkhdaaDoorMixT
import Derived.Test.YtbkodnhnadkhdaaDoorMixS
namespace Go.Proofs.YtbkodnhnadkhdaaDoor.Mix
open Go Go.RowKit Go.Proofs.YtbkodnhnadkhdaaDoor.PM5 Go.Proofs.YtbkodnhnadkhdaaDoorW.PrintWords Go.Proofs.YtbkodnhnadkhdaaDoorW.PrintLast Go.Proofs.YtbkodnhnadkhdaaDoorW.PrintMore
set_option linter.unusedVariables false
def arr (k : IntKind) (xs : List Int) : Array Value := (xs.map (Value.int k)).toArray
theorem arr_at (k : IntKind) (xs : List Int) (i : Nat) (h : i < xs.length) : (arr k xs)[i]? = some (.int k (xs.getD i 0)) := by
  unfold arr
  simp [List.getElem?_map, List.getElem?_eq_getElem h, List.getD_eq_getElem?_getD]
theorem row4 {w : World} {g t : Nat} {x0 x1 x2 x3 : Value} (h : w.heap[g]? = some (.cells #[x0, x1, x2, x3] t (0, 0))) :
    (w.cell? ⟨g, 0, none⟩ = some x0 ∧ w.cell? ⟨g, 1, none⟩ = some x1 ∧ w.cell? ⟨g, 2, none⟩ = some x2 ∧ w.cell? ⟨g, 3, none⟩ = some x3) ∧ w.frozen? ⟨g, 0, none⟩ = false ∧ w.frozen? ⟨g, 1, none⟩ = false ∧ w.frozen? ⟨g, 2, none⟩ = false ∧ w.frozen? ⟨g, 3, none⟩ = false := by
  simp [World.cell?, World.frozen?, h]
theorem set4 {w : World} {g t : Nat} {x0 x1 x2 x3 : Value} (y0 y1 y2 y3 : Value) (h : w.heap[g]? = some (.cells #[x0, x1, x2, x3] t (0, 0))) :
    ((((w.setCell ⟨g, 0, none⟩ y0).setCell ⟨g, 1, none⟩ y1).setCell ⟨g, 2, none⟩ y2).setCell ⟨g, 3, none⟩ y3).heap[g]? = some (.cells #[y0, y1, y2, y3] t (0, 0)) :=
  heap_setCell_self _ _ _ _ _ _ _ (heap_setCell_self _ _ _ _ _ _ _ (heap_setCell_self _ _ _ _ _ _ _ (heap_setCell_self _ _ _ _ _ _ _ h)))
theorem below4 {W w : World} {n g : Nat} (y0 y1 y2 y3 : Value) (h : Below n W w) (hg : n ≤ g) : Below n W ((((w.setCell ⟨g, 0, none⟩ y0).setCell ⟨g, 1, none⟩ y1).setCell ⟨g, 2, none⟩ y2).setCell ⟨g, 3, none⟩ y3) :=
  Below.setCell (Below.setCell (Below.setCell (Below.setCell h hg _) hg _) hg _) hg _
set_option maxHeartbeats 2000000 in
set_option maxRecDepth 100000 in
theorem eq4 (xs : List Int) (hx : xs.length = 4) (w : World) :
    Calls Tryd.prog 15 #[.agg (arr .u32 xs), .agg (arr .u32 xs)] w fun e w' => e = .returned (.bool true) ∧ Below w.heap.size w w' := by
  go_enter Tryd.func15, Tryd.ntmps15
  go_wp2
  obtain ⟨W1, hW1⟩ : ∃ W1, W1 = ((w.alloc (Obj.cells (arr .u32 xs) 23)).alloc (Obj.cells (arr .u32 xs) 23)) := ⟨_, rfl⟩
  have hB1 : Below w.heap.size w W1 := by rw [hW1]; exact below_alloc (below_alloc (Below.refl _ _) _) _
  have hc0 : ∀ i, i < 4 → W1.cell? ⟨w.heap.size, i, none⟩ = some (.int .u32 (xs.getD i 0)) := fun i hi => by
    rw [hW1, ← arr_at .u32 xs i (by omega)]
    have h1 := heap_alloc_new w (Obj.cells (arr .u32 xs) 23)
    have h2 := (below_alloc (Below.refl (w.alloc (Obj.cells (arr .u32 xs) 23)).heap.size _) (Obj.cells (arr .u32 xs) 23)).block w.heap.size (by simp)
    rw [h1] at h2
    simp only [World.cell?, h2]; rfl
  have hc1 : ∀ i, i < 4 → W1.cell? ⟨w.heap.size + 1, i, none⟩ = some (.int .u32 (xs.getD i 0)) := fun i hi => by
    rw [hW1, ← arr_at .u32 xs i (by omega)]
    have h1 := heap_alloc_new (w.alloc (Obj.cells (arr .u32 xs) 23)) (Obj.cells (arr .u32 xs) 23)
    rw [show (w.alloc (Obj.cells (arr .u32 xs) 23)).heap.size = w.heap.size + 1 by simp] at h1
    simp only [World.cell?, h1]; rfl
  rw [← hW1]
  clear hW1
  go_loopg [5] 4 (fun kq v5 w' => ∃ (n : Nat), n + kq = 4 ∧ v5 = .int .i64 (n : Int) ∧ Below W1.heap.size W1 w')
  case atStart => exact ⟨0, by omega, rfl, Below.refl _ _⟩
  case round =>
    obtain ⟨n, hn, rfl, hBw⟩ := hrel
    by_cases h4 : (n : Int) < 4
    · have h4b : decide ((n : Int) < 4) = true := decide_eq_true h4
      have c0 := pw_cell_below hBw (hc0 n (by omega))
      have c1 := pw_cell_below hBw (hc1 n (by omega))
      clear hx hc0 hc1
      have n0 : (0 : Int) ≤ (n : Int) := by omega
      go_wp2
      go_quiet (fail)
      go_wp2
      obtain ⟨k1, rfl⟩ : ∃ k1, gk = k1 + 1 := ⟨gk - 1, by omega⟩
      go_roundg k1
      case measure => omega
      case rel => exact ⟨n + 1, by omega, by simp, pw_below_drewN hBw _⟩
    · have h4b : decide ((n : Int) < 4) = false := decide_eq_false h4
      go_wp2
      go_ret
      exact ⟨rfl, below_step hB1 hBw⟩
set_option maxHeartbeats 2000000 in
set_option maxRecDepth 100000 in
theorem to4 (a b c d : Int) (w : World) :
    Calls Tryd.prog 13 #[.agg #[.int .u32 a, .int .u32 b, .int .u32 c, .int .u32 d]] w fun e w' => e = .returned (.agg #[.int .u32 a, .int .u32 b, .int .u32 c, .int .u32 d]) ∧ Below w.heap.size w w' := by
  go_enter Tryd.func13, Tryd.ntmps13
  go_wp2
  refine wp_loop_rounds 5 ?_
  repeat any_goals (rw [rounds_succ]; go_wp2)
  refine bodyPost_ret (results_cell_row (p := 2) (ty := 23) rfl _ _ (w.heap.size + 1) 23 #[.int .u32 a, .int .u32 b, .int .u32 c, .int .u32 d] (0, 0) _ rfl ?hg Tryd.underlying23 rfl (by kernel_rfl)) rfl ?post
  case hg =>
    have h1 := heap_alloc_new (w.alloc (Obj.cells #[.int .u32 a, .int .u32 b, .int .u32 c, .int .u32 d] 23)) (Obj.cells #[.int .u32 a, .int .u32 b, .int .u32 c, .int .u32 d] 23)
    have h2 := (below_alloc (Below.refl ((w.alloc (Obj.cells #[.int .u32 a, .int .u32 b, .int .u32 c, .int .u32 d] 23)).alloc (Obj.cells #[.int .u32 a, .int .u32 b, .int .u32 c, .int .u32 d] 23)).heap.size _) (Obj.cells #[.int .u32 a, .int .u32 b, .int .u32 c, .int .u32 d] 23)).block (w.heap.size + 1) (by simp)
    rw [h2]
    simpa using h1
  case post => exact ⟨rfl, below_alloc (below_alloc (below_alloc (Below.refl _ _) _) _) _⟩
def val4 (s : S4) : Value := .agg #[.int .u32 s.1, .int .u32 s.2.1, .int .u32 s.2.2.1, .int .u32 s.2.2.2]
theorem val4_arr (s : S4) : val4 s = .agg (arr .u32 [s.1, s.2.1, s.2.2.1, s.2.2.2]) := rfl
def mixF (blk : ByteArray) (s : S4) : S4 := if blk.size = 64 then mixOut blk s else s
set_option maxHeartbeats 2000000 in
set_option maxRecDepth 100000 in
theorem mixSame (a b c d : Int) (blk : ByteArray) (w : World) (hb : blk.size ≠ 64) :
    Calls Tryd.prog 12 #[.agg #[.int .u32 a, .int .u32 b, .int .u32 c, .int .u32 d], .string blk] w fun e w' => e = .returned (.agg #[.int .u32 a, .int .u32 b, .int .u32 c, .int .u32 d]) ∧ Below w.heap.size w w' := by
  have hb1 : ((blk.size : Int) != 64) = true := by simp; omega
  have hb2 : decide (blk.size = 64) = false := decide_eq_false hb
  go_enter Tryd.func12, Tryd.ntmps12
  go_wp2
  refine bodyPost_ret (results_cell_row (p := 4) (ty := 23) rfl _ _ (w.heap.size + 1) 23 #[.int .u32 a, .int .u32 b, .int .u32 c, .int .u32 d] (0, 0) _ rfl ?hg Tryd.underlying23 rfl (by kernel_rfl)) rfl ?post
  case hg =>
    have h1 := heap_alloc_new (w.alloc (Obj.cells #[.int .u32 a, .int .u32 b, .int .u32 c, .int .u32 d] 23)) (Obj.cells #[.int .u32 a, .int .u32 b, .int .u32 c, .int .u32 d] 23)
    simpa using h1
  case post => exact ⟨rfl, below_alloc (below_alloc (Below.refl _ _) _) _⟩
theorem mixS' (s : S4) (blk : ByteArray) (w : World) : Calls Tryd.prog 12 #[val4 s, .string blk] w fun e w' => e = .returned (val4 (mixF blk s)) ∧ Below w.heap.size w w' := by
  obtain ⟨a, b, c, d⟩ := s
  unfold mixF
  by_cases h : blk.size = 64
  · rw [if_pos h]; exact mixS a b c d blk w h
  · rw [if_neg h]; exact mixSame a b c d blk w h
set_option maxHeartbeats 2000000 in
set_option maxRecDepth 100000 in
theorem mixI (a b c d : Int) (blk : ByteArray) (w : World) (hT : Tab w) :
    Calls Tryd.prog 14 #[.agg #[.int .u32 a, .int .u32 b, .int .u32 c, .int .u32 d], .string blk] w fun e w' => e = .returned (val4 (mixF blk (a, b, c, d))) ∧ Below w.heap.size w w' := by
  unfold mixF
  by_cases hb : blk.size = 64
  · rw [if_pos hb]
    have hb1 : ((blk.size : Int) != 64) = false := by rw [hb]; rfl
    have hb2 : decide (blk.size = 64) = true := decide_eq_true hb
    have hX : ((w.alloc (Obj.cells #[.int .u32 a, .int .u32 b, .int .u32 c, .int .u32 d] 23)).alloc (Obj.cells #[.int .u32 0, .int .u32 0, .int .u32 0, .int .u32 0] 23)).heap[w.heap.size + 1]? = some (.cells #[.int .u32 0, .int .u32 0, .int .u32 0, .int .u32 0] 23 (0, 0)) := by
      have h1 := heap_alloc_new (w.alloc (Obj.cells #[.int .u32 a, .int .u32 b, .int .u32 c, .int .u32 d] 23)) (Obj.cells #[.int .u32 0, .int .u32 0, .int .u32 0, .int .u32 0] 23)
      simpa using h1
    go_enter Tryd.func14, Tryd.ntmps14
    go_wp2_with (go_at_call 49; refine (mix a b c d blk _ (hT.below (below_alloc (below_alloc (Below.refl _ _) _) _)) hb).mono ?_; rintro e w2 ⟨rfl, hb2⟩; have hY := (hb2.block (w.heap.size + 1) (by simp)).trans hX; obtain ⟨⟨m0, m1, m2, m3⟩, f0, f1, f2, f3⟩ := row4 hY)
    refine bodyPost_ret (results_cell_row (p := 4) (ty := 23) rfl _ _ (w.heap.size + 1) 23 _ (0, 0) _ rfl (set4 _ _ _ _ hY) Tryd.underlying23 rfl (by kernel_rfl)) rfl ⟨rfl, below4 _ _ _ _ (below_step (below_alloc (below_alloc (Below.refl _ _) _) _) hb2) (by omega)⟩
  · rw [if_neg hb]
    have hb1 : ((blk.size : Int) != 64) = true := by simp; omega
    have hb2 : decide (blk.size = 64) = false := decide_eq_false hb
    go_enter Tryd.func14, Tryd.ntmps14
    go_wp2
    refine bodyPost_ret (results_cell_row (p := 4) (ty := 23) rfl _ _ (w.heap.size + 1) 23 #[.int .u32 a, .int .u32 b, .int .u32 c, .int .u32 d] (0, 0) _ rfl ?hg Tryd.underlying23 rfl (by kernel_rfl)) rfl ?post
    case hg =>
      have h1 := heap_alloc_new (w.alloc (Obj.cells #[.int .u32 a, .int .u32 b, .int .u32 c, .int .u32 d] 23)) (Obj.cells #[.int .u32 a, .int .u32 b, .int .u32 c, .int .u32 d] 23)
      simpa using h1
    case post => exact ⟨rfl, below_alloc (below_alloc (Below.refl _ _) _) _⟩
theorem row4w (w : World) (s : S4) : (w.alloc (Obj.cells #[.int .u32 s.1, .int .u32 s.2.1, .int .u32 s.2.2.1, .int .u32 s.2.2.2] 23)).heap[w.heap.size]? = some (.cells #[.int .u32 s.1, .int .u32 s.2.1, .int .u32 s.2.2.1, .int .u32 s.2.2.2] 23 (0, 0)) := heap_alloc_new w _
set_option maxHeartbeats 2000000 in
set_option maxRecDepth 100000 in
theorem law_true (a b c d : Int) (blk : ByteArray) (w : World) (hT : Tab w) :
    Calls Tryd.prog 3 #[.agg #[.int .u32 a, .int .u32 b, .int .u32 c, .int .u32 d], .string blk] w fun e w' => e = .returned (.bool true) ∧ Below w.heap.size w w' := by
  by_cases hz : (1048576 : Int) < (blk.size : Int)
  · have hz1 : decide ((1048576 : Int) < (blk.size : Int)) = true := decide_eq_true hz
    have hz2 : decide (1048576 < blk.size) = true := decide_eq_true (by omega)
    go_enter Tryd.func3, Tryd.ntmps3
    go_wp2
    go_ret
    exact ⟨rfl, below_alloc (Below.refl _ _) _⟩
  · have hz1 : decide ((1048576 : Int) < (blk.size : Int)) = false := decide_eq_false hz
    have hz2 : decide (1048576 < blk.size) = false := decide_eq_false (by omega)
    obtain ⟨⟨p, q, r, s⟩, hm⟩ : ∃ m, m = mixF blk (a, b, c, d) := ⟨_, rfl⟩
    have MS : ∀ w, Calls Tryd.prog 12 #[.agg #[.int .u32 a, .int .u32 b, .int .u32 c, .int .u32 d], .string blk] w fun e w' => e = .returned (.agg #[.int .u32 p, .int .u32 q, .int .u32 r, .int .u32 s]) ∧ Below w.heap.size w w' := fun w => by
      have := mixS' (a, b, c, d) blk w
      rw [← hm] at this; exact this
    have MI : ∀ w, Tab w → Calls Tryd.prog 14 #[.agg #[.int .u32 a, .int .u32 b, .int .u32 c, .int .u32 d], .string blk] w fun e w' => e = .returned (.agg #[.int .u32 p, .int .u32 q, .int .u32 r, .int .u32 s]) ∧ Below w.heap.size w w' := fun w h => by
      have := mixI a b c d blk w h
      rw [← hm] at this; exact this
    clear hm
    have h0 := row4w w (a, b, c, d)
    go_enter Tryd.func3, Tryd.ntmps3
    go_upto_region 4 with (first | (go_at_call 13; refine (to4 a b c d _).mono ?_; rintro e w2 ⟨rfl, hb2⟩) | (go_at_call 12; refine (MS _).mono ?_; rintro e w3 ⟨rfl, hb3⟩))
    have h0b := (hb2.block w.heap.size (by simp)).trans h0
    have h0c := (hb3.block w.heap.size (by have := hb2.size; simp at this; omega)).trans h0b
    have z2 : w.heap.size + 1 ≤ w2.heap.size := by have := hb2.size; simpa using this
    have z3 := hb3.size
    have hB3 : Below w.heap.size w w3 := below_step (below_step (below_alloc (Below.refl _ _) _) hb2) hb3
    have h1 := row4w w3 (p, q, r, s)
    have h0d := ((below_alloc (Below.refl w3.heap.size w3) (Obj.cells #[.int .u32 p, .int .u32 q, .int .u32 r, .int .u32 s] 23)).block w.heap.size (by omega)).trans h0c
    have hB4 := below_alloc hB3 (Obj.cells #[.int .u32 p, .int .u32 q, .int .u32 r, .int .u32 s] 23)
    have z4 : (w3.alloc (Obj.cells #[.int .u32 p, .int .u32 q, .int .u32 r, .int .u32 s] 23)).heap.size = w3.heap.size + 1 := by simp
    clear h0 h0b h0c hB3 hb2 hb3
    generalize hg3 : w3.heap.size = g3 at h1 z4 z3 ⊢
    clear hg3
    simp only at h1
    generalize (w3.alloc (Obj.cells #[.int .u32 p, .int .u32 q, .int .u32 r, .int .u32 s] 23)) = w4 at h1 h0d hB4 z4 ⊢
    obtain ⟨⟨m0, m1, m2, m3⟩, _⟩ := row4 h0d
    go_upto_region 5 with (first | (go_at_call 13; refine (to4 a b c d _).mono ?_; rintro e w5 ⟨rfl, hb5⟩) | (go_at_call 14; refine (MI _ (hT.below (below_step hB4 hb5))).mono ?_; rintro e w6 ⟨rfl, hb6⟩))
    have z5 := hb5.size
    have z6 := hb6.size
    have h1c := (hb6.block g3 (by omega)).trans ((hb5.block g3 (by omega)).trans h1)
    have h1d := ((below_alloc (Below.refl w6.heap.size w6) (Obj.cells #[.int .u32 p, .int .u32 q, .int .u32 r, .int .u32 s] 23)).block g3 (by omega)).trans h1c
    have h2 := row4w w6 (p, q, r, s)
    simp only at h2
    have hB7 := below_alloc (below_step (below_step hB4 hb5) hb6) (Obj.cells #[.int .u32 p, .int .u32 q, .int .u32 r, .int .u32 s] 23)
    clear hb5 hb6 h1c
    generalize hg6 : w6.heap.size = g6 at h2 ⊢
    clear hg6
    generalize (w6.alloc (Obj.cells #[.int .u32 p, .int .u32 q, .int .u32 r, .int .u32 s] 23)) = w7 at h1d h2 hB7 ⊢
    clear m0 m1 m2 m3 h0d h1
    obtain ⟨⟨m0, m1, m2, m3⟩, _⟩ := row4 h1d
    obtain ⟨⟨n0, n1, n2, n3⟩, _⟩ := row4 h2
    go_wp2_with (go_at_call 15; refine (eq4 [p, q, r, s] rfl _).mono ?_; rintro e w8 ⟨rfl, hb8⟩)
    go_ret
    exact ⟨rfl, below_step hB7 hb8⟩
end Go.Proofs.YtbkodnhnadkhdaaDoor.Mix
