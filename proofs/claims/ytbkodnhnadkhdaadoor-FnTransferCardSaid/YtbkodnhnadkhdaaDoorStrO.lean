/- The program's StrongOf: sixteen bytes, or sixteen noughts where the text is too long. Condition: the tables hold what was laid. -/
import Derived.Test.YtbkodnhnadkhdaaDoorStr16
import Derived.Deep.RegionLaw
namespace Go.Proofs.YtbkodnhnadkhdaaDoor.Str
open Go Go.RowKit Go.Proofs.YtbkodnhnadkhdaaDoor.PM5 Go.Proofs.YtbkodnhnadkhdaaDoorW.PrintWords Go.Proofs.YtbkodnhnadkhdaaDoorW.PrintLast Go.Proofs.YtbkodnhnadkhdaaDoorW.PrintMore Go.Proofs.YtbkodnhnadkhdaaDoor.Arith Go.Proofs.YtbkodnhnadkhdaaDoor.Lib Go.Proofs.YtbkodnhnadkhdaaDoor.Word Go.Proofs.YtbkodnhnadkhdaaDoor.Pad Go.Proofs.YtbkodnhnadkhdaaDoor.Mix
set_option linter.unusedVariables false
/-- What StrongOf is. -/
def sumOf (s : ByteArray) : List Int := if s.size ≤ 20000 then md5 s else List.replicate 16 0
theorem below_setCellsN {B : Nat} {a : World} (b : Nat) (hb : B ≤ b) : ∀ (vs : List Value) (o : Nat) {w : World}, Below B a w → Below B a (w.setCells b o vs)
  | [], _, _, h => h
  | v :: r, o, _, h => below_setCellsN b hb r (o + 1) (h.setCell hb v)
abbrev z16 : Obj := Obj.cells #[.int .u8 0, .int .u8 0, .int .u8 0, .int .u8 0, .int .u8 0, .int .u8 0, .int .u8 0, .int .u8 0, .int .u8 0, .int .u8 0, .int .u8 0, .int .u8 0, .int .u8 0, .int .u8 0, .int .u8 0, .int .u8 0] 28
theorem two16 (w : World) : ((w.alloc z16).alloc z16).heap[w.heap.size]? = some z16 ∧ ((w.alloc z16).alloc z16).heap[w.heap.size + 1]? = some z16 ∧ ((w.alloc z16).alloc z16).heap.size = w.heap.size + 2 ∧ Below w.heap.size w ((w.alloc z16).alloc z16) := by
  have h1 := heap_alloc_new w z16
  have h2 := heap_alloc_new (w.alloc z16) z16
  have h3 := (below_alloc (Below.refl (w.alloc z16).heap.size _) z16).block w.heap.size (by simp)
  exact ⟨h3.trans h1, by simpa using h2, by simp, below_alloc (below_alloc (Below.refl _ _) _) _⟩
set_option maxHeartbeats 4000000 in
set_option maxRecDepth 100000 in
theorem strongOfI (s : ByteArray) (w : World) (hT : Tab w) :
    Calls Tryd.prog 17 #[.string s] w fun e w' => e = .returned (b16 (sumOf s)) ∧ Below w.heap.size w w' := by
  unfold sumOf
  by_cases hs : (s.size : Int) ≤ 20000
  · have h1 : decide ((s.size : Int) ≤ 20000) = true := decide_eq_true hs
    have h2 : decide (s.size ≤ 20000) = true := decide_eq_true (by omega)
    rw [if_pos (by omega)]
    go_enter Tryd.func17, Tryd.ntmps17
    go_upto_region 3 with fail
    obtain ⟨hA, hB, hz, hB1⟩ := two16 w
    generalize hW1 : (w.alloc z16).alloc z16 = W1 at hA hB hz hB1
    clear hW1
    have hzz : ∀ w, (Go.sizeOf 5).run Tryd.prog w = .ok 1 w := fun w => by kernel_rfl
    have hle : (strOfNums (md5 s)).size = 16 := by rw [strOfNums_size, md5_length]
    have hvs := bytes_vals (md5 s) (md5_bytes s)
    have hml := md5_length s
    have hQ : ∀ w5, Below W1.heap.size W1 w5 → (∀ j, j < (strOfNums (md5 s)).size → (w5.cell? ⟨w.heap.size + 1, 0 + j, none⟩).isSome = true) ∧ (∀ j, j < (strOfNums (md5 s)).size → w5.frozen? ⟨w.heap.size + 1, 0 + j, none⟩ = false) := fun w5 h5 => by
      have hB5 := (h5.block (w.heap.size + 1) (by omega)).trans hB
      rw [hle]
      constructor
      · intro j hj
        have : j = 0 ∨ j = 1 ∨ j = 2 ∨ j = 3 ∨ j = 4 ∨ j = 5 ∨ j = 6 ∨ j = 7 ∨ j = 8 ∨ j = 9 ∨ j = 10 ∨ j = 11 ∨ j = 12 ∨ j = 13 ∨ j = 14 ∨ j = 15 := by omega
        simp only [World.cell?, hB5]
        rcases this with rfl | rfl | rfl | rfl | rfl | rfl | rfl | rfl | rfl | rfl | rfl | rfl | rfl | rfl | rfl | rfl <;> rfl
      · intro j hj
        simp [World.frozen?, hB5]
    have hT1 := hT.below hB1
    clear hB
    have M := strongI s (by omega)
    obtain ⟨xs, hxs⟩ : ∃ xs, xs = md5 s := ⟨_, rfl⟩
    rw [← hxs] at hle hvs hml hQ M
    have NX := Aside0.mk hxs
    clear hxs
    go_region_law (first | (refine step_copy_string rfl (.tmp 7) (.tmp 9) 50 9 rfl 5 Tryd.underlying50 hzz (w.heap.size + 1) 0 16 16 rfl (strOfNums xs) rfl (Nat.le_of_eq hle) (hQ _ hb5).1 (hQ _ hb5).2 ?_) | (go_simp; go_at_call 52; refine (M _ (hT1.below (below_drew (Below.refl _ _)))).mono ?_; rintro e w5 ⟨rfl, hb5⟩; replace hb5 := below_step (below_drew (Below.refl _ _)) hb5))
    have hin := World.cell?_setCells_in (w.heap.size + 1) (xs.map (Value.int .u8)) 0 w5 (fun j hj => (hQ _ hb5).1 j (by rw [hle]; rw [List.length_map, hml] at hj; exact hj))
    have hB6 : Below w.heap.size w (w5.setCells (w.heap.size + 1) 0 (xs.map (Value.int .u8))) := below_setCellsN (w.heap.size + 1) (by omega) _ 0 (below_step hB1 hb5)
    have hA6 : (w5.setCells (w.heap.size + 1) 0 (xs.map (Value.int .u8))).heap[w.heap.size]? = some z16 := ((below_setCellsN (w.heap.size + 1) (Nat.le_refl _) _ 0 (Below.refl (w.heap.size + 1) w5)).block w.heap.size (by omega)).trans ((hb5.block w.heap.size (by omega)).trans hA)
    clear hA hB1 hz hQ M hle hvs hT1 hzz hb5
    generalize (w5.setCells (w.heap.size + 1) 0 (xs.map (Value.int .u8))) = W6 at *
    match xs, hml, NX with
    | [a0, a1, a2, a3, a4, a5, a6, a7, a8, a9, a10, a11, a12, a13, a14, a15], _, NX =>
      obtain ⟨⟨m0, m1, m2, m3, m4, m5, m6, m7, m8, m9, m10, m11, m12, m13, m14, m15⟩, f0, f1, f2, f3, f4, f5, f6, f7, f8, f9, f10, f11, f12, f13, f14, f15⟩ := row16 hA6
      have c0 : W6.cell? ⟨w.heap.size + 1, 0, none⟩ = some (.int .u8 a0) := hin 0 (by simp)
      have c1 : W6.cell? ⟨w.heap.size + 1, 1, none⟩ = some (.int .u8 a1) := hin 1 (by simp)
      have c2 : W6.cell? ⟨w.heap.size + 1, 2, none⟩ = some (.int .u8 a2) := hin 2 (by simp)
      have c3 : W6.cell? ⟨w.heap.size + 1, 3, none⟩ = some (.int .u8 a3) := hin 3 (by simp)
      have c4 : W6.cell? ⟨w.heap.size + 1, 4, none⟩ = some (.int .u8 a4) := hin 4 (by simp)
      have c5 : W6.cell? ⟨w.heap.size + 1, 5, none⟩ = some (.int .u8 a5) := hin 5 (by simp)
      have c6 : W6.cell? ⟨w.heap.size + 1, 6, none⟩ = some (.int .u8 a6) := hin 6 (by simp)
      have c7 : W6.cell? ⟨w.heap.size + 1, 7, none⟩ = some (.int .u8 a7) := hin 7 (by simp)
      have c8 : W6.cell? ⟨w.heap.size + 1, 8, none⟩ = some (.int .u8 a8) := hin 8 (by simp)
      have c9 : W6.cell? ⟨w.heap.size + 1, 9, none⟩ = some (.int .u8 a9) := hin 9 (by simp)
      have c10 : W6.cell? ⟨w.heap.size + 1, 10, none⟩ = some (.int .u8 a10) := hin 10 (by simp)
      have c11 : W6.cell? ⟨w.heap.size + 1, 11, none⟩ = some (.int .u8 a11) := hin 11 (by simp)
      have c12 : W6.cell? ⟨w.heap.size + 1, 12, none⟩ = some (.int .u8 a12) := hin 12 (by simp)
      have c13 : W6.cell? ⟨w.heap.size + 1, 13, none⟩ = some (.int .u8 a13) := hin 13 (by simp)
      have c14 : W6.cell? ⟨w.heap.size + 1, 14, none⟩ = some (.int .u8 a14) := hin 14 (by simp)
      have c15 : W6.cell? ⟨w.heap.size + 1, 15, none⟩ = some (.int .u8 a15) := hin 15 (by simp)
      clear hin
      go_wp2
      refine bodyPost_ret (results_cell_row (p := 2) (ty := 28) rfl _ _ w.heap.size 28 #[.int .u8 a0, .int .u8 a1, .int .u8 a2, .int .u8 a3, .int .u8 a4, .int .u8 a5, .int .u8 a6, .int .u8 a7, .int .u8 a8, .int .u8 a9, .int .u8 a10, .int .u8 a11, .int .u8 a12, .int .u8 a13, .int .u8 a14, .int .u8 a15] (0, 0) _ rfl (set16 _ _ _ _ _ _ _ _ _ _ _ _ _ _ _ _  hA6) Tryd.underlying28 rfl (by kernel_rfl)) rfl ⟨by rw [← NX.out]; rfl, below16 _ _ _ _ _ _ _ _ _ _ _ _ _ _ _ _  hB6 (Nat.le_refl _)⟩
  · have h1 : decide ((s.size : Int) ≤ 20000) = false := decide_eq_false hs
    have h2 : decide (s.size ≤ 20000) = false := decide_eq_false (by omega)
    rw [if_neg (by omega)]
    go_enter Tryd.func17, Tryd.ntmps17
    obtain ⟨hA, hB, hz, hB1⟩ := two16 w
    go_wp2
    refine bodyPost_ret (results_cell_row (p := 2) (ty := 28) rfl _ _ w.heap.size 28 _ (0, 0) _ rfl hA Tryd.underlying28 rfl (by kernel_rfl)) rfl ⟨rfl, hB1⟩
end Go.Proofs.YtbkodnhnadkhdaaDoor.Str
