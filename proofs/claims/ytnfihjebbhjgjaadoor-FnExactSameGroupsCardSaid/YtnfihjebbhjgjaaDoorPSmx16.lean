-- Made by a program of this session (tools/pr.sh) out of the translation; Lean checks it.
import Derived.Test.YtnfihjebbhjgjaaDoorPSmx0
import Derived.Test.YtnfihjebbhjgjaaDoorPSmx1
import Derived.Test.YtnfihjebbhjgjaaDoorPSmx15
namespace Go.Proofs.YtnfihjebbhjgjaaDoor.PSm
open Go.RowKit Go.Proofs.YtnfihjebbhjgjaaDoorW.PrintWords Go.Proofs.YtnfihjebbhjgjaaDoorW.PrintLast Go.Proofs.YtnfihjebbhjgjaaDoorW.PrintMore
attribute [local go_sem] max2_int min2_int max_two min_two max_three min_three max_four min_four   -- for this text's walks alone
set_option linter.unusedVariables false
set_option linter.unusedSimpArgs false

-- GIVEN by hand
/-! ### spec_SameGroups: function 16 -/
attribute [local go_sem] geq_str max2_int min2_int max_two min_two max_three min_three max_four min_four
attribute [local go_sem high] eqA41
theorem spec_SameGroups.row7 {w : World} {g t : Nat} {x0 x1 x2 x3 x4 x5 x6 : Value} (h : w.heap[g]? = some (.cells #[x0, x1, x2, x3, x4, x5, x6] t (0, 0))) :
 w.cell? ⟨g, 0, none⟩ = some x0 ∧ w.cell? ⟨g, 1, none⟩ = some x1 ∧ w.cell? ⟨g, 2, none⟩ = some x2 ∧ w.cell? ⟨g, 3, none⟩ = some x3 ∧ w.cell? ⟨g, 4, none⟩ = some x4 ∧ w.cell? ⟨g, 5, none⟩ = some x5 ∧ w.cell? ⟨g, 6, none⟩ = some x6 := by
 simp [World.cell?, h]
def spec_SameGroups.neq (x y : S41) : Bool := (!(x.f0.toList == y.f0.toList) || (!(x.f1 == y.f1) || (!(x.f2 == y.f2) || (!(x.f3 == y.f3) || (!(x.f4.toList == y.f4.toList) || (!(x.f5.toList == y.f5.toList)))))))
def spec_SameGroups.rel (l : List S41) (i m : Nat) : Bool := (rd_T41 l (i : Int)).f6 != 0 && ((rd_T41 l (i : Int)).f6 == (rd_T41 l (m : Int)).f6)
def spec_SameGroups.inn (a b : List S41) (i : Nat) : Nat → Nat → Bool
 | 0, _ => true
 | d + 1, m => !(spec_SameGroups.rel a i m != spec_SameGroups.rel b i m) && spec_SameGroups.inn a b i d (m + 1)
def spec_SameGroups.out (a b : List S41) : Nat → Nat → Bool
 | 0, _ => true
 | d + 1, i => !spec_SameGroups.neq (rd_T41 a (i : Int)) (rd_T41 b (i : Int)) && (spec_SameGroups.inn a b i a.length 0 && spec_SameGroups.out a b d (i + 1))
def spec_SameGroups.f (k : Nat) (l0 : List S41) (l1 : List S41) : Option Bool := (spec_TreeOk.f k l0).bind fun p => (if p = true then ((spec_TreeOk.f k l1).bind fun q => (if q = true then (if l0.length = l1.length then some (spec_SameGroups.out l0 l1 l0.length 0) else some false) else some false)) else some false)
theorem spec_SameGroups.mono : ∀ a0 a1 k, LeO (spec_SameGroups.f k a0 a1) (spec_SameGroups.f (k + 1) a0 a1) := by
 intro a0 a1 k
 unfold spec_SameGroups.f
 exact LeO.bind (spec_TreeOk.mono _ _) (fun _ => LeO.ite (LeO.bind (spec_TreeOk.mono _ _) (fun _ => LeO.refl _)) (LeO.refl _))
def spec_SameGroups.S6 (a0 a1 : Addr) (i : Nat) (x y : S41) (w' : World) : Prop := w'.cell? (a0.add (i * 7)) = some (.string x.f0) ∧ w'.cell? ⟨(a0.add (i * 7)).block, (a0.add (i * 7)).off + 1, none⟩ = some (.int .i64 x.f1) ∧ w'.cell? ⟨(a0.add (i * 7)).block, (a0.add (i * 7)).off + 2, none⟩ = some (.int .i64 x.f2) ∧ w'.cell? ⟨(a0.add (i * 7)).block, (a0.add (i * 7)).off + 3, none⟩ = some (.int .i64 x.f3) ∧ w'.cell? ⟨(a0.add (i * 7)).block, (a0.add (i * 7)).off + 4, none⟩ = some (.string x.f4) ∧ w'.cell? ⟨(a0.add (i * 7)).block, (a0.add (i * 7)).off + 5, none⟩ = some (.string x.f5) ∧ w'.cell? ⟨(a0.add (i * 7)).block, (a0.add (i * 7)).off + 6, none⟩ = some (.int .i64 x.f6) ∧ w'.cell? (a1.add (i * 7)) = some (.string y.f0) ∧ w'.cell? ⟨(a1.add (i * 7)).block, (a1.add (i * 7)).off + 1, none⟩ = some (.int .i64 y.f1) ∧ w'.cell? ⟨(a1.add (i * 7)).block, (a1.add (i * 7)).off + 2, none⟩ = some (.int .i64 y.f2) ∧ w'.cell? ⟨(a1.add (i * 7)).block, (a1.add (i * 7)).off + 3, none⟩ = some (.int .i64 y.f3) ∧ w'.cell? ⟨(a1.add (i * 7)).block, (a1.add (i * 7)).off + 4, none⟩ = some (.string y.f4) ∧ w'.cell? ⟨(a1.add (i * 7)).block, (a1.add (i * 7)).off + 5, none⟩ = some (.string y.f5) ∧ w'.cell? ⟨(a1.add (i * 7)).block, (a1.add (i * 7)).off + 6, none⟩ = some (.int .i64 y.f6)
theorem spec_SameGroups.S6_below {a0 a1 : Addr} {i : Nat} {x y : S41} {w w' : World} (h : spec_SameGroups.S6 a0 a1 i x y w) (hb : Below w.heap.size w w') : spec_SameGroups.S6 a0 a1 i x y w' := by
 obtain ⟨h0, h1, h2, h3, h4, h5, h6, h7, h8, h9, h10, h11, h12, h13⟩ := h
 exact ⟨(hb.cell (World.block_lt_of_cell? w _ h0)).trans h0, (hb.cell (World.block_lt_of_cell? w _ h1)).trans h1, (hb.cell (World.block_lt_of_cell? w _ h2)).trans h2, (hb.cell (World.block_lt_of_cell? w _ h3)).trans h3, (hb.cell (World.block_lt_of_cell? w _ h4)).trans h4, (hb.cell (World.block_lt_of_cell? w _ h5)).trans h5, (hb.cell (World.block_lt_of_cell? w _ h6)).trans h6, (hb.cell (World.block_lt_of_cell? w _ h7)).trans h7, (hb.cell (World.block_lt_of_cell? w _ h8)).trans h8, (hb.cell (World.block_lt_of_cell? w _ h9)).trans h9, (hb.cell (World.block_lt_of_cell? w _ h10)).trans h10, (hb.cell (World.block_lt_of_cell? w _ h11)).trans h11, (hb.cell (World.block_lt_of_cell? w _ h12)).trans h12, (hb.cell (World.block_lt_of_cell? w _ h13)).trans h13⟩
abbrev spec_SameGroups.Z : Obj := .cells #[.string (⟨#[]⟩ : ByteArray), .int .i64 0, .int .i64 0, .int .i64 0, .string (⟨#[]⟩ : ByteArray), .string (⟨#[]⟩ : ByteArray), .int .i64 0] 41 (0, 0)
abbrev spec_SameGroups.B (x : S41) : Obj := .cells #[.string x.f0, .int .i64 x.f1, .int .i64 x.f2, .int .i64 x.f3, .string x.f4, .string x.f5, .int .i64 x.f6] 41 (0, 0)
def spec_SameGroups.put7 (w : World) (g : Nat) (x : S41) : World := ((((((w.setCell ⟨g, 0, none⟩ (.string x.f0)).setCell ⟨g, 1, none⟩ (.int .i64 x.f1)).setCell ⟨g, 2, none⟩ (.int .i64 x.f2)).setCell ⟨g, 3, none⟩ (.int .i64 x.f3)).setCell ⟨g, 4, none⟩ (.string x.f4)).setCell ⟨g, 5, none⟩ (.string x.f5)).setCell ⟨g, 6, none⟩ (.int .i64 x.f6)
theorem spec_SameGroups.put7_row {w : World} {g : Nat} (x : S41) (h : w.heap[g]? = some spec_SameGroups.Z) : (spec_SameGroups.put7 w g x).heap[g]? = some (spec_SameGroups.B x) :=
 blk_set (blk_set (blk_set (blk_set (blk_set (blk_set (blk_set h 0 _) 1 _) 2 _) 3 _) 4 _) 5 _) 6 _
theorem spec_SameGroups.put7_far {w : World} {g g' : Nat} {t : TypeId} {cs : Array Value} (x : S41) (h : w.heap[g']? = some (.cells cs t (0, 0))) (hne : g' ≠ g) : (spec_SameGroups.put7 w g x).heap[g']? = some (.cells cs t (0, 0)) :=
 blk_far (blk_far (blk_far (blk_far (blk_far (blk_far (blk_far h hne _) hne _) hne _) hne _) hne _) hne _) hne _
theorem spec_SameGroups.put7_below {w W : World} {g : Nat} (x : S41) (h : Below w.heap.size w W) (hg : w.heap.size ≤ g) : Below w.heap.size w (spec_SameGroups.put7 W g x) :=
 below_set (below_set (below_set (below_set (below_set (below_set (below_set h hg) hg) hg) hg) hg) hg) hg
def spec_SameGroups.T6 : Bool × List (List Nat × List Nat) := (true, [([], []), ([], []), ([0, 1], [0, 1]), ([2], [2]), ([], []), ([], []), ([4, 5], [4, 5]), ([6], [6]), ([], []), ([], []), ([8, 3, 0, 1, 2, 3, 8, 9], [3, 8]), ([9, 7, 10, 0, 1, 2, 3, 4, 5, 6, 7, 8, 9, 10], [7, 9])])
def spec_SameGroups.B6 : List Nat := [0, 0, 3, 7, 0, 0, 48, 112, 0, 0, 783, 2047]
theorem spec_SameGroups.tab6 : rtab .any (opsOf Tryd.f16 6) = spec_SameGroups.T6 := by kernel_rfl
theorem spec_SameGroups.bits6 : waitsOk spec_SameGroups.T6.2 spec_SameGroups.B6 = true := by kernel_rfl
def spec_SameGroups.T14 : Bool × List (List Nat × List Nat) := (true, [([], []), ([], []), ([0, 1], [0, 1]), ([2], [2]), ([3], [3]), ([4], [4]), ([5], [5]), ([6], [6]), ([6], [6]), ([7, 8, 6], [6, 7, 8]), ([9, 6], [6, 9]), ([10, 6], [6, 10]), ([6], [6]), ([6], [6]), ([12, 13, 6], [6, 12, 13]), ([14, 6], [6, 14]), ([15, 6], [6, 15]), ([11, 16, 6], [6, 11, 16]), ([6, 17], [6, 17]), ([], []), ([], []), ([19, 20], [19, 20]), ([21], [21]), ([22], [22]), ([23], [23]), ([24, 6], [24]), ([25], [25]), ([25], [25]), ([26, 27, 25], [25, 26, 27]), ([28, 25], [25, 28]), ([29, 25], [25, 29]), ([25], [25]), ([25], [25]), ([31, 32, 25], [25, 31, 32]), ([33, 25], [25, 33]), ([34, 25], [25, 34]), ([30, 35, 25], [25, 30, 35]), ([25, 36], [25, 36]), ([18, 37], [18, 37])])
def spec_SameGroups.B14 : List Nat := [0, 0, 3, 7, 15, 31, 63, 127, 127, 511, 1023, 2047, 127, 127, 12415, 28799, 61567, 131071, 262143, 0, 0, 1572864, 3670016, 7864320, 16252928, 33030271, 66584703, 66584703, 267911295, 536346751, 1073217663, 66584703, 66584703, 6509035647, 15098970239, 32278839423, 68718952575, 137438429311, 274877906943]
theorem spec_SameGroups.tab14 : rtab .any (opsOf Tryd.f16 14) = spec_SameGroups.T14 := by kernel_rfl
theorem spec_SameGroups.bits14 : waitsOk spec_SameGroups.T14.2 spec_SameGroups.B14 = true := by kernel_rfl
set_option maxHeartbeats 8000000 in
set_option maxRecDepth 100000 in
theorem spec_SameGroups.calls (k : Nat) (A0 : Option Addr) (c0 : Nat) (l0 : List S41) (A1 : Option Addr) (c1 : Nat) (l1 : List S41) (r : Bool) (w : World) (hr0 : Kd.C k41 w A0 l0.length l0) (hc0 : l0.length ≤ c0) (hr1 : Kd.C k41 w A1 l1.length l1) (hc1 : l1.length ≤ c1) (h : spec_SameGroups.f k l0 l1 = some r) :
 Calls Tryd.prog 16 #[.slice A0 l0.length c0, .slice A1 l1.length c1] w fun e w' => e = .returned (.bool r) ∧ Below w.heap.size w w' := by
 unfold spec_SameGroups.f at h
 obtain ⟨p, hp, h⟩ := Option.bind_eq_some_iff.mp h
 have M0 : ∀ w', Below w.heap.size w w' → Calls Tryd.prog 43 #[.slice A0 l0.length c0] w' fun e w'' => e = .returned (.bool p) ∧ Below w'.heap.size w' w'' := fun w' hb => spec_TreeOk.calls k A0 c0 l0 p w' (Kd.C_below hr0 hb) hc0 hp
 cases p with
 | false =>
  obtain rfl : r = false := (Option.some.inj (show some false = some r from h)).symm
  go_enter Tryd.func16, Tryd.ntmps16
  go_wp2_with (go_at_call_of 43 (Value.slice A0 l0.length c0); refine (M0 _ (Below.refl _ _)).mono ?_; rintro e w2 ⟨rfl, hb2⟩)
  go_ret
  exact ⟨rfl, hb2⟩
 | true =>
  replace h : ((spec_TreeOk.f k l1).bind fun q => (if q = true then (if l0.length = l1.length then some (spec_SameGroups.out l0 l1 l0.length 0) else some false) else some false)) = some r := h
  obtain ⟨q, hq, h⟩ := Option.bind_eq_some_iff.mp h
  have M1 : ∀ w', Below w.heap.size w w' → Calls Tryd.prog 43 #[.slice A1 l1.length c1] w' fun e w'' => e = .returned (.bool q) ∧ Below w'.heap.size w' w'' := fun w' hb => spec_TreeOk.calls k A1 c1 l1 q w' (Kd.C_below hr1 hb) hc1 hq
  cases q with
  | false =>
   obtain rfl : r = false := (Option.some.inj (show some false = some r from h)).symm
   go_enter Tryd.func16, Tryd.ntmps16
   go_wp2_with (first | (go_at_call_of 43 (Value.slice A0 l0.length c0); refine (M0 _ (Below.refl _ _)).mono ?_; rintro e w2 ⟨rfl, hb2⟩) | (go_at_call_of 43 (Value.slice A1 l1.length c1); refine (M1 _ (by assumption)).mono ?_; rintro e w3 ⟨rfl, hb3⟩))
   go_ret
   exact ⟨rfl, below_step hb2 hb3⟩
  | true =>
   replace h : (if l0.length = l1.length then some (spec_SameGroups.out l0 l1 l0.length 0) else some false) = some r := h
   by_cases hlen : l0.length = l1.length
   ·
    rw [if_pos hlen] at h
    have hlb : ((l0.length : Int) != (l1.length : Int)) = false := by rw [hlen]; simp
    have H0 := Aside0.mk (Option.some.inj h)
    have HR0 := Aside0.mk hr0
    have HR1 := Aside0.mk hr1
    have HLEN := Aside0.mk hlen
    have HL := Aside0.mk (show l0.length ≤ 200 by
     by_cases hl : (l0.length : Int) > 200
     ·
      unfold spec_TreeOk.f at hp
      rw [if_pos hl] at hp
      cases hp
     ·
      omega)
    clear h hr0 hr1 hlen hc0 hc1 hp hq
    go_enter Tryd.func16, Tryd.ntmps16
    go_wp2_with (first | (go_at_call_of 43 (Value.slice A0 l0.length c0); refine (M0 _ (Below.refl _ _)).mono ?_; rintro e w2 ⟨rfl, hb2⟩) | (go_at_call_of 43 (Value.slice A1 l1.length c1); refine (M1 _ (by assumption)).mono ?_; rintro e w3 ⟨rfl, hb3⟩))
    have HB3 := Aside0.mk (below_step hb2 hb3)
    clear hb2 hb3 M0 M1
    go_loopg [5] l0.length (fun kq v5 w' => ∃ i : Nat, v5 = .int .i64 (i : Int) ∧ Aside0 (i + kq = l0.length) ∧ Aside0 (spec_SameGroups.out l0 l1 kq i = r) ∧ Aside0 (Below w.heap.size w w'))
    case atStart => exact ⟨0, rfl, ⟨by omega⟩, H0, HB3⟩
    case round =>
     clear H0 HB3
     obtain ⟨i, rfl, HI, HA, HB⟩ := hrel
     by_cases hlt : (i : Int) < (l0.length : Int)
     ·
      have hltb : decide ((i : Int) < (l0.length : Int)) = true := decide_eq_true hlt
      obtain ⟨k1, rfl⟩ : ∃ k1, gk = k1 + 1 := ⟨gk - 1, by have := HI.out; omega⟩
      have hlt1 : (i : Int) < (l1.length : Int) := by have := HLEN.out; omega
      have hltb1 : decide ((i : Int) < (l1.length : Int)) = true := decide_eq_true hlt1
      have i0 : (0 : Int) ≤ (i : Int) := by omega
      obtain ⟨a0, rfl, x0, x1, x2, x3, x4, x5, x6⟩ := at_T41 (Kd.C_below HR0.out HB.out) (i : Int) i0 hlt
      obtain ⟨a1, rfl, y0, y1, y2, y3, y4, y5, y6⟩ := at_T41 (Kd.C_below HR1.out HB.out) (i : Int) i0 hlt1
      rw [Int.toNat_natCast] at x0 x1 x2 x3 x4 x5 x6 y0 y1 y2 y3 y4 y5 y6
      have HA2 : Aside0 ((!spec_SameGroups.neq (rd_T41 l0 (i : Int)) (rd_T41 l1 (i : Int)) && (spec_SameGroups.inn l0 l1 i l0.length 0 && spec_SameGroups.out l0 l1 k1 (i + 1))) = r) := ⟨HA.out⟩
      clear HA
      obtain ⟨x, hx⟩ : ∃ x, x = rd_T41 l0 (i : Int) := ⟨_, rfl⟩
      obtain ⟨y, hy⟩ : ∃ y, y = rd_T41 l1 (i : Int) := ⟨_, rfl⟩
      rw [← hx] at x0 x1 x2 x3 x4 x5 x6 HA2
      rw [← hy] at y0 y1 y2 y3 y4 y5 y6 HA2
      have HX := Aside0.mk hx
      have HY := Aside0.mk hy
      clear hx hy
      go_upto_region 6 with fail
      go_cut [6, 7] (fun v6 v7 wc => ∃ g6 g7 : Nat, v6 = .pointer (some ⟨g6, 0, none⟩) ∧ v7 = .pointer (some ⟨g7, 0, none⟩) ∧ Aside0 (g6 ≠ g7) ∧ Aside0 (w.heap.size ≤ g6) ∧ Aside0 (w.heap.size ≤ g7) ∧ Aside0 (wc.heap[g6]? = some (.cells #[.string x.f0, .int .i64 x.f1, .int .i64 x.f2, .int .i64 x.f3, .string x.f4, .string x.f5, .int .i64 x.f6] 41 (0, 0))) ∧ Aside0 (wc.heap[g7]? = some (.cells #[.string y.f0, .int .i64 y.f1, .int .i64 y.f2, .int .i64 y.f3, .string y.f4, .string y.f5, .int .i64 y.f6] 41 (0, 0))) ∧ Aside0 (Below w.heap.size w wc))
      case first =>
       have HS := Aside0.mk (show spec_SameGroups.S6 a0 a1 i x y wr from ⟨x0, x1, x2, x3, x4, x5, x6, y0, y1, y2, y3, y4, y5, y6⟩)
       refine start_ (n := 12) (S := spec_SameGroups.S6 a0 a1 i x y) (ds := []) (bm 12 0) (by kernel_rfl) rfl rfl (spec_SameGroups.S6_below HS.out (below_drew (Below.refl _ _))) (fun hHeld => ?_); refine with_tabW spec_SameGroups.tab6 spec_SameGroups.bits6 (fun HT_ HW_ => ?_)
       have HBr := Aside0.mk (below_drew (Below.refl wr.heap.size wr))
       generalize wr.drew = wd at HBr hHeld ⊢
       refine pure_ (i := 0) (N := some 30) (v := ?_) (a' := ?_) (bm 12 1) rfl rfl (any_of HT_.out (by kernel_rfl)) (fun _ _ _ h => h) (Or.inl ⟨by rfl, ?_⟩) ?_ ?_; rotate_left; · (intro w'; go_simp; with_reducible rfl)
       rotate_left; · (simp only [Act.put, q1, q2, q3, q4, q5, q6, q7]; rfl)
       refine pure_ (i := 1) (N := some 31) (v := ?_) (a' := ?_) (bm 12 3) rfl rfl (any_of HT_.out (by kernel_rfl)) (fun _ _ _ h => h) (Or.inl ⟨by rfl, ?_⟩) ?_ ?_; rotate_left; · (intro w'; go_simp; with_reducible rfl)
       rotate_left; · (simp only [Act.put, q1, q2, q3, q4, q5, q6, q7]; rfl)
       refine pure_ (i := 2) (N := some 32) (v := ?_) (a' := ?_) (bm 12 7) rfl rfl (any_of HT_.out (by kernel_rfl)) (fun _ _ _ h => h) (Or.inl ⟨by rfl, ?_⟩) ?_ ?_; rotate_left; · (intro w'; go_simp; with_reducible rfl)
       rotate_left; · (simp only [Act.put, q1, q2, q3, q4, q5, q6, q7]; rfl)
       refine pure_ (i := 4) (N := some 34) (v := ?_) (a' := ?_) (bm 12 23) rfl rfl (any_of HT_.out (by kernel_rfl)) (fun _ _ _ h => h) (Or.inl ⟨by rfl, ?_⟩) ?_ ?_; rotate_left; · (intro w'; go_simp; with_reducible rfl)
       rotate_left; · (simp only [Act.put, q1, q2, q3, q4, q5, q6, q7]; rfl)
       refine pure_ (i := 5) (N := some 35) (v := ?_) (a' := ?_) (bm 12 55) rfl rfl (any_of HT_.out (by kernel_rfl)) (fun _ _ _ h => h) (Or.inl ⟨by rfl, ?_⟩) ?_ ?_; rotate_left; · (intro w'; go_simp; with_reducible rfl)
       rotate_left; · (simp only [Act.put, q1, q2, q3, q4, q5, q6, q7]; rfl)
       refine pure_ (i := 6) (N := some 36) (v := ?_) (a' := ?_) (bm 12 119) rfl rfl (any_of HT_.out (by kernel_rfl)) (fun _ _ _ h => h) (Or.inl ⟨by rfl, ?_⟩) ?_ ?_; rotate_left; · (intro w'; go_simp; with_reducible rfl)
       rotate_left; · (simp only [Act.put, q1, q2, q3, q4, q5, q6, q7]; rfl)
       refine take_ (i := 3) (N := some 33) (v := ?_) (a' := ?_) (bm 12 127) rfl rfl (take_ofW HT_.out HW_.out (by kernel_rfl)) (fun _ _ _ h => h) (Or.inl ⟨by rfl, ?_⟩) hHeld ?_ ?_; rotate_left; · (rintro w' ⟨s0, s1, s2, s3, s4, s5, s6, s7, s8, s9, s10, s11, s12, s13⟩; go_simp; with_reducible rfl)
       rotate_left; · (simp only [Act.put, q1, q2, q3, q4, q5, q6, q7]; rfl)
       refine take_ (i := 7) (N := some 37) (v := ?_) (a' := ?_) (bm 12 255) rfl rfl (take_ofW HT_.out HW_.out (by kernel_rfl)) (fun _ _ _ h => h) (Or.inl ⟨by rfl, ?_⟩) hHeld ?_ ?_; rotate_left; · (rintro w' ⟨s0, s1, s2, s3, s4, s5, s6, s7, s8, s9, s10, s11, s12, s13⟩; go_simp; with_reducible rfl)
       rotate_left; · (simp only [Act.put, q1, q2, q3, q4, q5, q6, q7]; rfl)
       refine join_ (σ := Nat × Nat) 2 (bm 12 1023) (fun s_ => [(6, .pointer (some ⟨s_.1, 0, none⟩)), (7, .pointer (some ⟨s_.2, 0, none⟩))]) (fun s_ w' => w'.heap[s_.1]? = some spec_SameGroups.Z ∧ w'.heap[s_.2]? = some spec_SameGroups.Z ∧ wr.heap.size ≤ s_.1 ∧ wr.heap.size ≤ s_.2 ∧ s_.1 ≠ s_.2 ∧ Below wr.heap.size wr w') ?_ ?_
       rotate_left
       ·
        intro hCont
        refine two_ (i := 8) (j := 9) (Ni := some 6) (Nj := some 7) (bm 12 511) (bm 12 767) rfl rfl rfl rfl (two_of HT_.out (by kernel_rfl)) (by decide) (by decide) (fun K hK => ?_) (fun K hK => ?_)
        ·
         refine box_step ?hg (N := 6) ?hd (cs := #[.string (⟨#[]⟩ : ByteArray), .int .i64 0, .int .i64 0, .int .i64 0, .string (⟨#[]⟩ : ByteArray), .string (⟨#[]⟩ : ByteArray), .int .i64 0]) (t := 41) ?hr ?_; (case hd => rfl); (case hg => rfl); (case hr => first | (go_simp; done) | (go_simp; rfl))
         intro g6 hg w19 hbox hb
         have HB1 := Aside0.mk (below_step HBr.out hb)
         have BK1 := Aside0.mk hbox
         have GE1 : wr.heap.size ≤ g6 := by rw [hg]; exact HBr.out.size
         clear hb hbox hg
         refine hK.out _ _ (spec_SameGroups.S6_below HS.out HB1.out) (fun hHeld => ?_)
         clear hK K
         refine norm_ (a' := ?_) ?_ ?_
         rotate_left
         · (show Act.put _ (some 6) _ = _; simp only [Act.put, q1, q2, q3, q4, q5, q6, q7]; rfl)
         refine one_ (i := 9) (N := some 7) (bm 12 1023) rfl rfl (one_of HT_.out (by kernel_rfl)) (by decide) (fun K hK => ?_)
         refine box_step ?hg (N := 7) ?hd (cs := #[.string (⟨#[]⟩ : ByteArray), .int .i64 0, .int .i64 0, .int .i64 0, .string (⟨#[]⟩ : ByteArray), .string (⟨#[]⟩ : ByteArray), .int .i64 0]) (t := 41) ?hr ?_; (case hd => rfl); (case hg => rfl); (case hr => first | (go_simp; done) | (go_simp; rfl))
         intro g7 hg w20 hbox hb
         have HB2 := Aside0.mk (below_step HB1.out hb)
         have BK1b := Aside0.mk (blk_below BK1.out hb)
         have NE : g6 ≠ g7 := by rw [hg]; exact Nat.ne_of_lt (blk_lt BK1.out)
         have BK2 := Aside0.mk hbox
         have GE2 : wr.heap.size ≤ g7 := by rw [hg]; exact HB1.out.size
         clear hb hbox hg
         refine hK.out _ _ (spec_SameGroups.S6_below HS.out HB2.out) (fun hHeld => ?_)
         clear hK K
         refine norm_ (a' := ?_) ?_ ?_
         rotate_left
         · (show Act.put _ (some 7) _ = _; simp only [Act.put, q1, q2, q3, q4, q5, q6, q7]; rfl)
         exact norm_ (by simp only [putAll, Act.put, q1, q2, q3]) (hCont (g6, g7) _ ⟨BK1b.out, BK2.out, GE1, GE2, NE, HB2.out⟩)
        ·
         refine box_step ?hg (N := 7) ?hd (cs := #[.string (⟨#[]⟩ : ByteArray), .int .i64 0, .int .i64 0, .int .i64 0, .string (⟨#[]⟩ : ByteArray), .string (⟨#[]⟩ : ByteArray), .int .i64 0]) (t := 41) ?hr ?_; (case hd => rfl); (case hg => rfl); (case hr => first | (go_simp; done) | (go_simp; rfl))
         intro g7 hg w19 hbox hb
         have HB1 := Aside0.mk (below_step HBr.out hb)
         have BK1 := Aside0.mk hbox
         have GE1 : wr.heap.size ≤ g7 := by rw [hg]; exact HBr.out.size
         clear hb hbox hg
         refine hK.out _ _ (spec_SameGroups.S6_below HS.out HB1.out) (fun hHeld => ?_)
         clear hK K
         refine norm_ (a' := ?_) ?_ ?_
         rotate_left
         · (show Act.put _ (some 7) _ = _; simp only [Act.put, q1, q2, q3, q4, q5, q6, q7]; rfl)
         refine one_ (i := 8) (N := some 6) (bm 12 1023) rfl rfl (one_of HT_.out (by kernel_rfl)) (by decide) (fun K hK => ?_)
         refine box_step ?hg (N := 6) ?hd (cs := #[.string (⟨#[]⟩ : ByteArray), .int .i64 0, .int .i64 0, .int .i64 0, .string (⟨#[]⟩ : ByteArray), .string (⟨#[]⟩ : ByteArray), .int .i64 0]) (t := 41) ?hr ?_; (case hd => rfl); (case hg => rfl); (case hr => first | (go_simp; done) | (go_simp; rfl))
         intro g6 hg w20 hbox hb
         have HB2 := Aside0.mk (below_step HB1.out hb)
         have BK1b := Aside0.mk (blk_below BK1.out hb)
         have NE : g7 ≠ g6 := by rw [hg]; exact Nat.ne_of_lt (blk_lt BK1.out)
         have BK2 := Aside0.mk hbox
         have GE2 : wr.heap.size ≤ g6 := by rw [hg]; exact HB1.out.size
         clear hb hbox hg
         refine hK.out _ _ (spec_SameGroups.S6_below HS.out HB2.out) (fun hHeld => ?_)
         clear hK K
         refine norm_ (a' := ?_) ?_ ?_
         rotate_left
         · (show Act.put _ (some 6) _ = _; simp only [Act.put, q1, q2, q3, q4, q5, q6, q7]; rfl)
         exact norm_ (by simp only [putAll, Act.put, q1, q2, q3]) (hCont (g6, g7) _ ⟨BK2.out, BK1b.out, GE2, GE1, NE.symm, HB2.out⟩)
       rintro ⟨g6, g7⟩ w21 ⟨b6, b7, e6, e7, ne, hB21⟩
       have hHeld := spec_SameGroups.S6_below HS.out hB21
       refine norm_ (a' := ?_) ?_ ?_
       rotate_left
       · (simp only [putAll, Act.put, q1, q2, q3]; rfl)
       refine one_ (i := 10) (N := none) (bm 12 2047) rfl rfl (one_of HT_.out (by kernel_rfl)) (by decide) (fun K hK => ?_)
       have c0 := (blk_cell b6 0).trans rfl
       have c1 := (blk_cell b6 1).trans rfl
       have c2 := (blk_cell b6 2).trans rfl
       have c3 := (blk_cell b6 3).trans rfl
       have c4 := (blk_cell b6 4).trans rfl
       have c5 := (blk_cell b6 5).trans rfl
       have c6 := (blk_cell b6 6).trans rfl
       have f0 := blk_frozen b6 0
       have f1 := blk_frozen b6 1
       have f2 := blk_frozen b6 2
       have f3 := blk_frozen b6 3
       have f4 := blk_frozen b6 4
       have f5 := blk_frozen b6 5
       have f6 := blk_frozen b6 6
       simp only [List.getElem?_toArray, List.getElem?_cons_zero, List.getElem?_cons_succ] at c0 c1 c2 c3 c4 c5 c6
       refine skip_ (w1 := ?_) (by rfl) rfl ?_ ?_
       rotate_left
       · (go_simp; rfl)
       refine hK.out _ (spec_SameGroups.put7 w21 g6 x) (spec_SameGroups.S6_below HS.out (spec_SameGroups.put7_below x hB21 e6)) (fun hHeld => ?_)
       clear hK K
       have b6' := spec_SameGroups.put7_row x b6
       have b7' := spec_SameGroups.put7_far x b7 ne.symm
       have hB22 := spec_SameGroups.put7_below x hB21 e6
       generalize spec_SameGroups.put7 w21 g6 x = w22 at b6' b7' hB22 hHeld ⊢
       clear c0 c1 c2 c3 c4 c5 c6 f0 f1 f2 f3 f4 f5 f6 b6 b7 hB21
       refine one_ (i := 11) (N := none) (bm 12 4095) rfl rfl (one_of HT_.out (by kernel_rfl)) (by decide) (fun K hK => ?_)
       have c0 := (blk_cell b7' 0).trans rfl
       have c1 := (blk_cell b7' 1).trans rfl
       have c2 := (blk_cell b7' 2).trans rfl
       have c3 := (blk_cell b7' 3).trans rfl
       have c4 := (blk_cell b7' 4).trans rfl
       have c5 := (blk_cell b7' 5).trans rfl
       have c6 := (blk_cell b7' 6).trans rfl
       have f0 := blk_frozen b7' 0
       have f1 := blk_frozen b7' 1
       have f2 := blk_frozen b7' 2
       have f3 := blk_frozen b7' 3
       have f4 := blk_frozen b7' 4
       have f5 := blk_frozen b7' 5
       have f6 := blk_frozen b7' 6
       simp only [List.getElem?_toArray, List.getElem?_cons_zero, List.getElem?_cons_succ] at c0 c1 c2 c3 c4 c5 c6
       refine skip_ (w1 := ?_) (by rfl) rfl ?_ ?_
       rotate_left
       · (go_simp; rfl)
       refine hK.out _ (spec_SameGroups.put7 w22 g7 y) (spec_SameGroups.S6_below HS.out (spec_SameGroups.put7_below y hB22 e7)) (fun hHeld => ?_)
       clear hK K
       have b7 := spec_SameGroups.put7_row y b7'
       have b6 := spec_SameGroups.put7_far y b6' ne
       have hB23 := spec_SameGroups.put7_below y hB22 e7
       generalize spec_SameGroups.put7 w22 g7 y = w23 at b6 b7 hB23 hHeld ⊢
       refine done_ (done_of HT_.out (by kernel_rfl)) ?_
       clear hHeld c0 c1 c2 c3 c4 c5 c6 f0 f1 f2 f3 f4 f5 f6
       have hsz := HB.out.size
       try go_wp2
       go_meet
       case rel => exact ⟨g6, g7, rfl, rfl, ⟨ne⟩, ⟨Nat.le_trans hsz e6⟩, ⟨Nat.le_trans hsz e7⟩, ⟨b6⟩, ⟨b7⟩, ⟨below_step HB.out hB23⟩⟩
      case rest =>
       obtain ⟨g6, g7, rfl, rfl, NE, E6, E7, B6, B7, HBc⟩ := hcut
       clear x0 x1 x2 x3 x4 x5 x6 y0 y1 y2 y3 y4 y5 y6
       go_upto_region 7 with fail
       have f6 := blk_frozen B6.out 6
       have c6 : wc.cell? ⟨g6, 6, none⟩ = some (.int .i64 x.f6) := (blk_cell B6.out 6).trans rfl
       go_upto_region 8 with fail
       have B6b := Aside0.mk (show (wc.setCell ⟨g6, 6, none⟩ (.int .i64 0)).heap[g6]? = some (.cells #[.string x.f0, .int .i64 x.f1, .int .i64 x.f2, .int .i64 x.f3, .string x.f4, .string x.f5, .int .i64 0] 41 (0, 0)) from blk_set B6.out 6 _)
       have B7b := Aside0.mk (blk_far B7.out (p := ⟨g6, 6, none⟩) NE.out.symm (.int .i64 0))
       have HBd := Aside0.mk (below_set (j := 6) (v := .int .i64 0) HBc.out E6.out)
       generalize wc.setCell ⟨g6, 6, none⟩ (.int .i64 0) = w24 at B6b B7b HBd ⊢
       clear f6 c6 B6 B7 HBc
       have f6 := blk_frozen B7b.out 6
       have c6 : w24.cell? ⟨g7, 6, none⟩ = some (.int .i64 y.f6) := (blk_cell B7b.out 6).trans rfl
       go_upto_region 9 with fail
       have B7c := Aside0.mk (show (w24.setCell ⟨g7, 6, none⟩ (.int .i64 0)).heap[g7]? = some (.cells #[.string y.f0, .int .i64 y.f1, .int .i64 y.f2, .int .i64 y.f3, .string y.f4, .string y.f5, .int .i64 0] 41 (0, 0)) from blk_set B7b.out 6 _)
       have B6c := Aside0.mk (blk_far B6b.out (p := ⟨g7, 6, none⟩) NE.out (.int .i64 0))
       have HBe := Aside0.mk (below_set (j := 6) (v := .int .i64 0) HBd.out E7.out)
       generalize w24.setCell ⟨g7, 6, none⟩ (.int .i64 0) = w25 at B6c B7c HBe ⊢
       clear f6 c6 B6b B7b HBd
       obtain ⟨x0, x1, x2, x3, x4, x5, x6⟩ := spec_SameGroups.row7 B6c.out
       obtain ⟨y0, y1, y2, y3, y4, y5, y6⟩ := spec_SameGroups.row7 B7c.out
       have hu41 := Tryd.underlying41
       have HH := Aside0.mk HA2.out
       cases hn : spec_SameGroups.neq x y with
       | true =>
        have hr : r = false := by have := HA2.out; rw [hn] at this; exact this.symm
        subst hr
        have hn2 : (!(x.f0.toList == y.f0.toList) || (!(x.f1 == y.f1) || (!(x.f2 == y.f2) || (!(x.f3 == y.f3) || (!(x.f4.toList == y.f4.toList) || (!(x.f5.toList == y.f5.toList))))))) = true := hn
        clear hn
        go_wp2
        go_ret
        exact ⟨rfl, HBe.out⟩
       | false =>
        have hn2 : (!(x.f0.toList == y.f0.toList) || (!(x.f1 == y.f1) || (!(x.f2 == y.f2) || (!(x.f3 == y.f3) || (!(x.f4.toList == y.f4.toList) || (!(x.f5.toList == y.f5.toList))))))) = false := hn
        have HD := Aside0.mk (show (spec_SameGroups.inn l0 l1 i l0.length 0 && spec_SameGroups.out l0 l1 k1 (i + 1)) = r by have := HA2.out; rw [hn] at this; exact this)
        clear hn HH HA2
        go_upto_region 11 with fail
        clear hn2 x0 x1 x2 x3 x4 x5 x6 y0 y1 y2 y3 y4 y5 y6 hu41
        go_wp2
        go_loopg [8] l0.length (fun kq v8 w' => ∃ m : Nat, v8 = .int .i64 (m : Int) ∧ Aside0 (m + kq = l0.length) ∧ Aside0 ((spec_SameGroups.inn l0 l1 i kq m && spec_SameGroups.out l0 l1 k1 (i + 1)) = r) ∧ Aside0 (Below w.heap.size w w'))
        case atStart => exact ⟨0, rfl, ⟨by omega⟩, HD, HBe⟩
        case round =>
         clear HD HBe B6c B7c
         obtain ⟨m, rfl, HM, HA, HB⟩ := hrel
         by_cases hmt : (m : Int) < (l0.length : Int)
         ·
          have hmtb : decide ((m : Int) < (l0.length : Int)) = true := decide_eq_true hmt
          obtain ⟨k2, rfl⟩ : ∃ k2, gk = k2 + 1 := ⟨gk - 1, by have := HM.out; omega⟩
          have hmt1 : (m : Int) < (l1.length : Int) := by have := HLEN.out; omega
          have m0 : (0 : Int) ≤ (m : Int) := by omega
          obtain ⟨p0, e0, _, _, _, _, _, _, u0⟩ := at_T41 (Kd.C_below HR0.out HB.out) (i : Int) i0 hlt
          obtain rfl : a0 = p0 := by injection e0
          obtain ⟨p1, e1, _, _, _, _, _, _, u1⟩ := at_T41 (Kd.C_below HR1.out HB.out) (i : Int) i0 hlt1
          obtain rfl : a1 = p1 := by injection e1
          obtain ⟨p2, e2, _, _, _, _, _, _, u2⟩ := at_T41 (Kd.C_below HR0.out HB.out) (m : Int) m0 hmt
          obtain rfl : a0 = p2 := by injection e2
          obtain ⟨p3, e3, _, _, _, _, _, _, u3⟩ := at_T41 (Kd.C_below HR1.out HB.out) (m : Int) m0 hmt1
          obtain rfl : a1 = p3 := by injection e3
          rw [Int.toNat_natCast] at u0 u1 u2 u3
          obtain ⟨vA, hvA⟩ : ∃ v, v = spec_SameGroups.rel l0 i m := ⟨_, rfl⟩
          obtain ⟨vB, hvB⟩ : ∃ v, v = spec_SameGroups.rel l1 i m := ⟨_, rfl⟩
          have HA2 : Aside0 (((!(vA != vB) && spec_SameGroups.inn l0 l1 i k2 (m + 1)) && spec_SameGroups.out l0 l1 k1 (i + 1)) = r) := ⟨by rw [hvA, hvB]; exact HA.out⟩
          unfold spec_SameGroups.rel at hvA hvB
          generalize (rd_T41 l0 (i : Int)).f6 = gx at u0 hvA
          generalize (rd_T41 l1 (i : Int)).f6 = gy at u1 hvB
          generalize (rd_T41 l0 (m : Int)).f6 = hx at u2 hvA
          generalize (rd_T41 l1 (m : Int)).f6 = hy at u3 hvB
          have HVA := Aside0.mk hvA
          have HVB := Aside0.mk hvB
          clear hvA hvB HA e0 e1 e2 e3
          have t0 := eq_true i0
          have t1 := eq_true hlt
          have t2 := eq_true hlt1
          have t3 := eq_true m0
          have t4 := eq_true hmt
          have t5 := eq_true hmt1
          have t6 := decide_eq_true i0
          have t7 := decide_eq_true m0
          have t8 := decide_eq_true hmt1
          go_upto_region 14 with fail
          go_cut [87] (fun v87 wc => v87 = .bool (vA != vB) ∧ Aside0 (Below w.heap.size w wc))
          case first =>
           by_cases hgx : gx = 0
           ·
            have hx1 : (gx != 0) = false := by rw [hgx]; rfl
            obtain rfl : vA = false := by rw [HVA.out, hx1]; rfl
            by_cases hgy : gy = 0
            ·
             have hy1 : (gy != 0) = false := by rw [hgy]; rfl
             obtain rfl : vB = false := by rw [HVB.out, hy1]; rfl
             clear hgx hgy HVA HVB HA2
             refine start_ (n := 39) (S := fun w' => w'.cell? ⟨(a0.add (i * 7)).block, (a0.add (i * 7)).off + 6, none⟩ = some (.int .i64 gx) ∧ w'.cell? ⟨(a1.add (i * 7)).block, (a1.add (i * 7)).off + 6, none⟩ = some (.int .i64 gy)) (ds := []) (bm 39 0) (by kernel_rfl) rfl rfl ⟨u0, u1⟩ (fun hHeld => ?_); refine with_tabW spec_SameGroups.tab14 spec_SameGroups.bits14 (fun HT_ HW_ => ?_)
             have HBr := Aside0.mk (below_drew (Below.refl wr.heap.size wr))
             generalize wr.drew = wd at HBr hHeld ⊢
             refine pure_ (i := 0) (N := some 49) (v := ?_) (a' := ?_) (bm 39 1) rfl rfl (any_of HT_.out (by kernel_rfl)) (fun _ _ _ h => h) (Or.inl ⟨by rfl, ?_⟩) ?_ ?_; rotate_left; · (intro w'; go_simp; with_reducible rfl)
             rotate_left; · (simp only [Act.put, q1, q2, q3, q4, q5, q6, q7]; rfl)
             refine pure_ (i := 1) (N := some 50) (v := ?_) (a' := ?_) (bm 39 3) rfl rfl (any_of HT_.out (by kernel_rfl)) (fun _ _ _ h => h) (Or.inl ⟨by rfl, ?_⟩) ?_ ?_; rotate_left; · (intro w'; go_simp; with_reducible rfl)
             rotate_left; · (simp only [Act.put, q1, q2, q3, q4, q5, q6, q7]; rfl)
             refine pure_ (i := 2) (N := some 51) (v := ?_) (a' := ?_) (bm 39 7) rfl rfl (any_of HT_.out (by kernel_rfl)) (fun _ _ _ h => h) (Or.inl ⟨by rfl, ?_⟩) ?_ ?_; rotate_left; · (intro w'; go_simp; with_reducible rfl)
             rotate_left; · (simp only [Act.put, q1, q2, q3, q4, q5, q6, q7]; rfl)
             refine pure_ (i := 3) (N := some 52) (v := ?_) (a' := ?_) (bm 39 15) rfl rfl (any_of HT_.out (by kernel_rfl)) (fun _ _ _ h => h) (Or.inl ⟨by rfl, ?_⟩) ?_ ?_; rotate_left; · (intro w'; go_simp; with_reducible rfl)
             rotate_left; · (simp only [Act.put, q1, q2, q3, q4, q5, q6, q7]; rfl)
             refine pure_ (i := 19) (N := some 68) (v := ?_) (a' := ?_) (bm 39 524303) rfl rfl (any_of HT_.out (by kernel_rfl)) (fun _ _ _ h => h) (Or.inl ⟨by rfl, ?_⟩) ?_ ?_; rotate_left; · (intro w'; go_simp; with_reducible rfl)
             rotate_left; · (simp only [Act.put, q1, q2, q3, q4, q5, q6, q7]; rfl)
             refine pure_ (i := 20) (N := some 69) (v := ?_) (a' := ?_) (bm 39 1572879) rfl rfl (any_of HT_.out (by kernel_rfl)) (fun _ _ _ h => h) (Or.inl ⟨by rfl, ?_⟩) ?_ ?_; rotate_left; · (intro w'; go_simp; with_reducible rfl)
             rotate_left; · (simp only [Act.put, q1, q2, q3, q4, q5, q6, q7]; rfl)
             refine pure_ (i := 21) (N := some 70) (v := ?_) (a' := ?_) (bm 39 3670031) rfl rfl (any_of HT_.out (by kernel_rfl)) (fun _ _ _ h => h) (Or.inl ⟨by rfl, ?_⟩) ?_ ?_; rotate_left; · (intro w'; go_simp; with_reducible rfl)
             rotate_left; · (simp only [Act.put, q1, q2, q3, q4, q5, q6, q7]; rfl)
             refine pure_ (i := 22) (N := some 71) (v := ?_) (a' := ?_) (bm 39 7864335) rfl rfl (any_of HT_.out (by kernel_rfl)) (fun _ _ _ h => h) (Or.inl ⟨by rfl, ?_⟩) ?_ ?_; rotate_left; · (intro w'; go_simp; with_reducible rfl)
             rotate_left; · (simp only [Act.put, q1, q2, q3, q4, q5, q6, q7]; rfl)
             refine take_ (i := 4) (N := some 53) (v := ?_) (a' := ?_) (bm 39 7864351) rfl rfl (take_ofW HT_.out HW_.out (by kernel_rfl)) (fun _ _ _ h => h) (Or.inl ⟨by rfl, ?_⟩) hHeld ?_ ?_; rotate_left; · (rintro w' ⟨s0, s1⟩; go_simp; with_reducible rfl)
             rotate_left; · (simp only [Act.put, q1, q2, q3, q4, q5, q6, q7]; rfl)
             refine pure_ (i := 5) (N := some 54) (v := ?_) (a' := ?_) (bm 39 7864383) rfl rfl (any_of HT_.out (by kernel_rfl)) (fun _ _ _ h => h) (Or.inl ⟨by rfl, ?_⟩) ?_ ?_; rotate_left; · (intro w'; go_simp; with_reducible rfl)
             rotate_left; · (simp only [Act.put, q1, q2, q3, q4, q5, q6, q7]; rfl)
             refine pure_ (i := 6) (N := some 55) (v := ?_) (a' := ?_) (bm 39 7864447) rfl rfl (any_of HT_.out (by kernel_rfl)) (fun _ _ _ h => h) (Or.inl ⟨by rfl, ?_⟩) ?_ ?_; rotate_left; · (intro w'; go_simp; with_reducible rfl)
             rotate_left; · (simp only [Act.put, q1, q2, q3, q4, q5, q6, q7]; rfl)
             refine pure_ (i := 7) (N := some 56) (v := undef) (a' := ?_) (bm 39 7864575) rfl rfl (any_of HT_.out (by kernel_rfl)) (fun _ _ _ h => h) (Or.inr ⟨by rfl, rfl⟩) ?_ ?_; rotate_left; · (simp only [Act.put, q1, q2, q3, q4, q5, q6, q7]; rfl)
             refine pure_ (i := 8) (N := some 57) (v := undef) (a' := ?_) (bm 39 7864831) rfl rfl (any_of HT_.out (by kernel_rfl)) (fun _ _ _ h => h) (Or.inr ⟨by rfl, rfl⟩) ?_ ?_; rotate_left; · (simp only [Act.put, q1, q2, q3, q4, q5, q6, q7]; rfl)
             refine pure_ (i := 9) (N := some 58) (v := undef) (a' := ?_) (bm 39 7865343) rfl rfl (any_of HT_.out (by kernel_rfl)) (fun _ _ _ h => h) (Or.inr ⟨by rfl, rfl⟩) ?_ ?_; rotate_left; · (simp only [Act.put, q1, q2, q3, q4, q5, q6, q7]; rfl)
             refine pure_ (i := 10) (N := some 59) (v := undef) (a' := ?_) (bm 39 7866367) rfl rfl (any_of HT_.out (by kernel_rfl)) (fun _ _ _ h => h) (Or.inr ⟨by rfl, rfl⟩) ?_ ?_; rotate_left; · (simp only [Act.put, q1, q2, q3, q4, q5, q6, q7]; rfl)
             refine pure_ (i := 11) (N := some 60) (v := undef) (a' := ?_) (bm 39 7868415) rfl rfl (any_of HT_.out (by kernel_rfl)) (fun _ _ _ h => h) (Or.inr ⟨by rfl, rfl⟩) ?_ ?_; rotate_left; · (simp only [Act.put, q1, q2, q3, q4, q5, q6, q7]; rfl)
             refine pure_ (i := 12) (N := some 61) (v := undef) (a' := ?_) (bm 39 7872511) rfl rfl (any_of HT_.out (by kernel_rfl)) (fun _ _ _ h => h) (Or.inr ⟨by rfl, rfl⟩) ?_ ?_; rotate_left; · (simp only [Act.put, q1, q2, q3, q4, q5, q6, q7]; rfl)
             refine pure_ (i := 13) (N := some 62) (v := undef) (a' := ?_) (bm 39 7880703) rfl rfl (any_of HT_.out (by kernel_rfl)) (fun _ _ _ h => h) (Or.inr ⟨by rfl, rfl⟩) ?_ ?_; rotate_left; · (simp only [Act.put, q1, q2, q3, q4, q5, q6, q7]; rfl)
             refine pure_ (i := 14) (N := some 63) (v := undef) (a' := ?_) (bm 39 7897087) rfl rfl (any_of HT_.out (by kernel_rfl)) (fun _ _ _ h => h) (Or.inr ⟨by rfl, rfl⟩) ?_ ?_; rotate_left; · (simp only [Act.put, q1, q2, q3, q4, q5, q6, q7]; rfl)
             refine pure_ (i := 15) (N := some 64) (v := undef) (a' := ?_) (bm 39 7929855) rfl rfl (any_of HT_.out (by kernel_rfl)) (fun _ _ _ h => h) (Or.inr ⟨by rfl, rfl⟩) ?_ ?_; rotate_left; · (simp only [Act.put, q1, q2, q3, q4, q5, q6, q7]; rfl)
             refine pure_ (i := 16) (N := some 65) (v := undef) (a' := ?_) (bm 39 7995391) rfl rfl (any_of HT_.out (by kernel_rfl)) (fun _ _ _ h => h) (Or.inr ⟨by rfl, rfl⟩) ?_ ?_; rotate_left; · (simp only [Act.put, q1, q2, q3, q4, q5, q6, q7]; rfl)
             refine pure_ (i := 17) (N := some 66) (v := undef) (a' := ?_) (bm 39 8126463) rfl rfl (any_of HT_.out (by kernel_rfl)) (fun _ _ _ h => h) (Or.inr ⟨by rfl, rfl⟩) ?_ ?_; rotate_left; · (simp only [Act.put, q1, q2, q3, q4, q5, q6, q7]; rfl)
             refine pure_ (i := 18) (N := some 67) (v := ?_) (a' := ?_) (bm 39 8388607) rfl rfl (any_of HT_.out (by kernel_rfl)) (fun _ _ _ h => h) (Or.inl ⟨by rfl, ?_⟩) ?_ ?_; rotate_left; · (intro w'; go_simp; with_reducible rfl)
             rotate_left; · (simp only [Act.put, q1, q2, q3, q4, q5, q6, q7]; rfl)
             refine take_ (i := 23) (N := some 72) (v := ?_) (a' := ?_) (bm 39 16777215) rfl rfl (take_ofW HT_.out HW_.out (by kernel_rfl)) (fun _ _ _ h => h) (Or.inl ⟨by rfl, ?_⟩) hHeld ?_ ?_; rotate_left; · (rintro w' ⟨s0, s1⟩; go_simp; with_reducible rfl)
             rotate_left; · (simp only [Act.put, q1, q2, q3, q4, q5, q6, q7]; rfl)
             refine pure_ (i := 24) (N := some 73) (v := ?_) (a' := ?_) (bm 39 33554431) rfl rfl (any_of HT_.out (by kernel_rfl)) (fun _ _ _ h => h) (Or.inl ⟨by rfl, ?_⟩) ?_ ?_; rotate_left; · (intro w'; go_simp; with_reducible rfl)
             rotate_left; · (simp only [Act.put, q1, q2, q3, q4, q5, q6, q7]; rfl)
             refine pure_ (i := 25) (N := some 74) (v := ?_) (a' := ?_) (bm 39 67108863) rfl rfl (any_of HT_.out (by kernel_rfl)) (fun _ _ _ h => h) (Or.inl ⟨by rfl, ?_⟩) ?_ ?_; rotate_left; · (intro w'; go_simp; with_reducible rfl)
             rotate_left; · (simp only [Act.put, q1, q2, q3, q4, q5, q6, q7]; rfl)
             refine pure_ (i := 26) (N := some 75) (v := undef) (a' := ?_) (bm 39 134217727) rfl rfl (any_of HT_.out (by kernel_rfl)) (fun _ _ _ h => h) (Or.inr ⟨by rfl, rfl⟩) ?_ ?_; rotate_left; · (simp only [Act.put, q1, q2, q3, q4, q5, q6, q7]; rfl)
             refine pure_ (i := 27) (N := some 76) (v := undef) (a' := ?_) (bm 39 268435455) rfl rfl (any_of HT_.out (by kernel_rfl)) (fun _ _ _ h => h) (Or.inr ⟨by rfl, rfl⟩) ?_ ?_; rotate_left; · (simp only [Act.put, q1, q2, q3, q4, q5, q6, q7]; rfl)
             refine pure_ (i := 28) (N := some 77) (v := undef) (a' := ?_) (bm 39 536870911) rfl rfl (any_of HT_.out (by kernel_rfl)) (fun _ _ _ h => h) (Or.inr ⟨by rfl, rfl⟩) ?_ ?_; rotate_left; · (simp only [Act.put, q1, q2, q3, q4, q5, q6, q7]; rfl)
             refine pure_ (i := 29) (N := some 78) (v := undef) (a' := ?_) (bm 39 1073741823) rfl rfl (any_of HT_.out (by kernel_rfl)) (fun _ _ _ h => h) (Or.inr ⟨by rfl, rfl⟩) ?_ ?_; rotate_left; · (simp only [Act.put, q1, q2, q3, q4, q5, q6, q7]; rfl)
             refine pure_ (i := 30) (N := some 79) (v := undef) (a' := ?_) (bm 39 2147483647) rfl rfl (any_of HT_.out (by kernel_rfl)) (fun _ _ _ h => h) (Or.inr ⟨by rfl, rfl⟩) ?_ ?_; rotate_left; · (simp only [Act.put, q1, q2, q3, q4, q5, q6, q7]; rfl)
             refine pure_ (i := 31) (N := some 80) (v := undef) (a' := ?_) (bm 39 4294967295) rfl rfl (any_of HT_.out (by kernel_rfl)) (fun _ _ _ h => h) (Or.inr ⟨by rfl, rfl⟩) ?_ ?_; rotate_left; · (simp only [Act.put, q1, q2, q3, q4, q5, q6, q7]; rfl)
             refine pure_ (i := 32) (N := some 81) (v := undef) (a' := ?_) (bm 39 8589934591) rfl rfl (any_of HT_.out (by kernel_rfl)) (fun _ _ _ h => h) (Or.inr ⟨by rfl, rfl⟩) ?_ ?_; rotate_left; · (simp only [Act.put, q1, q2, q3, q4, q5, q6, q7]; rfl)
             refine pure_ (i := 33) (N := some 82) (v := undef) (a' := ?_) (bm 39 17179869183) rfl rfl (any_of HT_.out (by kernel_rfl)) (fun _ _ _ h => h) (Or.inr ⟨by rfl, rfl⟩) ?_ ?_; rotate_left; · (simp only [Act.put, q1, q2, q3, q4, q5, q6, q7]; rfl)
             refine pure_ (i := 34) (N := some 83) (v := undef) (a' := ?_) (bm 39 34359738367) rfl rfl (any_of HT_.out (by kernel_rfl)) (fun _ _ _ h => h) (Or.inr ⟨by rfl, rfl⟩) ?_ ?_; rotate_left; · (simp only [Act.put, q1, q2, q3, q4, q5, q6, q7]; rfl)
             refine pure_ (i := 35) (N := some 84) (v := undef) (a' := ?_) (bm 39 68719476735) rfl rfl (any_of HT_.out (by kernel_rfl)) (fun _ _ _ h => h) (Or.inr ⟨by rfl, rfl⟩) ?_ ?_; rotate_left; · (simp only [Act.put, q1, q2, q3, q4, q5, q6, q7]; rfl)
             refine pure_ (i := 36) (N := some 85) (v := undef) (a' := ?_) (bm 39 137438953471) rfl rfl (any_of HT_.out (by kernel_rfl)) (fun _ _ _ h => h) (Or.inr ⟨by rfl, rfl⟩) ?_ ?_; rotate_left; · (simp only [Act.put, q1, q2, q3, q4, q5, q6, q7]; rfl)
             refine pure_ (i := 37) (N := some 86) (v := ?_) (a' := ?_) (bm 39 274877906943) rfl rfl (any_of HT_.out (by kernel_rfl)) (fun _ _ _ h => h) (Or.inl ⟨by rfl, ?_⟩) ?_ ?_; rotate_left; · (intro w'; go_simp; with_reducible rfl)
             rotate_left; · (simp only [Act.put, q1, q2, q3, q4, q5, q6, q7]; rfl)
             refine pure_ (i := 38) (N := some 87) (v := ?_) (a' := ?_) (bm 39 549755813887) rfl rfl (any_of HT_.out (by kernel_rfl)) (fun _ _ _ h => h) (Or.inl ⟨by rfl, ?_⟩) ?_ ?_; rotate_left; · (intro w'; go_simp; with_reducible rfl)
             rotate_left; · (simp only [Act.put, q1, q2, q3, q4, q5, q6, q7]; rfl)
             refine done_ (done_of HT_.out (by kernel_rfl)) ?_
             try go_wp2
             go_meet
             case rel => exact ⟨rfl, ⟨below_step HB.out HBr.out⟩⟩
            ·
             have hy1 : (gy != 0) = true := by simpa using hgy
             obtain rfl : vB = (gy == hy) := by rw [HVB.out, hy1]; rfl
             clear hgx hgy HVA HVB HA2
             refine start_ (n := 39) (S := fun w' => w'.cell? ⟨(a0.add (i * 7)).block, (a0.add (i * 7)).off + 6, none⟩ = some (.int .i64 gx) ∧ w'.cell? ⟨(a1.add (i * 7)).block, (a1.add (i * 7)).off + 6, none⟩ = some (.int .i64 gy) ∧ w'.cell? ⟨(a1.add (m * 7)).block, (a1.add (m * 7)).off + 6, none⟩ = some (.int .i64 hy)) (ds := []) (bm 39 0) (by kernel_rfl) rfl rfl ⟨u0, u1, u3⟩ (fun hHeld => ?_); refine with_tabW spec_SameGroups.tab14 spec_SameGroups.bits14 (fun HT_ HW_ => ?_)
             have HBr := Aside0.mk (below_drew (Below.refl wr.heap.size wr))
             generalize wr.drew = wd at HBr hHeld ⊢
             refine pure_ (i := 0) (N := some 49) (v := ?_) (a' := ?_) (bm 39 1) rfl rfl (any_of HT_.out (by kernel_rfl)) (fun _ _ _ h => h) (Or.inl ⟨by rfl, ?_⟩) ?_ ?_; rotate_left; · (intro w'; go_simp; with_reducible rfl)
             rotate_left; · (simp only [Act.put, q1, q2, q3, q4, q5, q6, q7]; rfl)
             refine pure_ (i := 1) (N := some 50) (v := ?_) (a' := ?_) (bm 39 3) rfl rfl (any_of HT_.out (by kernel_rfl)) (fun _ _ _ h => h) (Or.inl ⟨by rfl, ?_⟩) ?_ ?_; rotate_left; · (intro w'; go_simp; with_reducible rfl)
             rotate_left; · (simp only [Act.put, q1, q2, q3, q4, q5, q6, q7]; rfl)
             refine pure_ (i := 2) (N := some 51) (v := ?_) (a' := ?_) (bm 39 7) rfl rfl (any_of HT_.out (by kernel_rfl)) (fun _ _ _ h => h) (Or.inl ⟨by rfl, ?_⟩) ?_ ?_; rotate_left; · (intro w'; go_simp; with_reducible rfl)
             rotate_left; · (simp only [Act.put, q1, q2, q3, q4, q5, q6, q7]; rfl)
             refine pure_ (i := 3) (N := some 52) (v := ?_) (a' := ?_) (bm 39 15) rfl rfl (any_of HT_.out (by kernel_rfl)) (fun _ _ _ h => h) (Or.inl ⟨by rfl, ?_⟩) ?_ ?_; rotate_left; · (intro w'; go_simp; with_reducible rfl)
             rotate_left; · (simp only [Act.put, q1, q2, q3, q4, q5, q6, q7]; rfl)
             refine pure_ (i := 19) (N := some 68) (v := ?_) (a' := ?_) (bm 39 524303) rfl rfl (any_of HT_.out (by kernel_rfl)) (fun _ _ _ h => h) (Or.inl ⟨by rfl, ?_⟩) ?_ ?_; rotate_left; · (intro w'; go_simp; with_reducible rfl)
             rotate_left; · (simp only [Act.put, q1, q2, q3, q4, q5, q6, q7]; rfl)
             refine pure_ (i := 20) (N := some 69) (v := ?_) (a' := ?_) (bm 39 1572879) rfl rfl (any_of HT_.out (by kernel_rfl)) (fun _ _ _ h => h) (Or.inl ⟨by rfl, ?_⟩) ?_ ?_; rotate_left; · (intro w'; go_simp; with_reducible rfl)
             rotate_left; · (simp only [Act.put, q1, q2, q3, q4, q5, q6, q7]; rfl)
             refine pure_ (i := 21) (N := some 70) (v := ?_) (a' := ?_) (bm 39 3670031) rfl rfl (any_of HT_.out (by kernel_rfl)) (fun _ _ _ h => h) (Or.inl ⟨by rfl, ?_⟩) ?_ ?_; rotate_left; · (intro w'; go_simp; with_reducible rfl)
             rotate_left; · (simp only [Act.put, q1, q2, q3, q4, q5, q6, q7]; rfl)
             refine pure_ (i := 22) (N := some 71) (v := ?_) (a' := ?_) (bm 39 7864335) rfl rfl (any_of HT_.out (by kernel_rfl)) (fun _ _ _ h => h) (Or.inl ⟨by rfl, ?_⟩) ?_ ?_; rotate_left; · (intro w'; go_simp; with_reducible rfl)
             rotate_left; · (simp only [Act.put, q1, q2, q3, q4, q5, q6, q7]; rfl)
             refine take_ (i := 4) (N := some 53) (v := ?_) (a' := ?_) (bm 39 7864351) rfl rfl (take_ofW HT_.out HW_.out (by kernel_rfl)) (fun _ _ _ h => h) (Or.inl ⟨by rfl, ?_⟩) hHeld ?_ ?_; rotate_left; · (rintro w' ⟨s0, s1, s3⟩; go_simp; with_reducible rfl)
             rotate_left; · (simp only [Act.put, q1, q2, q3, q4, q5, q6, q7]; rfl)
             refine pure_ (i := 5) (N := some 54) (v := ?_) (a' := ?_) (bm 39 7864383) rfl rfl (any_of HT_.out (by kernel_rfl)) (fun _ _ _ h => h) (Or.inl ⟨by rfl, ?_⟩) ?_ ?_; rotate_left; · (intro w'; go_simp; with_reducible rfl)
             rotate_left; · (simp only [Act.put, q1, q2, q3, q4, q5, q6, q7]; rfl)
             refine pure_ (i := 6) (N := some 55) (v := ?_) (a' := ?_) (bm 39 7864447) rfl rfl (any_of HT_.out (by kernel_rfl)) (fun _ _ _ h => h) (Or.inl ⟨by rfl, ?_⟩) ?_ ?_; rotate_left; · (intro w'; go_simp; with_reducible rfl)
             rotate_left; · (simp only [Act.put, q1, q2, q3, q4, q5, q6, q7]; rfl)
             refine pure_ (i := 7) (N := some 56) (v := undef) (a' := ?_) (bm 39 7864575) rfl rfl (any_of HT_.out (by kernel_rfl)) (fun _ _ _ h => h) (Or.inr ⟨by rfl, rfl⟩) ?_ ?_; rotate_left; · (simp only [Act.put, q1, q2, q3, q4, q5, q6, q7]; rfl)
             refine pure_ (i := 8) (N := some 57) (v := undef) (a' := ?_) (bm 39 7864831) rfl rfl (any_of HT_.out (by kernel_rfl)) (fun _ _ _ h => h) (Or.inr ⟨by rfl, rfl⟩) ?_ ?_; rotate_left; · (simp only [Act.put, q1, q2, q3, q4, q5, q6, q7]; rfl)
             refine pure_ (i := 9) (N := some 58) (v := undef) (a' := ?_) (bm 39 7865343) rfl rfl (any_of HT_.out (by kernel_rfl)) (fun _ _ _ h => h) (Or.inr ⟨by rfl, rfl⟩) ?_ ?_; rotate_left; · (simp only [Act.put, q1, q2, q3, q4, q5, q6, q7]; rfl)
             refine pure_ (i := 10) (N := some 59) (v := undef) (a' := ?_) (bm 39 7866367) rfl rfl (any_of HT_.out (by kernel_rfl)) (fun _ _ _ h => h) (Or.inr ⟨by rfl, rfl⟩) ?_ ?_; rotate_left; · (simp only [Act.put, q1, q2, q3, q4, q5, q6, q7]; rfl)
             refine pure_ (i := 11) (N := some 60) (v := undef) (a' := ?_) (bm 39 7868415) rfl rfl (any_of HT_.out (by kernel_rfl)) (fun _ _ _ h => h) (Or.inr ⟨by rfl, rfl⟩) ?_ ?_; rotate_left; · (simp only [Act.put, q1, q2, q3, q4, q5, q6, q7]; rfl)
             refine pure_ (i := 12) (N := some 61) (v := undef) (a' := ?_) (bm 39 7872511) rfl rfl (any_of HT_.out (by kernel_rfl)) (fun _ _ _ h => h) (Or.inr ⟨by rfl, rfl⟩) ?_ ?_; rotate_left; · (simp only [Act.put, q1, q2, q3, q4, q5, q6, q7]; rfl)
             refine pure_ (i := 13) (N := some 62) (v := undef) (a' := ?_) (bm 39 7880703) rfl rfl (any_of HT_.out (by kernel_rfl)) (fun _ _ _ h => h) (Or.inr ⟨by rfl, rfl⟩) ?_ ?_; rotate_left; · (simp only [Act.put, q1, q2, q3, q4, q5, q6, q7]; rfl)
             refine pure_ (i := 14) (N := some 63) (v := undef) (a' := ?_) (bm 39 7897087) rfl rfl (any_of HT_.out (by kernel_rfl)) (fun _ _ _ h => h) (Or.inr ⟨by rfl, rfl⟩) ?_ ?_; rotate_left; · (simp only [Act.put, q1, q2, q3, q4, q5, q6, q7]; rfl)
             refine pure_ (i := 15) (N := some 64) (v := undef) (a' := ?_) (bm 39 7929855) rfl rfl (any_of HT_.out (by kernel_rfl)) (fun _ _ _ h => h) (Or.inr ⟨by rfl, rfl⟩) ?_ ?_; rotate_left; · (simp only [Act.put, q1, q2, q3, q4, q5, q6, q7]; rfl)
             refine pure_ (i := 16) (N := some 65) (v := undef) (a' := ?_) (bm 39 7995391) rfl rfl (any_of HT_.out (by kernel_rfl)) (fun _ _ _ h => h) (Or.inr ⟨by rfl, rfl⟩) ?_ ?_; rotate_left; · (simp only [Act.put, q1, q2, q3, q4, q5, q6, q7]; rfl)
             refine pure_ (i := 17) (N := some 66) (v := undef) (a' := ?_) (bm 39 8126463) rfl rfl (any_of HT_.out (by kernel_rfl)) (fun _ _ _ h => h) (Or.inr ⟨by rfl, rfl⟩) ?_ ?_; rotate_left; · (simp only [Act.put, q1, q2, q3, q4, q5, q6, q7]; rfl)
             refine pure_ (i := 18) (N := some 67) (v := ?_) (a' := ?_) (bm 39 8388607) rfl rfl (any_of HT_.out (by kernel_rfl)) (fun _ _ _ h => h) (Or.inl ⟨by rfl, ?_⟩) ?_ ?_; rotate_left; · (intro w'; go_simp; with_reducible rfl)
             rotate_left; · (simp only [Act.put, q1, q2, q3, q4, q5, q6, q7]; rfl)
             refine take_ (i := 23) (N := some 72) (v := ?_) (a' := ?_) (bm 39 16777215) rfl rfl (take_ofW HT_.out HW_.out (by kernel_rfl)) (fun _ _ _ h => h) (Or.inl ⟨by rfl, ?_⟩) hHeld ?_ ?_; rotate_left; · (rintro w' ⟨s0, s1, s3⟩; go_simp; with_reducible rfl)
             rotate_left; · (simp only [Act.put, q1, q2, q3, q4, q5, q6, q7]; rfl)
             refine pure_ (i := 24) (N := some 73) (v := ?_) (a' := ?_) (bm 39 33554431) rfl rfl (any_of HT_.out (by kernel_rfl)) (fun _ _ _ h => h) (Or.inl ⟨by rfl, ?_⟩) ?_ ?_; rotate_left; · (intro w'; go_simp; with_reducible rfl)
             rotate_left; · (simp only [Act.put, q1, q2, q3, q4, q5, q6, q7]; rfl)
             refine pure_ (i := 25) (N := some 74) (v := ?_) (a' := ?_) (bm 39 67108863) rfl rfl (any_of HT_.out (by kernel_rfl)) (fun _ _ _ h => h) (Or.inl ⟨by rfl, ?_⟩) ?_ ?_; rotate_left; · (intro w'; go_simp; with_reducible rfl)
             rotate_left; · (simp only [Act.put, q1, q2, q3, q4, q5, q6, q7]; rfl)
             refine pure_ (i := 26) (N := some 75) (v := ?_) (a' := ?_) (bm 39 134217727) rfl rfl (any_of HT_.out (by kernel_rfl)) (fun _ _ _ h => h) (Or.inl ⟨by rfl, ?_⟩) ?_ ?_; rotate_left; · (intro w'; go_simp; with_reducible rfl)
             rotate_left; · (simp only [Act.put, q1, q2, q3, q4, q5, q6, q7]; rfl)
             refine pure_ (i := 27) (N := some 76) (v := ?_) (a' := ?_) (bm 39 268435455) rfl rfl (any_of HT_.out (by kernel_rfl)) (fun _ _ _ h => h) (Or.inl ⟨by rfl, ?_⟩) ?_ ?_; rotate_left; · (intro w'; go_simp; with_reducible rfl)
             rotate_left; · (simp only [Act.put, q1, q2, q3, q4, q5, q6, q7]; rfl)
             refine pure_ (i := 28) (N := some 77) (v := ?_) (a' := ?_) (bm 39 536870911) rfl rfl (any_of HT_.out (by kernel_rfl)) (fun _ _ _ h => h) (Or.inl ⟨by rfl, ?_⟩) ?_ ?_; rotate_left; · (intro w'; go_simp; with_reducible rfl)
             rotate_left; · (simp only [Act.put, q1, q2, q3, q4, q5, q6, q7]; rfl)
             refine pure_ (i := 29) (N := some 78) (v := ?_) (a' := ?_) (bm 39 1073741823) rfl rfl (any_of HT_.out (by kernel_rfl)) (fun _ _ _ h => h) (Or.inl ⟨by rfl, ?_⟩) ?_ ?_; rotate_left; · (intro w'; go_simp; with_reducible rfl)
             rotate_left; · (simp only [Act.put, q1, q2, q3, q4, q5, q6, q7]; rfl)
             refine pure_ (i := 31) (N := some 80) (v := ?_) (a' := ?_) (bm 39 3221225471) rfl rfl (any_of HT_.out (by kernel_rfl)) (fun _ _ _ h => h) (Or.inl ⟨by rfl, ?_⟩) ?_ ?_; rotate_left; · (intro w'; go_simp; with_reducible rfl)
             rotate_left; · (simp only [Act.put, q1, q2, q3, q4, q5, q6, q7]; rfl)
             refine pure_ (i := 32) (N := some 81) (v := ?_) (a' := ?_) (bm 39 7516192767) rfl rfl (any_of HT_.out (by kernel_rfl)) (fun _ _ _ h => h) (Or.inl ⟨by rfl, ?_⟩) ?_ ?_; rotate_left; · (intro w'; go_simp; with_reducible rfl)
             rotate_left; · (simp only [Act.put, q1, q2, q3, q4, q5, q6, q7]; rfl)
             refine pure_ (i := 33) (N := some 82) (v := ?_) (a' := ?_) (bm 39 16106127359) rfl rfl (any_of HT_.out (by kernel_rfl)) (fun _ _ _ h => h) (Or.inl ⟨by rfl, ?_⟩) ?_ ?_; rotate_left; · (intro w'; go_simp; with_reducible rfl)
             rotate_left; · (simp only [Act.put, q1, q2, q3, q4, q5, q6, q7]; rfl)
             refine pure_ (i := 34) (N := some 83) (v := ?_) (a' := ?_) (bm 39 33285996543) rfl rfl (any_of HT_.out (by kernel_rfl)) (fun _ _ _ h => h) (Or.inl ⟨by rfl, ?_⟩) ?_ ?_; rotate_left; · (intro w'; go_simp; with_reducible rfl)
             rotate_left; · (simp only [Act.put, q1, q2, q3, q4, q5, q6, q7]; rfl)
             refine take_ (i := 30) (N := some 79) (v := ?_) (a' := ?_) (bm 39 34359738367) rfl rfl (take_ofW HT_.out HW_.out (by kernel_rfl)) (fun _ _ _ h => h) (Or.inl ⟨by rfl, ?_⟩) hHeld ?_ ?_; rotate_left; · (rintro w' ⟨s0, s1, s3⟩; go_simp; with_reducible rfl)
             rotate_left; · (simp only [Act.put, q1, q2, q3, q4, q5, q6, q7]; rfl)
             refine take_ (i := 35) (N := some 84) (v := ?_) (a' := ?_) (bm 39 68719476735) rfl rfl (take_ofW HT_.out HW_.out (by kernel_rfl)) (fun _ _ _ h => h) (Or.inl ⟨by rfl, ?_⟩) hHeld ?_ ?_; rotate_left; · (rintro w' ⟨s0, s1, s3⟩; go_simp; with_reducible rfl)
             rotate_left; · (simp only [Act.put, q1, q2, q3, q4, q5, q6, q7]; rfl)
             refine pure_ (i := 36) (N := some 85) (v := ?_) (a' := ?_) (bm 39 137438953471) rfl rfl (any_of HT_.out (by kernel_rfl)) (fun _ _ _ h => h) (Or.inl ⟨by rfl, ?_⟩) ?_ ?_; rotate_left; · (intro w'; go_simp; with_reducible rfl)
             rotate_left; · (simp only [Act.put, q1, q2, q3, q4, q5, q6, q7]; rfl)
             refine pure_ (i := 37) (N := some 86) (v := ?_) (a' := ?_) (bm 39 274877906943) rfl rfl (any_of HT_.out (by kernel_rfl)) (fun _ _ _ h => h) (Or.inl ⟨by rfl, ?_⟩) ?_ ?_; rotate_left; · (intro w'; go_simp; with_reducible rfl)
             rotate_left; · (simp only [Act.put, q1, q2, q3, q4, q5, q6, q7]; rfl)
             refine pure_ (i := 38) (N := some 87) (v := ?_) (a' := ?_) (bm 39 549755813887) rfl rfl (any_of HT_.out (by kernel_rfl)) (fun _ _ _ h => h) (Or.inl ⟨by rfl, ?_⟩) ?_ ?_; rotate_left; · (intro w'; go_simp; with_reducible rfl)
             rotate_left; · (simp only [Act.put, q1, q2, q3, q4, q5, q6, q7]; rfl)
             refine done_ (done_of HT_.out (by kernel_rfl)) ?_
             try go_wp2
             go_meet
             case rel => exact ⟨by first | rfl | simp, ⟨below_step HB.out HBr.out⟩⟩
           ·
            have hx1 : (gx != 0) = true := by simpa using hgx
            obtain rfl : vA = (gx == hx) := by rw [HVA.out, hx1]; rfl
            by_cases hgy : gy = 0
            ·
             have hy1 : (gy != 0) = false := by rw [hgy]; rfl
             obtain rfl : vB = false := by rw [HVB.out, hy1]; rfl
             clear hgx hgy HVA HVB HA2
             refine start_ (n := 39) (S := fun w' => w'.cell? ⟨(a0.add (i * 7)).block, (a0.add (i * 7)).off + 6, none⟩ = some (.int .i64 gx) ∧ w'.cell? ⟨(a1.add (i * 7)).block, (a1.add (i * 7)).off + 6, none⟩ = some (.int .i64 gy) ∧ w'.cell? ⟨(a0.add (m * 7)).block, (a0.add (m * 7)).off + 6, none⟩ = some (.int .i64 hx)) (ds := []) (bm 39 0) (by kernel_rfl) rfl rfl ⟨u0, u1, u2⟩ (fun hHeld => ?_); refine with_tabW spec_SameGroups.tab14 spec_SameGroups.bits14 (fun HT_ HW_ => ?_)
             have HBr := Aside0.mk (below_drew (Below.refl wr.heap.size wr))
             generalize wr.drew = wd at HBr hHeld ⊢
             refine pure_ (i := 0) (N := some 49) (v := ?_) (a' := ?_) (bm 39 1) rfl rfl (any_of HT_.out (by kernel_rfl)) (fun _ _ _ h => h) (Or.inl ⟨by rfl, ?_⟩) ?_ ?_; rotate_left; · (intro w'; go_simp; with_reducible rfl)
             rotate_left; · (simp only [Act.put, q1, q2, q3, q4, q5, q6, q7]; rfl)
             refine pure_ (i := 1) (N := some 50) (v := ?_) (a' := ?_) (bm 39 3) rfl rfl (any_of HT_.out (by kernel_rfl)) (fun _ _ _ h => h) (Or.inl ⟨by rfl, ?_⟩) ?_ ?_; rotate_left; · (intro w'; go_simp; with_reducible rfl)
             rotate_left; · (simp only [Act.put, q1, q2, q3, q4, q5, q6, q7]; rfl)
             refine pure_ (i := 2) (N := some 51) (v := ?_) (a' := ?_) (bm 39 7) rfl rfl (any_of HT_.out (by kernel_rfl)) (fun _ _ _ h => h) (Or.inl ⟨by rfl, ?_⟩) ?_ ?_; rotate_left; · (intro w'; go_simp; with_reducible rfl)
             rotate_left; · (simp only [Act.put, q1, q2, q3, q4, q5, q6, q7]; rfl)
             refine pure_ (i := 3) (N := some 52) (v := ?_) (a' := ?_) (bm 39 15) rfl rfl (any_of HT_.out (by kernel_rfl)) (fun _ _ _ h => h) (Or.inl ⟨by rfl, ?_⟩) ?_ ?_; rotate_left; · (intro w'; go_simp; with_reducible rfl)
             rotate_left; · (simp only [Act.put, q1, q2, q3, q4, q5, q6, q7]; rfl)
             refine pure_ (i := 19) (N := some 68) (v := ?_) (a' := ?_) (bm 39 524303) rfl rfl (any_of HT_.out (by kernel_rfl)) (fun _ _ _ h => h) (Or.inl ⟨by rfl, ?_⟩) ?_ ?_; rotate_left; · (intro w'; go_simp; with_reducible rfl)
             rotate_left; · (simp only [Act.put, q1, q2, q3, q4, q5, q6, q7]; rfl)
             refine pure_ (i := 20) (N := some 69) (v := ?_) (a' := ?_) (bm 39 1572879) rfl rfl (any_of HT_.out (by kernel_rfl)) (fun _ _ _ h => h) (Or.inl ⟨by rfl, ?_⟩) ?_ ?_; rotate_left; · (intro w'; go_simp; with_reducible rfl)
             rotate_left; · (simp only [Act.put, q1, q2, q3, q4, q5, q6, q7]; rfl)
             refine pure_ (i := 21) (N := some 70) (v := ?_) (a' := ?_) (bm 39 3670031) rfl rfl (any_of HT_.out (by kernel_rfl)) (fun _ _ _ h => h) (Or.inl ⟨by rfl, ?_⟩) ?_ ?_; rotate_left; · (intro w'; go_simp; with_reducible rfl)
             rotate_left; · (simp only [Act.put, q1, q2, q3, q4, q5, q6, q7]; rfl)
             refine pure_ (i := 22) (N := some 71) (v := ?_) (a' := ?_) (bm 39 7864335) rfl rfl (any_of HT_.out (by kernel_rfl)) (fun _ _ _ h => h) (Or.inl ⟨by rfl, ?_⟩) ?_ ?_; rotate_left; · (intro w'; go_simp; with_reducible rfl)
             rotate_left; · (simp only [Act.put, q1, q2, q3, q4, q5, q6, q7]; rfl)
             refine take_ (i := 4) (N := some 53) (v := ?_) (a' := ?_) (bm 39 7864351) rfl rfl (take_ofW HT_.out HW_.out (by kernel_rfl)) (fun _ _ _ h => h) (Or.inl ⟨by rfl, ?_⟩) hHeld ?_ ?_; rotate_left; · (rintro w' ⟨s0, s1, s2⟩; go_simp; with_reducible rfl)
             rotate_left; · (simp only [Act.put, q1, q2, q3, q4, q5, q6, q7]; rfl)
             refine pure_ (i := 5) (N := some 54) (v := ?_) (a' := ?_) (bm 39 7864383) rfl rfl (any_of HT_.out (by kernel_rfl)) (fun _ _ _ h => h) (Or.inl ⟨by rfl, ?_⟩) ?_ ?_; rotate_left; · (intro w'; go_simp; with_reducible rfl)
             rotate_left; · (simp only [Act.put, q1, q2, q3, q4, q5, q6, q7]; rfl)
             refine pure_ (i := 6) (N := some 55) (v := ?_) (a' := ?_) (bm 39 7864447) rfl rfl (any_of HT_.out (by kernel_rfl)) (fun _ _ _ h => h) (Or.inl ⟨by rfl, ?_⟩) ?_ ?_; rotate_left; · (intro w'; go_simp; with_reducible rfl)
             rotate_left; · (simp only [Act.put, q1, q2, q3, q4, q5, q6, q7]; rfl)
             refine pure_ (i := 7) (N := some 56) (v := ?_) (a' := ?_) (bm 39 7864575) rfl rfl (any_of HT_.out (by kernel_rfl)) (fun _ _ _ h => h) (Or.inl ⟨by rfl, ?_⟩) ?_ ?_; rotate_left; · (intro w'; go_simp; with_reducible rfl)
             rotate_left; · (simp only [Act.put, q1, q2, q3, q4, q5, q6, q7]; rfl)
             refine pure_ (i := 8) (N := some 57) (v := ?_) (a' := ?_) (bm 39 7864831) rfl rfl (any_of HT_.out (by kernel_rfl)) (fun _ _ _ h => h) (Or.inl ⟨by rfl, ?_⟩) ?_ ?_; rotate_left; · (intro w'; go_simp; with_reducible rfl)
             rotate_left; · (simp only [Act.put, q1, q2, q3, q4, q5, q6, q7]; rfl)
             refine pure_ (i := 9) (N := some 58) (v := ?_) (a' := ?_) (bm 39 7865343) rfl rfl (any_of HT_.out (by kernel_rfl)) (fun _ _ _ h => h) (Or.inl ⟨by rfl, ?_⟩) ?_ ?_; rotate_left; · (intro w'; go_simp; with_reducible rfl)
             rotate_left; · (simp only [Act.put, q1, q2, q3, q4, q5, q6, q7]; rfl)
             refine pure_ (i := 10) (N := some 59) (v := ?_) (a' := ?_) (bm 39 7866367) rfl rfl (any_of HT_.out (by kernel_rfl)) (fun _ _ _ h => h) (Or.inl ⟨by rfl, ?_⟩) ?_ ?_; rotate_left; · (intro w'; go_simp; with_reducible rfl)
             rotate_left; · (simp only [Act.put, q1, q2, q3, q4, q5, q6, q7]; rfl)
             refine pure_ (i := 12) (N := some 61) (v := ?_) (a' := ?_) (bm 39 7870463) rfl rfl (any_of HT_.out (by kernel_rfl)) (fun _ _ _ h => h) (Or.inl ⟨by rfl, ?_⟩) ?_ ?_; rotate_left; · (intro w'; go_simp; with_reducible rfl)
             rotate_left; · (simp only [Act.put, q1, q2, q3, q4, q5, q6, q7]; rfl)
             refine pure_ (i := 13) (N := some 62) (v := ?_) (a' := ?_) (bm 39 7878655) rfl rfl (any_of HT_.out (by kernel_rfl)) (fun _ _ _ h => h) (Or.inl ⟨by rfl, ?_⟩) ?_ ?_; rotate_left; · (intro w'; go_simp; with_reducible rfl)
             rotate_left; · (simp only [Act.put, q1, q2, q3, q4, q5, q6, q7]; rfl)
             refine pure_ (i := 14) (N := some 63) (v := ?_) (a' := ?_) (bm 39 7895039) rfl rfl (any_of HT_.out (by kernel_rfl)) (fun _ _ _ h => h) (Or.inl ⟨by rfl, ?_⟩) ?_ ?_; rotate_left; · (intro w'; go_simp; with_reducible rfl)
             rotate_left; · (simp only [Act.put, q1, q2, q3, q4, q5, q6, q7]; rfl)
             refine pure_ (i := 15) (N := some 64) (v := ?_) (a' := ?_) (bm 39 7927807) rfl rfl (any_of HT_.out (by kernel_rfl)) (fun _ _ _ h => h) (Or.inl ⟨by rfl, ?_⟩) ?_ ?_; rotate_left; · (intro w'; go_simp; with_reducible rfl)
             rotate_left; · (simp only [Act.put, q1, q2, q3, q4, q5, q6, q7]; rfl)
             refine take_ (i := 11) (N := some 60) (v := ?_) (a' := ?_) (bm 39 7929855) rfl rfl (take_ofW HT_.out HW_.out (by kernel_rfl)) (fun _ _ _ h => h) (Or.inl ⟨by rfl, ?_⟩) hHeld ?_ ?_; rotate_left; · (rintro w' ⟨s0, s1, s2⟩; go_simp; with_reducible rfl)
             rotate_left; · (simp only [Act.put, q1, q2, q3, q4, q5, q6, q7]; rfl)
             refine take_ (i := 16) (N := some 65) (v := ?_) (a' := ?_) (bm 39 7995391) rfl rfl (take_ofW HT_.out HW_.out (by kernel_rfl)) (fun _ _ _ h => h) (Or.inl ⟨by rfl, ?_⟩) hHeld ?_ ?_; rotate_left; · (rintro w' ⟨s0, s1, s2⟩; go_simp; with_reducible rfl)
             rotate_left; · (simp only [Act.put, q1, q2, q3, q4, q5, q6, q7]; rfl)
             refine pure_ (i := 17) (N := some 66) (v := ?_) (a' := ?_) (bm 39 8126463) rfl rfl (any_of HT_.out (by kernel_rfl)) (fun _ _ _ h => h) (Or.inl ⟨by rfl, ?_⟩) ?_ ?_; rotate_left; · (intro w'; go_simp; with_reducible rfl)
             rotate_left; · (simp only [Act.put, q1, q2, q3, q4, q5, q6, q7]; rfl)
             refine pure_ (i := 18) (N := some 67) (v := ?_) (a' := ?_) (bm 39 8388607) rfl rfl (any_of HT_.out (by kernel_rfl)) (fun _ _ _ h => h) (Or.inl ⟨by rfl, ?_⟩) ?_ ?_; rotate_left; · (intro w'; go_simp; with_reducible rfl)
             rotate_left; · (simp only [Act.put, q1, q2, q3, q4, q5, q6, q7]; rfl)
             refine take_ (i := 23) (N := some 72) (v := ?_) (a' := ?_) (bm 39 16777215) rfl rfl (take_ofW HT_.out HW_.out (by kernel_rfl)) (fun _ _ _ h => h) (Or.inl ⟨by rfl, ?_⟩) hHeld ?_ ?_; rotate_left; · (rintro w' ⟨s0, s1, s2⟩; go_simp; with_reducible rfl)
             rotate_left; · (simp only [Act.put, q1, q2, q3, q4, q5, q6, q7]; rfl)
             refine pure_ (i := 24) (N := some 73) (v := ?_) (a' := ?_) (bm 39 33554431) rfl rfl (any_of HT_.out (by kernel_rfl)) (fun _ _ _ h => h) (Or.inl ⟨by rfl, ?_⟩) ?_ ?_; rotate_left; · (intro w'; go_simp; with_reducible rfl)
             rotate_left; · (simp only [Act.put, q1, q2, q3, q4, q5, q6, q7]; rfl)
             refine pure_ (i := 25) (N := some 74) (v := ?_) (a' := ?_) (bm 39 67108863) rfl rfl (any_of HT_.out (by kernel_rfl)) (fun _ _ _ h => h) (Or.inl ⟨by rfl, ?_⟩) ?_ ?_; rotate_left; · (intro w'; go_simp; with_reducible rfl)
             rotate_left; · (simp only [Act.put, q1, q2, q3, q4, q5, q6, q7]; rfl)
             refine pure_ (i := 26) (N := some 75) (v := undef) (a' := ?_) (bm 39 134217727) rfl rfl (any_of HT_.out (by kernel_rfl)) (fun _ _ _ h => h) (Or.inr ⟨by rfl, rfl⟩) ?_ ?_; rotate_left; · (simp only [Act.put, q1, q2, q3, q4, q5, q6, q7]; rfl)
             refine pure_ (i := 27) (N := some 76) (v := undef) (a' := ?_) (bm 39 268435455) rfl rfl (any_of HT_.out (by kernel_rfl)) (fun _ _ _ h => h) (Or.inr ⟨by rfl, rfl⟩) ?_ ?_; rotate_left; · (simp only [Act.put, q1, q2, q3, q4, q5, q6, q7]; rfl)
             refine pure_ (i := 28) (N := some 77) (v := undef) (a' := ?_) (bm 39 536870911) rfl rfl (any_of HT_.out (by kernel_rfl)) (fun _ _ _ h => h) (Or.inr ⟨by rfl, rfl⟩) ?_ ?_; rotate_left; · (simp only [Act.put, q1, q2, q3, q4, q5, q6, q7]; rfl)
             refine pure_ (i := 29) (N := some 78) (v := undef) (a' := ?_) (bm 39 1073741823) rfl rfl (any_of HT_.out (by kernel_rfl)) (fun _ _ _ h => h) (Or.inr ⟨by rfl, rfl⟩) ?_ ?_; rotate_left; · (simp only [Act.put, q1, q2, q3, q4, q5, q6, q7]; rfl)
             refine pure_ (i := 30) (N := some 79) (v := undef) (a' := ?_) (bm 39 2147483647) rfl rfl (any_of HT_.out (by kernel_rfl)) (fun _ _ _ h => h) (Or.inr ⟨by rfl, rfl⟩) ?_ ?_; rotate_left; · (simp only [Act.put, q1, q2, q3, q4, q5, q6, q7]; rfl)
             refine pure_ (i := 31) (N := some 80) (v := undef) (a' := ?_) (bm 39 4294967295) rfl rfl (any_of HT_.out (by kernel_rfl)) (fun _ _ _ h => h) (Or.inr ⟨by rfl, rfl⟩) ?_ ?_; rotate_left; · (simp only [Act.put, q1, q2, q3, q4, q5, q6, q7]; rfl)
             refine pure_ (i := 32) (N := some 81) (v := undef) (a' := ?_) (bm 39 8589934591) rfl rfl (any_of HT_.out (by kernel_rfl)) (fun _ _ _ h => h) (Or.inr ⟨by rfl, rfl⟩) ?_ ?_; rotate_left; · (simp only [Act.put, q1, q2, q3, q4, q5, q6, q7]; rfl)
             refine pure_ (i := 33) (N := some 82) (v := undef) (a' := ?_) (bm 39 17179869183) rfl rfl (any_of HT_.out (by kernel_rfl)) (fun _ _ _ h => h) (Or.inr ⟨by rfl, rfl⟩) ?_ ?_; rotate_left; · (simp only [Act.put, q1, q2, q3, q4, q5, q6, q7]; rfl)
             refine pure_ (i := 34) (N := some 83) (v := undef) (a' := ?_) (bm 39 34359738367) rfl rfl (any_of HT_.out (by kernel_rfl)) (fun _ _ _ h => h) (Or.inr ⟨by rfl, rfl⟩) ?_ ?_; rotate_left; · (simp only [Act.put, q1, q2, q3, q4, q5, q6, q7]; rfl)
             refine pure_ (i := 35) (N := some 84) (v := undef) (a' := ?_) (bm 39 68719476735) rfl rfl (any_of HT_.out (by kernel_rfl)) (fun _ _ _ h => h) (Or.inr ⟨by rfl, rfl⟩) ?_ ?_; rotate_left; · (simp only [Act.put, q1, q2, q3, q4, q5, q6, q7]; rfl)
             refine pure_ (i := 36) (N := some 85) (v := undef) (a' := ?_) (bm 39 137438953471) rfl rfl (any_of HT_.out (by kernel_rfl)) (fun _ _ _ h => h) (Or.inr ⟨by rfl, rfl⟩) ?_ ?_; rotate_left; · (simp only [Act.put, q1, q2, q3, q4, q5, q6, q7]; rfl)
             refine pure_ (i := 37) (N := some 86) (v := ?_) (a' := ?_) (bm 39 274877906943) rfl rfl (any_of HT_.out (by kernel_rfl)) (fun _ _ _ h => h) (Or.inl ⟨by rfl, ?_⟩) ?_ ?_; rotate_left; · (intro w'; go_simp; with_reducible rfl)
             rotate_left; · (simp only [Act.put, q1, q2, q3, q4, q5, q6, q7]; rfl)
             refine pure_ (i := 38) (N := some 87) (v := ?_) (a' := ?_) (bm 39 549755813887) rfl rfl (any_of HT_.out (by kernel_rfl)) (fun _ _ _ h => h) (Or.inl ⟨by rfl, ?_⟩) ?_ ?_; rotate_left; · (intro w'; go_simp; with_reducible rfl)
             rotate_left; · (simp only [Act.put, q1, q2, q3, q4, q5, q6, q7]; rfl)
             refine done_ (done_of HT_.out (by kernel_rfl)) ?_
             try go_wp2
             go_meet
             case rel => exact ⟨by first | rfl | simp, ⟨below_step HB.out HBr.out⟩⟩
            ·
             have hy1 : (gy != 0) = true := by simpa using hgy
             obtain rfl : vB = (gy == hy) := by rw [HVB.out, hy1]; rfl
             clear hgx hgy HVA HVB HA2
             refine start_ (n := 39) (S := fun w' => w'.cell? ⟨(a0.add (i * 7)).block, (a0.add (i * 7)).off + 6, none⟩ = some (.int .i64 gx) ∧ w'.cell? ⟨(a1.add (i * 7)).block, (a1.add (i * 7)).off + 6, none⟩ = some (.int .i64 gy) ∧ w'.cell? ⟨(a0.add (m * 7)).block, (a0.add (m * 7)).off + 6, none⟩ = some (.int .i64 hx) ∧ w'.cell? ⟨(a1.add (m * 7)).block, (a1.add (m * 7)).off + 6, none⟩ = some (.int .i64 hy)) (ds := []) (bm 39 0) (by kernel_rfl) rfl rfl ⟨u0, u1, u2, u3⟩ (fun hHeld => ?_); refine with_tabW spec_SameGroups.tab14 spec_SameGroups.bits14 (fun HT_ HW_ => ?_)
             have HBr := Aside0.mk (below_drew (Below.refl wr.heap.size wr))
             generalize wr.drew = wd at HBr hHeld ⊢
             refine pure_ (i := 0) (N := some 49) (v := ?_) (a' := ?_) (bm 39 1) rfl rfl (any_of HT_.out (by kernel_rfl)) (fun _ _ _ h => h) (Or.inl ⟨by rfl, ?_⟩) ?_ ?_; rotate_left; · (intro w'; go_simp; with_reducible rfl)
             rotate_left; · (simp only [Act.put, q1, q2, q3, q4, q5, q6, q7]; rfl)
             refine pure_ (i := 1) (N := some 50) (v := ?_) (a' := ?_) (bm 39 3) rfl rfl (any_of HT_.out (by kernel_rfl)) (fun _ _ _ h => h) (Or.inl ⟨by rfl, ?_⟩) ?_ ?_; rotate_left; · (intro w'; go_simp; with_reducible rfl)
             rotate_left; · (simp only [Act.put, q1, q2, q3, q4, q5, q6, q7]; rfl)
             refine pure_ (i := 2) (N := some 51) (v := ?_) (a' := ?_) (bm 39 7) rfl rfl (any_of HT_.out (by kernel_rfl)) (fun _ _ _ h => h) (Or.inl ⟨by rfl, ?_⟩) ?_ ?_; rotate_left; · (intro w'; go_simp; with_reducible rfl)
             rotate_left; · (simp only [Act.put, q1, q2, q3, q4, q5, q6, q7]; rfl)
             refine pure_ (i := 3) (N := some 52) (v := ?_) (a' := ?_) (bm 39 15) rfl rfl (any_of HT_.out (by kernel_rfl)) (fun _ _ _ h => h) (Or.inl ⟨by rfl, ?_⟩) ?_ ?_; rotate_left; · (intro w'; go_simp; with_reducible rfl)
             rotate_left; · (simp only [Act.put, q1, q2, q3, q4, q5, q6, q7]; rfl)
             refine pure_ (i := 19) (N := some 68) (v := ?_) (a' := ?_) (bm 39 524303) rfl rfl (any_of HT_.out (by kernel_rfl)) (fun _ _ _ h => h) (Or.inl ⟨by rfl, ?_⟩) ?_ ?_; rotate_left; · (intro w'; go_simp; with_reducible rfl)
             rotate_left; · (simp only [Act.put, q1, q2, q3, q4, q5, q6, q7]; rfl)
             refine pure_ (i := 20) (N := some 69) (v := ?_) (a' := ?_) (bm 39 1572879) rfl rfl (any_of HT_.out (by kernel_rfl)) (fun _ _ _ h => h) (Or.inl ⟨by rfl, ?_⟩) ?_ ?_; rotate_left; · (intro w'; go_simp; with_reducible rfl)
             rotate_left; · (simp only [Act.put, q1, q2, q3, q4, q5, q6, q7]; rfl)
             refine pure_ (i := 21) (N := some 70) (v := ?_) (a' := ?_) (bm 39 3670031) rfl rfl (any_of HT_.out (by kernel_rfl)) (fun _ _ _ h => h) (Or.inl ⟨by rfl, ?_⟩) ?_ ?_; rotate_left; · (intro w'; go_simp; with_reducible rfl)
             rotate_left; · (simp only [Act.put, q1, q2, q3, q4, q5, q6, q7]; rfl)
             refine pure_ (i := 22) (N := some 71) (v := ?_) (a' := ?_) (bm 39 7864335) rfl rfl (any_of HT_.out (by kernel_rfl)) (fun _ _ _ h => h) (Or.inl ⟨by rfl, ?_⟩) ?_ ?_; rotate_left; · (intro w'; go_simp; with_reducible rfl)
             rotate_left; · (simp only [Act.put, q1, q2, q3, q4, q5, q6, q7]; rfl)
             refine take_ (i := 4) (N := some 53) (v := ?_) (a' := ?_) (bm 39 7864351) rfl rfl (take_ofW HT_.out HW_.out (by kernel_rfl)) (fun _ _ _ h => h) (Or.inl ⟨by rfl, ?_⟩) hHeld ?_ ?_; rotate_left; · (rintro w' ⟨s0, s1, s2, s3⟩; go_simp; with_reducible rfl)
             rotate_left; · (simp only [Act.put, q1, q2, q3, q4, q5, q6, q7]; rfl)
             refine pure_ (i := 5) (N := some 54) (v := ?_) (a' := ?_) (bm 39 7864383) rfl rfl (any_of HT_.out (by kernel_rfl)) (fun _ _ _ h => h) (Or.inl ⟨by rfl, ?_⟩) ?_ ?_; rotate_left; · (intro w'; go_simp; with_reducible rfl)
             rotate_left; · (simp only [Act.put, q1, q2, q3, q4, q5, q6, q7]; rfl)
             refine pure_ (i := 6) (N := some 55) (v := ?_) (a' := ?_) (bm 39 7864447) rfl rfl (any_of HT_.out (by kernel_rfl)) (fun _ _ _ h => h) (Or.inl ⟨by rfl, ?_⟩) ?_ ?_; rotate_left; · (intro w'; go_simp; with_reducible rfl)
             rotate_left; · (simp only [Act.put, q1, q2, q3, q4, q5, q6, q7]; rfl)
             refine pure_ (i := 7) (N := some 56) (v := ?_) (a' := ?_) (bm 39 7864575) rfl rfl (any_of HT_.out (by kernel_rfl)) (fun _ _ _ h => h) (Or.inl ⟨by rfl, ?_⟩) ?_ ?_; rotate_left; · (intro w'; go_simp; with_reducible rfl)
             rotate_left; · (simp only [Act.put, q1, q2, q3, q4, q5, q6, q7]; rfl)
             refine pure_ (i := 8) (N := some 57) (v := ?_) (a' := ?_) (bm 39 7864831) rfl rfl (any_of HT_.out (by kernel_rfl)) (fun _ _ _ h => h) (Or.inl ⟨by rfl, ?_⟩) ?_ ?_; rotate_left; · (intro w'; go_simp; with_reducible rfl)
             rotate_left; · (simp only [Act.put, q1, q2, q3, q4, q5, q6, q7]; rfl)
             refine pure_ (i := 9) (N := some 58) (v := ?_) (a' := ?_) (bm 39 7865343) rfl rfl (any_of HT_.out (by kernel_rfl)) (fun _ _ _ h => h) (Or.inl ⟨by rfl, ?_⟩) ?_ ?_; rotate_left; · (intro w'; go_simp; with_reducible rfl)
             rotate_left; · (simp only [Act.put, q1, q2, q3, q4, q5, q6, q7]; rfl)
             refine pure_ (i := 10) (N := some 59) (v := ?_) (a' := ?_) (bm 39 7866367) rfl rfl (any_of HT_.out (by kernel_rfl)) (fun _ _ _ h => h) (Or.inl ⟨by rfl, ?_⟩) ?_ ?_; rotate_left; · (intro w'; go_simp; with_reducible rfl)
             rotate_left; · (simp only [Act.put, q1, q2, q3, q4, q5, q6, q7]; rfl)
             refine pure_ (i := 12) (N := some 61) (v := ?_) (a' := ?_) (bm 39 7870463) rfl rfl (any_of HT_.out (by kernel_rfl)) (fun _ _ _ h => h) (Or.inl ⟨by rfl, ?_⟩) ?_ ?_; rotate_left; · (intro w'; go_simp; with_reducible rfl)
             rotate_left; · (simp only [Act.put, q1, q2, q3, q4, q5, q6, q7]; rfl)
             refine pure_ (i := 13) (N := some 62) (v := ?_) (a' := ?_) (bm 39 7878655) rfl rfl (any_of HT_.out (by kernel_rfl)) (fun _ _ _ h => h) (Or.inl ⟨by rfl, ?_⟩) ?_ ?_; rotate_left; · (intro w'; go_simp; with_reducible rfl)
             rotate_left; · (simp only [Act.put, q1, q2, q3, q4, q5, q6, q7]; rfl)
             refine pure_ (i := 14) (N := some 63) (v := ?_) (a' := ?_) (bm 39 7895039) rfl rfl (any_of HT_.out (by kernel_rfl)) (fun _ _ _ h => h) (Or.inl ⟨by rfl, ?_⟩) ?_ ?_; rotate_left; · (intro w'; go_simp; with_reducible rfl)
             rotate_left; · (simp only [Act.put, q1, q2, q3, q4, q5, q6, q7]; rfl)
             refine pure_ (i := 15) (N := some 64) (v := ?_) (a' := ?_) (bm 39 7927807) rfl rfl (any_of HT_.out (by kernel_rfl)) (fun _ _ _ h => h) (Or.inl ⟨by rfl, ?_⟩) ?_ ?_; rotate_left; · (intro w'; go_simp; with_reducible rfl)
             rotate_left; · (simp only [Act.put, q1, q2, q3, q4, q5, q6, q7]; rfl)
             refine take_ (i := 11) (N := some 60) (v := ?_) (a' := ?_) (bm 39 7929855) rfl rfl (take_ofW HT_.out HW_.out (by kernel_rfl)) (fun _ _ _ h => h) (Or.inl ⟨by rfl, ?_⟩) hHeld ?_ ?_; rotate_left; · (rintro w' ⟨s0, s1, s2, s3⟩; go_simp; with_reducible rfl)
             rotate_left; · (simp only [Act.put, q1, q2, q3, q4, q5, q6, q7]; rfl)
             refine take_ (i := 16) (N := some 65) (v := ?_) (a' := ?_) (bm 39 7995391) rfl rfl (take_ofW HT_.out HW_.out (by kernel_rfl)) (fun _ _ _ h => h) (Or.inl ⟨by rfl, ?_⟩) hHeld ?_ ?_; rotate_left; · (rintro w' ⟨s0, s1, s2, s3⟩; go_simp; with_reducible rfl)
             rotate_left; · (simp only [Act.put, q1, q2, q3, q4, q5, q6, q7]; rfl)
             refine pure_ (i := 17) (N := some 66) (v := ?_) (a' := ?_) (bm 39 8126463) rfl rfl (any_of HT_.out (by kernel_rfl)) (fun _ _ _ h => h) (Or.inl ⟨by rfl, ?_⟩) ?_ ?_; rotate_left; · (intro w'; go_simp; with_reducible rfl)
             rotate_left; · (simp only [Act.put, q1, q2, q3, q4, q5, q6, q7]; rfl)
             refine pure_ (i := 18) (N := some 67) (v := ?_) (a' := ?_) (bm 39 8388607) rfl rfl (any_of HT_.out (by kernel_rfl)) (fun _ _ _ h => h) (Or.inl ⟨by rfl, ?_⟩) ?_ ?_; rotate_left; · (intro w'; go_simp; with_reducible rfl)
             rotate_left; · (simp only [Act.put, q1, q2, q3, q4, q5, q6, q7]; rfl)
             refine take_ (i := 23) (N := some 72) (v := ?_) (a' := ?_) (bm 39 16777215) rfl rfl (take_ofW HT_.out HW_.out (by kernel_rfl)) (fun _ _ _ h => h) (Or.inl ⟨by rfl, ?_⟩) hHeld ?_ ?_; rotate_left; · (rintro w' ⟨s0, s1, s2, s3⟩; go_simp; with_reducible rfl)
             rotate_left; · (simp only [Act.put, q1, q2, q3, q4, q5, q6, q7]; rfl)
             refine pure_ (i := 24) (N := some 73) (v := ?_) (a' := ?_) (bm 39 33554431) rfl rfl (any_of HT_.out (by kernel_rfl)) (fun _ _ _ h => h) (Or.inl ⟨by rfl, ?_⟩) ?_ ?_; rotate_left; · (intro w'; go_simp; with_reducible rfl)
             rotate_left; · (simp only [Act.put, q1, q2, q3, q4, q5, q6, q7]; rfl)
             refine pure_ (i := 25) (N := some 74) (v := ?_) (a' := ?_) (bm 39 67108863) rfl rfl (any_of HT_.out (by kernel_rfl)) (fun _ _ _ h => h) (Or.inl ⟨by rfl, ?_⟩) ?_ ?_; rotate_left; · (intro w'; go_simp; with_reducible rfl)
             rotate_left; · (simp only [Act.put, q1, q2, q3, q4, q5, q6, q7]; rfl)
             refine pure_ (i := 26) (N := some 75) (v := ?_) (a' := ?_) (bm 39 134217727) rfl rfl (any_of HT_.out (by kernel_rfl)) (fun _ _ _ h => h) (Or.inl ⟨by rfl, ?_⟩) ?_ ?_; rotate_left; · (intro w'; go_simp; with_reducible rfl)
             rotate_left; · (simp only [Act.put, q1, q2, q3, q4, q5, q6, q7]; rfl)
             refine pure_ (i := 27) (N := some 76) (v := ?_) (a' := ?_) (bm 39 268435455) rfl rfl (any_of HT_.out (by kernel_rfl)) (fun _ _ _ h => h) (Or.inl ⟨by rfl, ?_⟩) ?_ ?_; rotate_left; · (intro w'; go_simp; with_reducible rfl)
             rotate_left; · (simp only [Act.put, q1, q2, q3, q4, q5, q6, q7]; rfl)
             refine pure_ (i := 28) (N := some 77) (v := ?_) (a' := ?_) (bm 39 536870911) rfl rfl (any_of HT_.out (by kernel_rfl)) (fun _ _ _ h => h) (Or.inl ⟨by rfl, ?_⟩) ?_ ?_; rotate_left; · (intro w'; go_simp; with_reducible rfl)
             rotate_left; · (simp only [Act.put, q1, q2, q3, q4, q5, q6, q7]; rfl)
             refine pure_ (i := 29) (N := some 78) (v := ?_) (a' := ?_) (bm 39 1073741823) rfl rfl (any_of HT_.out (by kernel_rfl)) (fun _ _ _ h => h) (Or.inl ⟨by rfl, ?_⟩) ?_ ?_; rotate_left; · (intro w'; go_simp; with_reducible rfl)
             rotate_left; · (simp only [Act.put, q1, q2, q3, q4, q5, q6, q7]; rfl)
             refine pure_ (i := 31) (N := some 80) (v := ?_) (a' := ?_) (bm 39 3221225471) rfl rfl (any_of HT_.out (by kernel_rfl)) (fun _ _ _ h => h) (Or.inl ⟨by rfl, ?_⟩) ?_ ?_; rotate_left; · (intro w'; go_simp; with_reducible rfl)
             rotate_left; · (simp only [Act.put, q1, q2, q3, q4, q5, q6, q7]; rfl)
             refine pure_ (i := 32) (N := some 81) (v := ?_) (a' := ?_) (bm 39 7516192767) rfl rfl (any_of HT_.out (by kernel_rfl)) (fun _ _ _ h => h) (Or.inl ⟨by rfl, ?_⟩) ?_ ?_; rotate_left; · (intro w'; go_simp; with_reducible rfl)
             rotate_left; · (simp only [Act.put, q1, q2, q3, q4, q5, q6, q7]; rfl)
             refine pure_ (i := 33) (N := some 82) (v := ?_) (a' := ?_) (bm 39 16106127359) rfl rfl (any_of HT_.out (by kernel_rfl)) (fun _ _ _ h => h) (Or.inl ⟨by rfl, ?_⟩) ?_ ?_; rotate_left; · (intro w'; go_simp; with_reducible rfl)
             rotate_left; · (simp only [Act.put, q1, q2, q3, q4, q5, q6, q7]; rfl)
             refine pure_ (i := 34) (N := some 83) (v := ?_) (a' := ?_) (bm 39 33285996543) rfl rfl (any_of HT_.out (by kernel_rfl)) (fun _ _ _ h => h) (Or.inl ⟨by rfl, ?_⟩) ?_ ?_; rotate_left; · (intro w'; go_simp; with_reducible rfl)
             rotate_left; · (simp only [Act.put, q1, q2, q3, q4, q5, q6, q7]; rfl)
             refine take_ (i := 30) (N := some 79) (v := ?_) (a' := ?_) (bm 39 34359738367) rfl rfl (take_ofW HT_.out HW_.out (by kernel_rfl)) (fun _ _ _ h => h) (Or.inl ⟨by rfl, ?_⟩) hHeld ?_ ?_; rotate_left; · (rintro w' ⟨s0, s1, s2, s3⟩; go_simp; with_reducible rfl)
             rotate_left; · (simp only [Act.put, q1, q2, q3, q4, q5, q6, q7]; rfl)
             refine take_ (i := 35) (N := some 84) (v := ?_) (a' := ?_) (bm 39 68719476735) rfl rfl (take_ofW HT_.out HW_.out (by kernel_rfl)) (fun _ _ _ h => h) (Or.inl ⟨by rfl, ?_⟩) hHeld ?_ ?_; rotate_left; · (rintro w' ⟨s0, s1, s2, s3⟩; go_simp; with_reducible rfl)
             rotate_left; · (simp only [Act.put, q1, q2, q3, q4, q5, q6, q7]; rfl)
             refine pure_ (i := 36) (N := some 85) (v := ?_) (a' := ?_) (bm 39 137438953471) rfl rfl (any_of HT_.out (by kernel_rfl)) (fun _ _ _ h => h) (Or.inl ⟨by rfl, ?_⟩) ?_ ?_; rotate_left; · (intro w'; go_simp; with_reducible rfl)
             rotate_left; · (simp only [Act.put, q1, q2, q3, q4, q5, q6, q7]; rfl)
             refine pure_ (i := 37) (N := some 86) (v := ?_) (a' := ?_) (bm 39 274877906943) rfl rfl (any_of HT_.out (by kernel_rfl)) (fun _ _ _ h => h) (Or.inl ⟨by rfl, ?_⟩) ?_ ?_; rotate_left; · (intro w'; go_simp; with_reducible rfl)
             rotate_left; · (simp only [Act.put, q1, q2, q3, q4, q5, q6, q7]; rfl)
             refine pure_ (i := 38) (N := some 87) (v := ?_) (a' := ?_) (bm 39 549755813887) rfl rfl (any_of HT_.out (by kernel_rfl)) (fun _ _ _ h => h) (Or.inl ⟨by rfl, ?_⟩) ?_ ?_; rotate_left; · (intro w'; go_simp; with_reducible rfl)
             rotate_left; · (simp only [Act.put, q1, q2, q3, q4, q5, q6, q7]; rfl)
             refine done_ (done_of HT_.out (by kernel_rfl)) ?_
             try go_wp2
             go_meet
             case rel => exact ⟨by first | rfl | simp, ⟨below_step HB.out HBr.out⟩⟩
          case rest =>
           obtain ⟨rfl, HBc⟩ := hcut
           clear HVA HVB u0 u1 u2 u3
           cases hv : (vA != vB) with
           | true =>
            obtain rfl : r = false := by have := HA2.out; rw [hv] at this; exact this.symm
            clear HA2
            go_wp2
            go_ret
            exact ⟨rfl, HBc.out⟩
           | false =>
            have HD := Aside0.mk (show (spec_SameGroups.inn l0 l1 i k2 (m + 1) && spec_SameGroups.out l0 l1 k1 (i + 1)) = r by have := HA2.out; rw [hv] at this; exact this)
            have hmw : IntKind.i64.wrap ((m : Int) + 1) = ((m + 1 : Nat) : Int) := by rw [IntKind.wrap_i64]; have := HL.out; omega
            clear HA2
            go_wp2
            go_roundg k2
            case measure => omega
            case rel => exact ⟨m + 1, by first | exact congrArg (Value.int .i64) hmw | simp [hmw], ⟨by have := HM.out; omega⟩, HD, HBc⟩
         ·
          have hmtb : decide ((m : Int) < (l0.length : Int)) = false := decide_eq_false hmt
          obtain rfl : gk = 0 := by have := HM.out; omega
          have hiw : IntKind.i64.wrap ((i : Int) + 1) = ((i + 1 : Nat) : Int) := by rw [IntKind.wrap_i64]; have := HI.out; have := HL.out; omega
          go_wp2
          go_roundg k1
          case measure => omega
          case rel => exact ⟨i + 1, by first | exact congrArg (Value.int .i64) hiw | simp [hiw], ⟨by have := HI.out; omega⟩, HA, HB⟩
     ·
      have hltb : decide ((i : Int) < (l0.length : Int)) = false := decide_eq_false hlt
      obtain rfl : gk = 0 := by have := HI.out; omega
      obtain rfl : r = true := HA.out.symm
      go_wp2
      go_ret
      exact ⟨rfl, HB.out⟩
   ·
    rw [if_neg hlen] at h
    obtain rfl := Option.some.inj h
    have hlb : ((l0.length : Int) != (l1.length : Int)) = true := by simp; omega
    go_enter Tryd.func16, Tryd.ntmps16
    go_wp2_with (first | (go_at_call_of 43 (Value.slice A0 l0.length c0); refine (M0 _ (Below.refl _ _)).mono ?_; rintro e w2 ⟨rfl, hb2⟩) | (go_at_call_of 43 (Value.slice A1 l1.length c1); refine (M1 _ (by assumption)).mono ?_; rintro e w3 ⟨rfl, hb3⟩))
    go_ret
    exact ⟨rfl, below_step hb2 hb3⟩

end Go.Proofs.YtnfihjebbhjgjaaDoor.PSm
