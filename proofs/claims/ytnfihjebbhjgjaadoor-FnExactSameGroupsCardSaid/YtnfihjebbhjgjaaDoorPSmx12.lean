-- Made by a program of this session (tools/pr.sh) out of the translation; Lean checks it.
import Derived.Test.YtnfihjebbhjgjaaDoorPSmx0
import Derived.Test.YtnfihjebbhjgjaaDoorPSmx11
namespace Go.Proofs.YtnfihjebbhjgjaaDoor.PSm
open Go.RowKit Go.Proofs.YtnfihjebbhjgjaaDoorW.PrintWords Go.Proofs.YtnfihjebbhjgjaaDoorW.PrintLast Go.Proofs.YtnfihjebbhjgjaaDoorW.PrintMore
attribute [local go_sem] max2_int min2_int max_two min_two max_three min_three max_four min_four   -- for this text's walks alone
set_option linter.unusedVariables false
set_option linter.unusedSimpArgs false

-- GIVEN by hand
/-! ### impl_place: function 66 -/
def impl_place.cmp (x : S41) (p : ByteArray) : Option Int := impl_place_1.f x.f0 x.f1 x.f2 x.f3 x.f4 x.f5 x.f6 p
def impl_place.l0 : Nat → List S41 → ByteArray → Int → Int → Option Int
  | 0, _, _, _, _ => none
  | k + 1, l, p, i, j => if i < j then (if (0 ≤ i ∧ j ≤ (l.length : Int)) ∧ l.length ≤ 1000000 then ((impl_place.cmp (rd_T41 l ((i + j) / 2)) p).bind fun c => (if c < 0 then impl_place.l0 k l p ((i + j) / 2 + 1) j else impl_place.l0 k l p i ((i + j) / 2))) else none) else some i
def impl_place.f (k : Nat) (l0 : List S41) (a1 : ByteArray) : Option (Int × Bool) := (impl_place.l0 k l0 a1 0 (l0.length : Int)).bind fun i => (if i < (l0.length : Int) then (if 0 ≤ i then ((impl_place.cmp (rd_T41 l0 i) a1).bind fun c => some (i, (c == 0))) else none) else some (i, false))
theorem impl_place.mono_l : ∀ k, (∀ y0 y1 y2 y3, LeO (impl_place.l0 k y0 y1 y2 y3) (impl_place.l0 (k + 1) y0 y1 y2 y3))
  | 0 => fun _ _ _ _ r h => by simp [impl_place.l0] at h
  | k + 1 => by
    have ih0 := impl_place.mono_l k
    · intro y0 y1 y2 y3
      unfold impl_place.l0
      repeat' first
      | (with_reducible exact ih0 _ _ _ _)
      | (with_reducible exact LeO.refl _)
      | (with_reducible exact LeO.none _)
      | (with_reducible refine LeO.ite ?_ ?_)
      | (with_reducible refine LeO.bind ?_ (fun _ => ?_))
      | exact ih0 _ _ _ _
      | exact LeO.none _
      | refine LeO.ite ?_ ?_
      | refine LeO.bind ?_ (fun _ => ?_)
theorem impl_place.mono : ∀ a0 a1 k, LeO (impl_place.f k a0 a1) (impl_place.f (k + 1) a0 a1) := by
  intro a0 a1 k
  have ih0 := impl_place.mono_l k
  unfold impl_place.f
  repeat' first
      | (with_reducible exact ih0 _ _ _ _)
      | (with_reducible exact LeO.refl _)
      | (with_reducible exact LeO.none _)
      | (with_reducible refine LeO.ite ?_ ?_)
      | (with_reducible refine LeO.bind ?_ (fun _ => ?_))
      | exact ih0 _ _ _ _
      | exact LeO.none _
      | refine LeO.ite ?_ ?_
      | refine LeO.bind ?_ (fun _ => ?_)
set_option maxHeartbeats 8000000 in
set_option maxRecDepth 100000 in
theorem impl_place.search (k : Nat) (A0 : Option Addr) (c0 : Nat) (l0 : List S41) (a1 : ByteArray) (r1 : Int) (r2 : Bool) (w : World) (hr0 : Kd.C k41 w A0 l0.length l0) (hc0 : l0.length ≤ c0) (h : impl_place.f k l0 a1 = some (r1, r2)) :
    Calls Tryd.prog 76 #[.slice A0 l0.length c0, .string a1, .func (.func 77) #[] #[]] w fun e w' => e = .returned (.tuple #[.int .i64 r1, .bool r2]) ∧ Below w.heap.size w w' := by
  unfold impl_place.f at h
  obtain ⟨r, h0, h1⟩ := Option.bind_eq_some_iff.mp h
  clear h
  have HR0 := Aside0.mk hr0
  have HB := Aside0.mk (Below.refl w.heap.size w)
  have H0 := Aside0.mk h0
  have H1 := Aside0.mk h1
  clear h0 h1 hr0
  go_enter Tryd.func76, Tryd.ntmps76
  go_wp2
  go_loopg [9, 10] k (fun kq v9 v10 w' => ∃ (i j : Int), v9 = .int .i64 i ∧ v10 = .int .i64 j ∧ Aside0 (impl_place.l0 kq l0 a1 i j = some r) ∧ Aside0 (Below w.heap.size w w'))
  case atStart => exact ⟨0, l0.length, rfl, rfl, H0, HB⟩
  case round =>
    clear H0 HB
    obtain ⟨i, j, rfl, rfl, HA, HB⟩ := hrel
    cases gk with
    | zero => exact absurd HA.out (by simp [impl_place.l0])
    | succ k1 =>
      have H := HA.out
      clear HA
      simp only [impl_place.l0] at H
      by_cases hl : i < j
      · rw [if_pos hl] at H
        have hlb : decide (i < j) = true := decide_eq_true hl
        by_cases hb : (0 ≤ i ∧ j ≤ (l0.length : Int)) ∧ l0.length ≤ 1000000
        · rw [if_pos hb] at H
          obtain ⟨c, hc, H⟩ := Option.bind_eq_some_iff.mp H
          have e1 : IntKind.i64.wrap (i + j) = i + j := by rw [IntKind.wrap_i64]; omega
          have e2 : IntKind.u64.wrap (i + j) = i + j := by rw [IntKind.wrap_u64]; omega
          have e3 : IntKind.i64.wrap ((i + j) / 2) = (i + j) / 2 := by rw [IntKind.wrap_i64]; omega
          have e4 : IntKind.i64.wrap ((i + j) / 2 + 1) = (i + j) / 2 + 1 := by rw [IntKind.wrap_i64]; omega
          have e5 : (i + j) % 18446744073709551616 = i + j := by omega
          have b0 : 0 ≤ (i + j) / 2 := by omega
          have b1 : (i + j) / 2 < (l0.length : Int) := by omega
          obtain ⟨ad, rfl, x0, x1, x2, x3, x4, x5, x6⟩ := at_T41 (Kd.C_below HR0.out HB.out) ((i + j) / 2) b0 b1
          clear hb hl
          have b0b := eq_true b0
          have b1b := eq_true b1
          have hN := Aside0.mk hc
          have H' := Aside0.mk H
          clear hc H
          unfold impl_place.cmp at hN
          generalize rd_T41 l0 ((i + j) / 2) = x at x0 x1 x2 x3 x4 x5 x6 hN
          by_cases hcn : c < 0
          · have hcb : decide (c < 0) = true := decide_eq_true hcn
            rw [if_pos hcn] at H'
            go_wp2_with (go_at_call 77; refine (impl_place_1.calls _ _ _ _ _ _ _ _ c _ hN.out).mono ?_; rintro e w2 ⟨rfl, hb2⟩)
            go_roundg k1
            case measure => omega
            case rel => exact ⟨_, _, rfl, rfl, H', ⟨below_step HB.out hb2⟩⟩
          · have hcb : decide (c < 0) = false := decide_eq_false hcn
            rw [if_neg hcn] at H'
            go_wp2_with (go_at_call 77; refine (impl_place_1.calls _ _ _ _ _ _ _ _ c _ hN.out).mono ?_; rintro e w2 ⟨rfl, hb2⟩)
            go_roundg k1
            case measure => omega
            case rel => exact ⟨_, _, rfl, rfl, H', ⟨below_step HB.out hb2⟩⟩
        · rw [if_neg hb] at H; cases H
      · rw [if_neg hl] at H
        obtain rfl := Option.some.inj H
        have hlb : decide (i < j) = false := decide_eq_false hl
        clear H
        have h1 := H1.out
        by_cases hn : i < (l0.length : Int)
        · rw [if_pos hn] at h1
          have hnb : decide (i < (l0.length : Int)) = true := decide_eq_true hn
          by_cases h0 : 0 ≤ i
          · rw [if_pos h0] at h1
            obtain ⟨c, hc, h2⟩ := Option.bind_eq_some_iff.mp h1
            obtain ⟨rfl, rfl⟩ : i = r1 ∧ (c == 0) = r2 := by simpa using h2
            obtain ⟨ad, rfl, x0, x1, x2, x3, x4, x5, x6⟩ := at_T41 (Kd.C_below HR0.out HB.out) i h0 hn
            have h0b := eq_true h0
            have hN := Aside0.mk hc
            unfold impl_place.cmp at hN
            clear hc h1 h2 H1 hl
            generalize rd_T41 l0 i = x at x0 x1 x2 x3 x4 x5 x6 hN
            go_wp2_with (go_at_call 77; refine (impl_place_1.calls _ _ _ _ _ _ _ _ c _ hN.out).mono ?_; rintro e w2 ⟨rfl, hb2⟩)
            go_ret2
            exact ⟨rfl, below_step HB.out hb2⟩
          · rw [if_neg h0] at h1; cases h1
        · rw [if_neg hn] at h1
          have hnb : decide (i < (l0.length : Int)) = false := decide_eq_false hn
          obtain ⟨rfl, rfl⟩ : i = r1 ∧ false = r2 := by simpa using h1
          clear h1 H1 hl
          go_wp2
          go_ret2
          exact ⟨rfl, HB.out⟩
set_option maxHeartbeats 8000000 in
set_option maxRecDepth 100000 in
theorem impl_place.calls (k : Nat) (A0 : Option Addr) (c0 : Nat) (l0 : List S41) (a1 : ByteArray) (r1 : Int) (r2 : Bool) (w : World) (hr0 : Kd.C k41 w A0 l0.length l0) (hc0 : l0.length ≤ c0) (h : impl_place.f k l0 a1 = some (r1, r2)) :
    Calls Tryd.prog 66 #[.slice A0 l0.length c0, .string a1] w fun e w' => e = .returned (.tuple #[.int .i64 r1, .bool r2]) ∧ Below w.heap.size w w' := by
  have HN := Aside0.mk h
  clear h
  go_enter Tryd.func66, Tryd.ntmps66
  go_wp2_with (go_at_call 76; refine (impl_place.search k A0 c0 l0 a1 r1 r2 _ hr0 hc0 HN.out).mono ?_; rintro e w2 ⟨rfl, hb2⟩)
  go_ret2
  exact ⟨rfl, hb2⟩

end Go.Proofs.YtnfihjebbhjgjaaDoor.PSm
