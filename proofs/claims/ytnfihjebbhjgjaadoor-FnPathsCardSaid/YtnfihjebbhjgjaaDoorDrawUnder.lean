/- Two short texts are drawn from every code. Condition: the code is not longer than 2^20. -/
import Derived.Test.YtnfihjebbhjgjaaDoorPPax10
import Derived.Test.YtnfihjebbhjgjaaDoorDraw
import Derived.Test.YtnfihjebbhjgjaaDoorPaths
namespace Go.Proofs.YtnfihjebbhjgjaaDoor.DrawUnder
open Go Go.RowKit Go.Proofs.YtnfihjebbhjgjaaDoor.PPa Go.Proofs.YtnfihjebbhjgjaaDoorW.PrintWords Go.Proofs.YtnfihjebbhjgjaaDoor.Arith Go.Proofs.YtnfihjebbhjgjaaDoor.Lib Go.Proofs.YtnfihjebbhjgjaaDoor.Draw
set_option linter.unusedSimpArgs false
set_option linter.unusedVariables false

theorem pick_some {l : List Int} {i : Int} (h : Int) (hc : Cur l i) (xs : List ByteArray) (hx : 0 < xs.length) (hx2 : xs.length < 1000) (m : Nat) (hm : ∀ x ∈ xs, x.size ≤ m) : ∃ s i' h', spec_l01Pick.f l i h xs = some (s, i', h') ∧ s.size ≤ m ∧ Cur l i' := by
  obtain ⟨r, i', h', e, r0, r1, _, hc'⟩ := below_some h xs.length hc
  have r1' := r1 (by omega)
  unfold spec_l01Pick.f
  rw [e]
  simp only [Option.bind_some]
  rw [if_pos r0, if_pos r1']
  refine ⟨_, _, _, rfl, ?_, hc'⟩
  obtain ⟨q, rfl⟩ : ∃ q : Nat, r = q := ⟨r.toNat, by omega⟩
  rw [Paths.rdB xs q (by omega)]
  exact hm _ (List.getElem_mem _)
theorem name_some {l : List Int} {i : Int} (h : Int) (hc : Cur l i) : ∃ s i' h', spec_l02Name.f l i h = some (s, i', h') ∧ s.size ≤ 30 ∧ Cur l i' := by
  unfold spec_l02Name.f
  obtain ⟨s, i', h', e, hs, hc'⟩ := pick_some h hc [(⟨#[97]⟩ : ByteArray), (⟨#[98]⟩ : ByteArray), (⟨#[99]⟩ : ByteArray), (⟨#[100, 111, 99, 115]⟩ : ByteArray), (⟨#[105, 109, 103]⟩ : ByteArray), (⟨#[120, 46, 116, 120, 116]⟩ : ByteArray), (⟨#[121, 46, 116, 120, 116]⟩ : ByteArray), (⟨#[122, 46, 111]⟩ : ByteArray), (⟨#[110, 111, 116, 101, 95, 49]⟩ : ByteArray), (⟨#[66]⟩ : ByteArray), (⟨#[111, 108, 100]⟩ : ByteArray), (⟨#[107, 101, 101, 112, 46, 109, 101]⟩ : ByteArray), (⟨#[97, 45, 98]⟩ : ByteArray), (⟨#[108, 105, 98]⟩ : ByteArray)] (by decide) (by decide) 30 (by decide)
  rw [e]
  exact ⟨_, _, _, rfl, hs, hc'⟩
theorem path_loop {l : List Int} (n : Int) (hn : n < 4) (d : Nat) : ∀ (q : Nat) (s : ByteArray) (i h : Int), Cur l i → n - q ≤ d → q ≤ 10 → s.size ≤ 30 + 31 * q → ∃ t i' h', Ev (fun k => spec_l02Path.l0 k s n q l i h) (t, i', h') ∧ t.size ≤ 500 ∧ Cur l i' := by
  induction d with
  | zero =>
    intro q s i h hc hd hq hs
    refine ⟨s, i, h, ev_at fun k => ?_, by omega, hc⟩
    simp only [spec_l02Path.l0]
    rw [if_neg (by omega)]
  | succ d ih =>
    intro q s i h hc hd hq hs
    by_cases hlt : (q : Int) < n
    · obtain ⟨t, i', h', e, ht, hc'⟩ := name_some h hc
      have hz : (s ++ (⟨#[47]⟩ : ByteArray)).size = s.size + 1 := by rw [ByteArray.size_append]; rfl
      obtain ⟨u, i2, h2, hu, hu2, hc2⟩ := ih (q + 1) ((s ++ (⟨#[47]⟩ : ByteArray)) ++ t) i' h' hc' (by omega) (by omega) (by rw [ByteArray.size_append, hz]; omega)
      refine ⟨u, i2, h2, Ev.step (fun k => ?_) hu, hu2, hc2⟩
      simp only [spec_l02Path.l0]
      rw [if_pos hlt, if_pos (by omega), e]
      simp only [Option.bind_some]
      rw [if_pos (by rw [hz]; omega), w64s q (by omega)]
    · refine ⟨s, i, h, ev_at fun k => ?_, by omega, hc⟩
      simp only [spec_l02Path.l0]
      rw [if_neg hlt]
theorem path_some {l : List Int} {i : Int} (h : Int) (hc : Cur l i) : ∃ s i' h', Ev (fun k => spec_l02Path.f k l i h) (s, i', h') ∧ s.size ≤ 500 ∧ Cur l i' := by
  unfold spec_l02Path.f
  obtain ⟨s, i1, h1, e1, hs, hc1⟩ := name_some h hc
  obtain ⟨n, i2, h2, e2, n0, n1, _, hc2⟩ := below_some h1 4 hc1
  have n1' := n1 (by omega)
  obtain ⟨t, i3, h3, ht, hs3, hc3⟩ := path_loop n n1' 4 0 s i2 h2 hc2 (by omega) (by omega) (by omega)
  refine ⟨t, i3, h3, ?_, hs3, hc3⟩
  rw [e1]
  simp only [Option.bind_some]
  rw [e2]
  simp only [Option.bind_some]
  exact ht
theorem any_some {l : List Int} {i : Int} (h : Int) (hc : Cur l i) : ∃ s i' h', Ev (fun k => spec_l02Any.f k l i h) (s, i', h') ∧ s.size ≤ 501 ∧ Cur l i' := by
  obtain ⟨s, i1, h1, hs, hz, hc1⟩ := path_some h hc
  obtain ⟨n, i2, h2, e2, n0, n1, _, hc2⟩ := below_some h1 14 hc1
  obtain ⟨t, i3, h3, e3, ht, hc3⟩ := pick_some h2 hc2 [(⟨#[]⟩ : ByteArray), (⟨#[47]⟩ : ByteArray), (⟨#[97, 47]⟩ : ByteArray), (⟨#[47, 97]⟩ : ByteArray), (⟨#[97, 47, 47, 98]⟩ : ByteArray), (⟨#[46]⟩ : ByteArray), (⟨#[46, 46]⟩ : ByteArray), (⟨#[97, 47, 46, 46]⟩ : ByteArray), (⟨#[97, 32, 98]⟩ : ByteArray), (⟨#[97, 98, 99, 100, 101, 102, 103, 104, 105, 106, 107, 108, 109, 110, 111, 112, 113, 114, 115, 116]⟩ : ByteArray), (⟨#[97, 98, 99, 100, 101, 102, 103, 104, 105, 106, 107, 108, 109, 110, 111, 112, 113, 114, 115, 116, 117]⟩ : ByteArray), (⟨#[97, 47, 98, 47, 99, 47, 100, 47, 101, 47, 102, 47, 103, 47, 104]⟩ : ByteArray), (⟨#[97, 47, 98, 47, 99, 47, 100, 47, 101, 47, 102, 47, 103, 47, 104, 47, 105]⟩ : ByteArray)] (by decide) (by decide) 30 (by decide)
  by_cases h0 : n = 0
  · refine ⟨t, i3, h3, ?_, by omega, hc3⟩
    unfold spec_l02Any.f
    refine Ev.bind hs ?_
    simp only [e2, Option.bind_some, if_pos h0, e3]
    exact Ev.now _
  · by_cases hn1 : n = 1
    · refine ⟨s ++ (⟨#[47]⟩ : ByteArray), i2, h2, ?_, by rw [ByteArray.size_append]; exact Nat.add_le_add hz (Nat.le_refl 1), hc2⟩
      unfold spec_l02Any.f
      refine Ev.bind hs ?_
      simp only [e2, Option.bind_some, if_neg h0, if_pos hn1, if_pos (show s.size + 1 ≤ 9223372036854775807 by omega)]
      exact Ev.now _
    · refine ⟨s, i2, h2, ?_, by omega, hc2⟩
      unfold spec_l02Any.f
      refine Ev.bind hs ?_
      simp only [e2, Option.bind_some, if_neg h0, if_neg hn1]
      exact Ev.now _
theorem draw_some (l : List Int) (hl : l.length ≤ 1048576) : ∃ p q, Ev (fun k => spec_DrawUnder.f k l) (p, q) ∧ p.size ≤ 1000 ∧ q.size ≤ 1000 := by
  obtain ⟨h0, hn⟩ := new_ev l hl
  obtain ⟨s, i1, h1, hs, hz, hc1⟩ := any_some h0 (cur_new l hl)
  obtain ⟨n, i2, h2, e2, n0, n1, _, hc2⟩ := below_some h1 5 hc1
  by_cases c0 : n = 0
  · obtain ⟨t, i3, h3, ht, hz3, hc3⟩ := any_some h2 hc2
    refine ⟨s, t, ?_, by omega, by omega⟩
    unfold spec_DrawUnder.f
    refine Ev.bind hn (Ev.bind hs ?_)
    simp only [e2, Option.bind_some, if_pos c0]
    exact Ev.bind ht (Ev.now _)
  by_cases c1 : n = 1
  · refine ⟨(⟨#[]⟩ : ByteArray), s, ?_, by decide, by omega⟩
    unfold spec_DrawUnder.f
    refine Ev.bind hn (Ev.bind hs ?_)
    simp only [e2, Option.bind_some, if_neg c0, if_pos c1]
    exact Ev.now _
  by_cases c2 : n = 2
  · refine ⟨s, s, ?_, by omega, by omega⟩
    unfold spec_DrawUnder.f
    refine Ev.bind hn (Ev.bind hs ?_)
    simp only [e2, Option.bind_some, if_neg c0, if_neg c1, if_pos c2]
    exact Ev.now _
  by_cases c3 : n = 3
  · refine ⟨s, s ++ (⟨#[120]⟩ : ByteArray), ?_, by omega, by rw [ByteArray.size_append]; exact Nat.le_trans (Nat.add_le_add hz (Nat.le_refl 1)) (by decide)⟩
    unfold spec_DrawUnder.f
    refine Ev.bind hn (Ev.bind hs ?_)
    simp only [e2, Option.bind_some, if_neg c0, if_neg c1, if_neg c2, if_pos c3, if_pos (show s.size + 1 ≤ 9223372036854775807 by omega)]
    exact Ev.now _
  · obtain ⟨t, i3, h3, e3, ht, hc3⟩ := name_some h2 hc2
    have hzz : (s ++ (⟨#[47]⟩ : ByteArray)).size = s.size + 1 := by rw [ByteArray.size_append]; rfl
    refine ⟨s, (s ++ (⟨#[47]⟩ : ByteArray)) ++ t, ?_, by omega, by rw [ByteArray.size_append, hzz]; omega⟩
    unfold spec_DrawUnder.f
    refine Ev.bind hn (Ev.bind hs ?_)
    simp only [e2, Option.bind_some, if_neg c0, if_neg c1, if_neg c2, if_neg c3, if_pos (show s.size + 1 ≤ 9223372036854775807 by omega), e3, hzz, if_pos (show s.size + 1 + t.size ≤ 9223372036854775807 by omega)]
    exact Ev.now _

end Go.Proofs.YtnfihjebbhjgjaaDoor.DrawUnder
