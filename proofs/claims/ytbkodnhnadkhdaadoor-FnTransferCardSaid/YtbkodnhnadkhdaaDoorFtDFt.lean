/- The drawn transfer: an old text of at most 250 bytes, a new one of at most 2000, a seed below 5. Condition: the code is not longer than 2^20. -/
import Derived.Test.YtbkodnhnadkhdaaDoorPFtx4
import Derived.Test.YtbkodnhnadkhdaaDoorDrawTextFt
namespace Go.Proofs.YtbkodnhnadkhdaaDoor.FtD
open Go Go.RowKit Go.Proofs.YtbkodnhnadkhdaaDoor.PFt Go.Proofs.YtbkodnhnadkhdaaDoorW.PrintWords Go.Proofs.YtbkodnhnadkhdaaDoor.Arith Go.Proofs.YtbkodnhnadkhdaaDoor.Lib Go.Proofs.YtbkodnhnadkhdaaDoor.Draw Go.Proofs.YtbkodnhnadkhdaaDoor.DrawText
set_option linter.unusedSimpArgs false
set_option linter.unusedVariables false
theorem pair_loop (l : List Int) (old : ByteArray) (ho : old.size ≤ 250) (c : Nat) (hc5 : c ≤ 5) (d : Nat) : ∀ (j : Nat) (out : ByteArray) (i h : Int), j + d = c → out.size ≤ 300 * j → Cur l i → ∃ t i' h', Ev (fun k => spec_l06Pair.l0 k old out c j l i h) (old, t, i', h') ∧ t.size ≤ 2000 ∧ Cur l i' := by
  induction d with
  | zero =>
    intro j out i h hj hz hc
    obtain ⟨b, i1, h1, e1, hc1⟩ := once_some h 6 hc
    cases b with
    | true =>
      refine ⟨old, i1, h1, ev_at fun k => ?_, by omega, hc1⟩
      simp only [spec_l06Pair.l0]
      rw [if_neg (by omega), e1]
      simp
    | false =>
      refine ⟨out, i1, h1, ev_at fun k => ?_, by omega, hc1⟩
      simp only [spec_l06Pair.l0]
      rw [if_neg (by omega), e1]
      simp
  | succ d ih =>
    intro j out i h hj hz hc
    have hw1 := Aside0.mk (w64 (x := (old.size : Int) + 1) (by omega) (by omega))
    obtain ⟨a, i1, h1, e1, a0, a1, _, hc1⟩ := below_some h ((old.size : Int) + 1) hc
    have a1 := a1 (by omega)
    have hw2 := Aside0.mk (show wrap64 (wrap64 ((old.size : Int) - a) + 1) = (old.size : Int) - a + 1 by rw [w64 (x := (old.size : Int) - a) (by omega) (by omega), w64 (by omega) (by omega)])
    obtain ⟨b, i2, h2, e2, b0, b1, _, hc2⟩ := below_some h1 ((old.size : Int) - a + 1) hc1
    have b1 := b1 (by omega)
    have hw3 := Aside0.mk (w64 (x := a + b) (by omega) (by omega))
    have hw4 := Aside0.mk (w64s j (by omega))
    obtain ⟨o, i3, h3, e3, hc3⟩ := once_some h2 2 hc2
    have hx := Aside0.mk (show (old.extract a.toNat (a + b).toNat).size ≤ 250 by rw [ByteArray.size_extract]; omega)
    have hx2 := Aside0.mk (show (out ++ old.extract a.toNat (a + b).toNat).size ≤ 300 * j + 250 by rw [ByteArray.size_append]; exact Nat.add_le_add hz hx.out)
    have hs1 := Aside0.mk (show out.size + (old.extract a.toNat (a + b).toNat).size ≤ 9223372036854775807 from Nat.le_trans (Nat.add_le_add hz hx.out) (by omega))
    have hg1 : a ≤ a + b := by omega
    have hg2 : a + b ≤ (old.size : Int) := by omega
    have hg3 : (j : Int) < (c : Int) := by omega
    cases o with
    | false =>
      obtain ⟨t, i', h', hs, ht, hcl⟩ := ih (j + 1) (out ++ old.extract a.toNat (a + b).toNat) i3 h3 (by omega) (Nat.le_trans hx2.out (by omega)) hc3
      refine ⟨t, i', h', Ev.step (fun k => ?_) hs, ht, hcl⟩
      simp only [spec_l06Pair.l0]
      rw [if_pos hg3, hw1.out, e1]
      simp only [Option.bind_some]
      rw [hw2.out, e2]
      simp only [Option.bind_some]
      rw [hw3.out, if_pos a0, if_pos hg1, if_pos hg2, if_pos hs1.out, e3, hw4.out]
      simp
    | true =>
      obtain ⟨m, i4, h4, e4, m0, m1, _, hc4⟩ := below_some h3 12 hc3
      have m1 := m1 (by omega)
      obtain ⟨u, i5, h5, hu, hus, hc5'⟩ := text_some h4 hc4 m m0 (by omega)
      have hu11 : u.size ≤ 12 := by omega
      have hs2 := Aside0.mk (show (out ++ old.extract a.toNat (a + b).toNat).size + u.size ≤ 9223372036854775807 from Nat.le_trans (Nat.add_le_add hx2.out hu11) (by omega))
      obtain ⟨t, i', h', hs, ht, hcl⟩ := ih (j + 1) (out ++ old.extract a.toNat (a + b).toNat ++ u) i5 h5 (by omega) (by rw [ByteArray.size_append]; exact Nat.le_trans (Nat.add_le_add hx2.out hu11) (by omega)) hc5'
      refine ⟨t, i', h', Ev.step (f := fun k => (spec_l01Text.f k l i4 h4 m).bind fun q => if (out ++ old.extract a.toNat (a + b).toNat).size + q.1.size ≤ 9223372036854775807 then spec_l06Pair.l0 k old (out ++ old.extract a.toNat (a + b).toNat ++ q.1) c ((j + 1 : Nat) : Int) l q.2.1 q.2.2 else none) (fun k => ?_) (Ev.bind hu ?_), ht, hcl⟩
      · simp only [spec_l06Pair.l0]
        rw [if_pos hg3, hw1.out, e1]
        simp only [Option.bind_some]
        rw [hw2.out, e2]
        simp only [Option.bind_some]
        rw [hw3.out, if_pos a0, if_pos hg1, if_pos hg2, if_pos hs1.out, e3, hw4.out]
        simp only [Option.bind_some, if_true]
        rw [e4]
        simp only [Option.bind_some]
      · simp only [if_pos hs2.out]
        exact hs
theorem size_some (l : List Int) (hl : l.length ≤ 1048576) : ∃ n : Int, spec_l01Size.f l 250 = some n ∧ 0 ≤ n ∧ n ≤ 250 := by
  unfold spec_l01Size.f
  rw [w64 (x := (l.length : Int) / 20) (by omega) (by omega), w64 (by omega) (by omega)]
  by_cases h : 2 + (l.length : Int) / 20 > 250
  · rw [if_pos h]; exact ⟨_, rfl, by omega, by omega⟩
  · rw [if_neg h]; exact ⟨_, rfl, by omega, by omega⟩
theorem draw_some (l : List Int) (hl : l.length ≤ 1048576) : ∃ old data sd, Ev (fun k => spec_DrawTransfer.f k l) (old, data, sd) ∧ old.size ≤ 250 ∧ data.size ≤ 2000 ∧ (0 ≤ sd ∧ sd < 4294967296) := by
  obtain ⟨h0, hn⟩ := new_ev l hl
  obtain ⟨n, en, n0, n1⟩ := size_some l hl
  obtain ⟨m, i1, h1, e1, m0, m1, _, hc1⟩ := below_some h0 (n + 1) (cur_new l hl)
  have m1 := m1 (by omega)
  obtain ⟨old, i2, h2, ho, hos, hc2⟩ := text_some h1 hc1 m m0 (by omega)
  obtain ⟨c, i3, h3, e3, c0, c1, _, hc3⟩ := below_some h2 5 hc2
  have c1 := c1 (by omega)
  obtain ⟨cn, rfl⟩ := Int.eq_ofNat_of_zero_le c0
  obtain ⟨data, i4, h4, hp, hds, hc4⟩ := pair_loop l old (by omega) cn (by omega) cn 0 (⟨#[]⟩ : ByteArray) i3 h3 (by omega) (Nat.zero_le _) hc3
  obtain ⟨sd, i5, h5, e5, s0, s1, _, hc5⟩ := below_some h4 5 hc4
  have s1 := s1 (by omega)
  refine ⟨old, data, sd % 4294967296, ?_, by omega, hds, by omega⟩
  unfold spec_DrawTransfer.f
  refine Ev.bind hn ?_
  simp only [en, Option.bind_some]
  have hpair : Ev (fun k => spec_l06Pair.f k l 0 h0 n) (old, data, i4, h4) := by
    unfold spec_l06Pair.f
    rw [w64 (x := n + 1) (by omega) (by omega), e1]
    simp only [Option.bind_some]
    refine Ev.bind ho ?_
    simp only [e3, Option.bind_some]
    exact hp
  refine Ev.bind hpair ?_
  simp only [spec_l05Seed.f, e5, Option.bind_some]
  exact Ev.now _
end Go.Proofs.YtbkodnhnadkhdaaDoor.FtD
