import Derived.Test.YtdjggipdjoopaaaDoorPDnx1
import Derived.Test.YtdjggipdjoopaaaDoorPDnx2
import Derived.Test.YtdjggipdjoopaaaDoorDecNum
namespace Go.Proofs.YtdjggipdjoopaaaDoor.Pure
open Go Go.RowKit Go.Proofs.YtdjggipdjoopaaaDoor.Arith Go.Proofs.YtdjggipdjoopaaaDoor.PDn Go.Proofs.YtdjggipdjoopaaaDoorW.PrintWords Go.Proofs.YtdjggipdjoopaaaDoorW.PrintLast
set_option linter.unusedVariables false

theorem in_ (a b c : Int) : spec_l01In.f a b c = some (decide (b ≤ a ∧ a ≤ c)) := by
  unfold spec_l01In.f
  by_cases h : a ≥ b
  · rw [if_pos h]; congr 1; rw [decide_eq_decide]; omega
  · rw [if_neg h]; congr 1; symm; rw [decide_eq_false_iff_not]; omega
theorem within_ (a b c : Int) : impl_within.f a b c = some (decide (b ≤ a ∧ a ≤ c)) := in_ a b c

/-- The number of the bounds that the string spells. -/
def Told (s : ByteArray) (most : Int) (r : Int × Bool) : Prop := (∃ v : Int, itoaB v = s ∧ v ≤ most ∧ -most ≤ v ∧ 0 ≤ most ∧ most ≤ 1000000000000 ∧ r = (v, true)) ∨ ((¬ ∃ v : Int, itoaB v = s ∧ v ≤ most ∧ -most ≤ v ∧ 0 ≤ most ∧ most ≤ 1000000000000) ∧ r = (0, false))

theorem itoa_size (v : Int) : (itoaB v).size = (if v < 0 then 1 else 0) + Lib.nDigits v.natAbs := by
  show (Lib.itoa v).toArray.size = _
  rw [List.size_toArray]
  unfold Lib.itoa
  by_cases h : v < 0
  · rw [if_pos h, if_pos h, List.length_cons, Lib.decDigits_length]; omega
  · rw [if_neg h, if_neg h, Lib.decDigits_length, show v.toNat = v.natAbs by omega]; omega

theorem digits_le (u : Nat) (h : u ≤ 1000000000000) : Lib.nDigits u ≤ 13 := by
  rcases Nat.lt_or_ge (Lib.nDigits u) 14 with h1 | h1
  · omega
  · exfalso
    have : ∀ n u : Nat, u < 10 ^ n → 1 ≤ n → Lib.nDigits u ≤ n := by
      intro n
      induction n with
      | zero => intro u _ h; omega
      | succ n ih =>
        intro u hu _
        by_cases h : u < 10
        · rw [Lib.nDigits_small h]; omega
        · rw [Lib.nDigits_big h]
          rw [Nat.pow_succ] at hu
          by_cases hn : n = 0
          · subst hn; simp at hu; omega
          · have := ih (u / 10) (by omega) (by omega)
            omega
    have := this 13 u (by omega) (by omega)
    omega

theorem impl_told (s : ByteArray) (most : Int) (hs : s.size ≤ 1048576) (hm : -9223372036854775808 ≤ most ∧ most ≤ 9223372036854775807) : ∃ r, impl_DecNum.f s most = some r ∧ Told s most r := by
  unfold impl_DecNum.f impl_decimal.f
  rw [if_pos (by omega)]
  have spell : ∀ v : Int, itoaB v = s → v ≤ 1000000000000 → -1000000000000 ≤ v → Lib.atoiAll s.data.toList = .ok v := by
    intro v hv h1 h2
    rw [← hv]
    exact atoi_itoa v (by omega) (by omega)
  cases ha : Lib.atoiAll s.data.toList with
  | ok v =>
    have hvb := Lib.atoiAll_bounds ha
    simp only [Option.bind_some, within_, decide_eq_true_eq]
    by_cases h1 : Lib.itoa v = s.data.toList
    · rw [if_pos h1]
      have hs1 : itoaB v = s := ba_ext h1
      by_cases h2 : 0 ≤ most ∧ most ≤ 1000000000000
      · rw [if_pos h2, w64 (x := -most) (by omega) (by omega)]
        by_cases h3 : -most ≤ v ∧ v ≤ most
        · rw [if_pos h3]; exact ⟨_, rfl, .inl ⟨v, hs1, h3.2, h3.1, h2.1, h2.2, rfl⟩⟩
        · rw [if_neg h3]
          refine ⟨_, rfl, .inr ⟨?_, rfl⟩⟩
          rintro ⟨v', e, a, b, c, d⟩
          have := spell v' e (by omega) (by omega)
          rw [ha] at this
          injection this with this
          subst this
          exact h3 ⟨b, a⟩
      · rw [if_neg h2]; exact ⟨_, rfl, .inr ⟨fun ⟨v', e, a, b, c, d⟩ => h2 ⟨c, d⟩, rfl⟩⟩
    · rw [if_neg h1]
      refine ⟨_, rfl, .inr ⟨?_, rfl⟩⟩
      rintro ⟨v', e, a, b, c, d⟩
      have := spell v' e (by omega) (by omega)
      rw [ha] at this
      injection this with this
      subst this
      exact h1 (by rw [← e]; rfl)
  | «syntax» =>
    refine ⟨(0, false), by simp, .inr ⟨?_, rfl⟩⟩
    rintro ⟨v', e, a, b, c, d⟩
    have := spell v' e (by omega) (by omega)
    rw [ha] at this
    cases this
  | range =>
    refine ⟨(0, false), by simp, .inr ⟨?_, rfl⟩⟩
    rintro ⟨v', e, a, b, c, d⟩
    have := spell v' e (by omega) (by omega)
    rw [ha] at this
    cases this

theorem bt_itoa_neg (v : Int) (h : v < 0) (t : Nat) (ht : t < Lib.nDigits v.natAbs) : bt (itoaB v) ((1 + t : Nat) : Int) = ((48 + v.natAbs / 10 ^ (Lib.nDigits v.natAbs - 1 - t) % 10 : Nat) : Int) := by
  have e : (itoaB v).data.toList = 45 :: Lib.decDigits v.natAbs := by show Lib.itoa v = _; unfold Lib.itoa; rw [if_pos h]
  rw [bt_get _ _ (by rw [e, List.length_cons, Lib.decDigits_length]; omega)]
  have ht' : t < (Lib.decDigits v.natAbs).length := by rw [Lib.decDigits_length]; exact ht
  rw [← dec_at _ _ ht']
  simp only [e, Nat.add_comm 1 t, List.getElem_cons_succ]
theorem bt_itoa_pos (v : Int) (h : ¬ v < 0) (t : Nat) (ht : t < Lib.nDigits v.natAbs) : bt (itoaB v) ((0 + t : Nat) : Int) = ((48 + v.natAbs / 10 ^ (Lib.nDigits v.natAbs - 1 - t) % 10 : Nat) : Int) := by
  have e : (itoaB v).data.toList = Lib.decDigits v.natAbs := by show Lib.itoa v = _; unfold Lib.itoa; rw [if_neg h, show v.toNat = v.natAbs by omega]
  have ht' : t < (Lib.decDigits v.natAbs).length := by rw [Lib.decDigits_length]; exact ht
  rw [Nat.zero_add, bt_get _ _ (by rw [e]; exact ht'), ← dec_at _ _ ht']
  simp only [e]

theorem j0_true (k : Nat) (s : ByteArray) (most : Int) : spec_DecNum.j0 (k + 1) s most true = some (0, false) := by
  conv => lhs; unfold spec_DecNum.j0
  simp
theorem j0_false (k : Nat) (s : ByteArray) (most : Int) (h : 0 < (s.size : Int)) : spec_DecNum.j0 (k + 1) s most false = if bt s 0 = 45 then spec_DecNum.j1 k s most 1 else spec_DecNum.j1 k s most 0 := by
  conv => lhs; unfold spec_DecNum.j0
  show (if (false : Bool) = true then _ else (if 0 < (s.size : Int) then _ else _)) = _
  rw [if_neg (by decide), if_pos h]
theorem spec_told (s : ByteArray) (most : Int) : ∃ r, Ev (fun k => spec_DecNum.f k s most) r ∧ Told s most r := by
  by_cases hm : 0 ≤ most ∧ most ≤ 1000000000000
  · by_cases hsz : 1 ≤ s.size ∧ s.size ≤ 14
    · have hj : ∀ k, spec_DecNum.f (k + 1) s most = if bt s 0 = 45 then spec_DecNum.j1 k s most 1 else spec_DecNum.j1 k s most 0 := by
        intro k
        unfold spec_DecNum.f
        rw [in_, decide_eq_true hm]
        simp only [Option.bind_some, if_true]
        rw [if_neg (by omega), decide_eq_false (by omega)]
        exact j0_false k s most (by omega)
      have hj1 : ∀ k x, spec_DecNum.j1 (k + 1) s most x = spec_DecNum.l0 k s most x 0 x := fun k x => by conv => lhs; unfold spec_DecNum.j1
      by_cases hP : ∃ v : Int, itoaB v = s ∧ v ≤ most ∧ -most ≤ v
      · obtain ⟨v, hv, h1, h2⟩ := hP
        refine ⟨(v, true), ?_, .inl ⟨v, hv, h1, h2, hm.1, hm.2, rfl⟩⟩
        have hnd := digits_le v.natAbs (by omega)
        have hsize := itoa_size v
        rw [hv] at hsize
        by_cases hneg : v < 0
        · rw [if_pos hneg] at hsize
          have hb0 : bt s 0 = 45 := by
            have e : s.data.toList = 45 :: Lib.decDigits v.natAbs := by rw [← hv]; show Lib.itoa v = _; unfold Lib.itoa; rw [if_pos hneg]
            have := bt_get s 0 (by rw [e]; simp)
            rw [show ((0 : Nat) : Int) = 0 from rfl] at this
            rw [this]
            simp [e]
          have hend := num_end s most 1 v.natAbs (by omega) hm v (by rw [if_pos rfl]; omega)
          rw [if_pos ⟨hv, h1, h2⟩] at hend
          have hl := num_some s most 1 1 v.natAbs hsz.2 hsize (by omega) (fun t ht => by rw [← hv]; exact bt_itoa_neg v hneg t ht) hend (Lib.nDigits v.natAbs) 0 (by omega)
          rw [Nat.div_eq_of_lt (Lib.lt_pow_nDigits _)] at hl
          refine Ev.step (fun k => (hj k).trans (if_pos hb0)) (Ev.step (fun k => hj1 k 1) ?_)
          exact hl
        · rw [if_neg hneg] at hsize
          have hp := Lib.nDigits_pos v.natAbs
          have hb0 : bt s 0 ≠ 45 := by
            have := bt_itoa_pos v hneg 0 hp
            rw [hv] at this
            rw [show ((0 + 0 : Nat) : Int) = 0 from rfl] at this
            rw [this]
            omega
          have hend := num_end s most 0 v.natAbs (by omega) hm v (by rw [if_neg (by decide)]; omega)
          rw [if_pos ⟨hv, h1, h2⟩] at hend
          have hl := num_some s most 0 0 v.natAbs hsz.2 hsize (by omega) (fun t ht => by rw [← hv]; exact bt_itoa_pos v hneg t ht) hend (Lib.nDigits v.natAbs) 0 (by omega)
          rw [Nat.div_eq_of_lt (Lib.lt_pow_nDigits _)] at hl
          refine Ev.step (fun k => (hj k).trans (if_neg hb0)) (Ev.step (fun k => hj1 k 0) ?_)
          exact hl
      · refine ⟨(0, false), ?_, .inr ⟨fun ⟨v, a, b, c, _, _⟩ => hP ⟨v, a, b, c⟩, rfl⟩⟩
        by_cases hb0 : bt s 0 = 45
        · have hl := num_none s most 1 hsz.2 hm hP (s.size - 1) 1 0 (by omega) (by decide)
          exact Ev.step (fun k => (hj k).trans (if_pos hb0)) (Ev.step (fun k => hj1 k 1) hl)
        · have hl := num_none s most 0 hsz.2 hm hP s.size 0 0 (by omega) (by decide)
          exact Ev.step (fun k => (hj k).trans (if_neg hb0)) (Ev.step (fun k => hj1 k 0) hl)
    · refine ⟨(0, false), ?_, .inr ⟨?_, rfl⟩⟩
      · refine Ev.step (f := fun _ => some (0, false)) (fun k => ?_) (Ev.now _)
        unfold spec_DecNum.f
        rw [in_, decide_eq_true hm]
        simp only [Option.bind_some, if_true]
        by_cases hz : (s.size : Int) = 0
        · rw [if_pos hz]; exact j0_true k s most
        · rw [if_neg hz, decide_eq_true (by omega)]; exact j0_true k s most
      · rintro ⟨v, a, b, c, _, _⟩
        have h1 := itoa_size v
        rw [a] at h1
        have h2 := digits_le v.natAbs (by omega)
        have h3 := Lib.nDigits_pos v.natAbs
        split at h1 <;> omega
  · refine ⟨(0, false), ?_, .inr ⟨fun ⟨v, a, b, c, d, e⟩ => hm ⟨d, e⟩, rfl⟩⟩
    refine Ev.step (f := fun _ => some (0, false)) (fun k => ?_) (Ev.now _)
    unfold spec_DecNum.f
    rw [in_, decide_eq_false hm]
    simp only [Option.bind_some, Bool.false_eq_true, if_false]
    exact j0_true k s most

theorem told_one {s : ByteArray} {most : Int} {a b : Int × Bool} (ha : Told s most a) (hb : Told s most b) : a = b := by
  rcases ha with ⟨v, h1, h2, h3, h4, h5, rfl⟩ | ⟨hn, rfl⟩
  · rcases hb with ⟨v', g1, g2, g3, g4, g5, rfl⟩ | ⟨hn, rfl⟩
    · have e1 := atoi_itoa v (by omega) (by omega)
      have e2 := atoi_itoa v' (by omega) (by omega)
      have e : Lib.itoa v = Lib.itoa v' := by
        have h : (itoaB v).data.toList = (itoaB v').data.toList := by rw [h1, g1]
        exact h
      rw [e, e2] at e1
      injection e1 with e1
      rw [e1]
    · exact absurd ⟨v, h1, h2, h3, h4, h5⟩ hn
  · rcases hb with ⟨v', g1, g2, g3, g4, g5, rfl⟩ | ⟨_, rfl⟩
    · exact absurd ⟨v', g1, g2, g3, g4, g5⟩ hn
    · rfl

theorem FnExactDecNum : laws_FnExactDecNum.Pure := by
  intro s most _ w1
  have hm : -9223372036854775808 ≤ most ∧ most ≤ 9223372036854775807 := by simpa [Lit.wf, IntKind.min, IntKind.max, IntKind.signed, IntKind.bits] using w1
  by_cases hb : (s.size : Int) > 1048576
  · exact ⟨0, by unfold laws_FnExactDecNum.f; rw [if_pos hb]⟩
  · obtain ⟨r, hr, h1⟩ := impl_told s most (by omega) hm
    obtain ⟨r', ⟨k, hk⟩, h2⟩ := spec_told s most
    obtain rfl := told_one h1 h2
    refine ⟨k, ?_⟩
    unfold laws_FnExactDecNum.f
    have hk' : spec_DecNum.f k s most = some r := hk k (Nat.le_refl _)
    rw [if_neg hb, hk', hr]
    simp

end Go.Proofs.YtdjggipdjoopaaaDoor.Pure
