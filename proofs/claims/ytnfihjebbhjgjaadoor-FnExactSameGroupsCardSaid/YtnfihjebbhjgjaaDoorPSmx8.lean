-- Made by a program of this session (tools/pr.sh) out of the translation; Lean checks it.
import Derived.Test.YtnfihjebbhjgjaaDoorPSmx0
namespace Go.Proofs.YtnfihjebbhjgjaaDoor.PSm
open Go.RowKit Go.Proofs.YtnfihjebbhjgjaaDoorW.PrintWords Go.Proofs.YtnfihjebbhjgjaaDoorW.PrintLast Go.Proofs.YtnfihjebbhjgjaaDoorW.PrintMore
attribute [local go_sem] max2_int min2_int max_two min_two max_three min_three max_four min_four   -- for this text's walks alone
set_option linter.unusedVariables false
set_option linter.unusedSimpArgs false

-- GIVEN by hand
/-! ### strings_Join: function 57 -/
def strings_Join.f (l0 : List ByteArray) (a1 : ByteArray) : Option ByteArray := if l0.length ≤ 140737488355328 then (if (Lib.join (l0.map (·.data.toList)) a1.data.toList).length ≤ 140737488355328 then some ⟨(Lib.join (l0.map (·.data.toList)) a1.data.toList).toArray⟩ else none) else none
theorem strings_Join.calls (A0 : Option Addr) (c0 : Nat) (l0 : List ByteArray) (a1 : ByteArray) (r : ByteArray) (w : World) (hr0 : Kd.C Kd.string w A0 l0.length l0) (hc0 : l0.length ≤ c0) (h : strings_Join.f l0 a1 = some r) :
    Calls Tryd.prog 57 #[.slice A0 l0.length c0, .string a1] w fun e w' => e = .returned (.string r) ∧ Below w.heap.size w w' := by
  unfold strings_Join.f at h
  by_cases h0 : l0.length ≤ 140737488355328
  · by_cases h1 : (Lib.join (l0.map (·.data.toList)) a1.data.toList).length ≤ 140737488355328
    · rw [if_pos h0, if_pos h1] at h
      obtain rfl := Option.some.inj h
      cases l0 with
      | nil =>
        refine (Tryd.strings_Join_none A0 c0 a1 w).mono ?_
        rintro e w' ⟨rfl, rfl⟩
        exact ⟨rfl, Below.refl _ _⟩
      | cons x l =>
        have hcell : ∀ (i : Nat) (y : ByteArray), (x :: l)[i]? = some y → ∃ ad, A0 = some ad ∧ w.cell? (ad.add i) = some (.string y) := by
          intro i y hi
          obtain ⟨hlt, hv⟩ := List.getElem?_eq_some_iff.1 hi
          obtain ⟨ad, e, hc⟩ := Kd.at_string hr0 (i : Int) (by omega) (by omega)
          refine ⟨ad, e, ?_⟩
          rw [Int.toNat_natCast] at hc
          rw [hc, ← hv, rdOf, Int.toNat_natCast, List.getD_eq_getElem?_getD, List.getElem?_eq_getElem hlt]
          rfl
        obtain ⟨ad, rfl, hz⟩ := hcell 0 x rfl
        have hsp : ad.spot = none := by
          cases hs : ad.spot with
          | none => rfl
          | some s =>
            have he : ad.add 0 = ad := by simp [Addr.add]
            rw [he] at hz
            unfold World.cell? at hz
            split at hz
            · simp [hs] at hz
            · cases hz
        obtain ⟨bk, o, sp⟩ := ad
        subst hsp
        have hcells : ∀ (j : Nat) y, (x :: l)[j]? = some y → w.cell? ⟨bk, o + j, none⟩ = some (.string y) := by
          intro j y hj
          obtain ⟨ad, e, hc⟩ := hcell j y hj
          obtain rfl := Option.some.inj e
          have he : (⟨bk, o, none⟩ : Addr).add j = ⟨bk, o + j, none⟩ := by unfold Addr.add; split <;> simp_all
          rw [he] at hc
          exact hc
        refine (Tryd.strings_Join bk o c0 (x :: l) a1 w hcells (World.block_lt_of_cell? w _ (hcells 0 x rfl)) h0 hc0 h1).mono ?_
        rintro e w' ⟨rfl, hb⟩
        exact ⟨rfl, hb⟩
    · rw [if_pos h0, if_neg h1] at h; cases h
  · rw [if_neg h0] at h; cases h

end Go.Proofs.YtnfihjebbhjgjaaDoor.PSm
