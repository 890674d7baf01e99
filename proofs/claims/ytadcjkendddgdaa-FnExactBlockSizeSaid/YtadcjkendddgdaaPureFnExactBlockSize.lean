/- The program's BlockSize and the reference's ask their two tests in another order and come to the same size, for every int. No condition. -/
import Derived.Test.YtadcjkendddgdaaPAllx1
import Derived.Test.YtadcjkendddgdaaLib
namespace Go.Proofs.Ytadcjkendddgdaa.Pure
open Go Go.RowKit Go.Proofs.Ytadcjkendddgdaa.PAll Go.Proofs.YtadcjkendddgdaaW.PrintWords Go.Proofs.Ytadcjkendddgdaa.Arith Go.Proofs.Ytadcjkendddgdaa.Lib
set_option linter.unusedSimpArgs false
set_option linter.unusedVariables false

theorem same_size (n : Int) (k : Nat) : ∀ s, spec_BlockSize.l0 k n s = impl_BlockSize.l0 k n s := by
  induction k with
  | zero => intro s; rfl
  | succ k ih =>
    intro s
    simp only [spec_BlockSize.l0, impl_BlockSize.l0, ih]
    by_cases h1 : wrap64 (s * s) < n <;> by_cases h2 : s < 256 <;> simp [h1, h2]

theorem size_ends (n : Int) (d : Nat) : ∀ (k : Nat) (s : Int), 0 ≤ s → s ≤ 256 → 256 - s ≤ 8 * d → d < k → ∃ r, impl_BlockSize.l0 k n s = some r := by
  induction d with
  | zero =>
    intro k s h0 h1 h2 hk
    obtain ⟨k, rfl⟩ : ∃ m, k = m + 1 := ⟨k - 1, by omega⟩
    exact ⟨s, by simp only [impl_BlockSize.l0]; rw [if_neg (by omega)]⟩
  | succ d ih =>
    intro k s h0 h1 h2 hk
    obtain ⟨k, rfl⟩ : ∃ m, k = m + 1 := ⟨k - 1, by omega⟩
    by_cases hs : s < 256
    · by_cases hn : wrap64 (s * s) < n
      · by_cases he : s + 8 ≤ 256
        · obtain ⟨r, hr⟩ := ih k (s + 8) (by omega) he (by omega) (by omega)
          refine ⟨r, ?_⟩
          simp only [impl_BlockSize.l0]
          rw [if_pos hs, if_pos hn, w64 (by omega) (by omega)]
          exact hr
        · refine ⟨s + 8, ?_⟩
          simp only [impl_BlockSize.l0]
          rw [if_pos hs, if_pos hn, w64 (by omega) (by omega)]
          obtain ⟨m, rfl⟩ : ∃ m, k = m + 1 := ⟨k - 1, by omega⟩
          simp only [impl_BlockSize.l0]
          rw [if_neg (by omega)]
      · exact ⟨s, by simp only [impl_BlockSize.l0]; rw [if_pos hs, if_neg hn]⟩
    · exact ⟨s, by simp only [impl_BlockSize.l0]; rw [if_neg hs]⟩

theorem FnExactBlockSize : laws_FnExactBlockSize.Pure := by
  intro n _
  obtain ⟨r, hr⟩ := size_ends n 31 40 8 (by omega) (by omega) (by omega) (by omega)
  refine ⟨40, ?_⟩
  unfold laws_FnExactBlockSize.f spec_BlockSize.f impl_BlockSize.f
  rw [same_size, hr]
  simp

end Go.Proofs.Ytadcjkendddgdaa.Pure
