/- The draws' generator: h, h * a + c, .. modulo 2^64 comes by every number: so it comes by 33, behind which six bytes in a row are of a good kind. Plain law. No condition. -/
import Derived.Test.YtdjggipdjoopaaaDoorLib
import Derived.KernelRfl
namespace Go.Proofs.YtdjggipdjoopaaaDoor.Lcg
open Go Go.RowKit Go.Proofs.YtdjggipdjoopaaaDoorW.PrintWords Go.Proofs.YtdjggipdjoopaaaDoor.Arith Go.Proofs.YtdjggipdjoopaaaDoor.Lib
set_option linter.unusedVariables false

def nx (h : Int) : Int := wrap64 ((wrap64 (h * 6364136223846793005)) + 1442695040888963407)
def ob (h : Int) : Int := bits .and .i64 (bits .xor .i64 (h / 8589934592) (h / 35184372088832)) 255
def it : Nat → Int → Int
  | 0, h => h
  | n + 1, h => it n (nx h)
theorem it_add (m n : Nat) : ∀ h, it (m + n) h = it n (it m h) := by
  induction m with
  | zero => intro h; rw [Nat.zero_add]; rfl
  | succ m ih => intro h; rw [show m + 1 + n = (m + n) + 1 by omega]; exact ih (nx h)
theorem it_succ (n : Nat) (h : Int) : it (n + 1) h = nx (it n h) := it_add n 1 h
def R (h : Int) : Prop := -9223372036854775808 ≤ h ∧ h < 9223372036854775808
theorem nx_R (h : Int) : R (nx h) := w64_range _
theorem it_R (n : Nat) (h : Int) (hr : R h) : R (it n h) := by
  cases n with
  | zero => exact hr
  | succ n => rw [it_succ]; exact nx_R _
/-- The same modulo 2^64. -/
def Eqm (x y : Int) : Prop := ∃ q, x - y = 18446744073709551616 * q
theorem wrap_m (x : Int) : Eqm (wrap64 x) x := by
  unfold wrap64
  refine ⟨-((x + 9223372036854775808) / 18446744073709551616), ?_⟩
  have := Int.emod_add_mul_ediv (x + 9223372036854775808) 18446744073709551616
  omega
theorem nx_m (h : Int) : Eqm (nx h) (6364136223846793005 * h + 1442695040888963407) := by
  obtain ⟨q, hq⟩ := wrap_m (wrap64 (h * 6364136223846793005) + 1442695040888963407)
  obtain ⟨q', hq'⟩ := wrap_m (h * 6364136223846793005)
  exact ⟨q + q', by unfold nx; omega⟩
theorem Eqm.trans {x y z : Int} (h : Eqm x y) (k : Eqm y z) : Eqm x z := by
  obtain ⟨q, hq⟩ := h
  obtain ⟨r, hr⟩ := k
  exact ⟨q + r, by omega⟩
theorem Eqm.lin {x y : Int} (a b : Int) (h : Eqm x y) : Eqm (a * x + b) (a * y + b) := by
  obtain ⟨q, hq⟩ := h
  refine ⟨a * q, ?_⟩
  have : x = y + 18446744073709551616 * q := by omega
  subst this
  grind

/-- 2^k rounds at once. -/
theorem rounds (k : Nat) : ∃ u v : Int, ∀ x, Eqm (it (2 ^ k) x) ((1 + 4 * (2 : Int) ^ k * u) * x + (2 : Int) ^ k * (1 + 2 * v)) := by
  induction k with
  | zero => exact ⟨1591034055961698251, 721347520444481703, fun x => (nx_m x).trans ⟨0, by simp⟩⟩
  | succ k ih =>
    obtain ⟨u, v, h⟩ := ih
    refine ⟨u + 2 * (2 : Int) ^ k * u * u, v + (2 : Int) ^ k * u * (1 + 2 * v), fun x => ?_⟩
    have e : it (2 ^ (k + 1)) x = it (2 ^ k) (it (2 ^ k) x) := by rw [Nat.pow_succ, show 2 ^ k * 2 = 2 ^ k + 2 ^ k by omega, it_add]
    rw [e]
    refine (h _).trans (((h x).lin _ _).trans ⟨0, ?_⟩)
    rw [Int.pow_succ]
    generalize (2 : Int) ^ k = p
    grind

/-- Every number is come by, modulo 2^k. -/
theorem reach (h t : Int) (k : Nat) : k ≤ 64 → ∃ n, ∃ q, it n h - t = (2 : Int) ^ k * q := by
  induction k with
  | zero => intro _; exact ⟨0, it 0 h - t, by simp⟩
  | succ k ih =>
    intro hk
    obtain ⟨n, q, hq⟩ := ih (by omega)
    rcases Int.emod_two_eq q with hz | ho
    · refine ⟨n, q / 2, ?_⟩
      rw [hq, Int.pow_succ, Int.mul_assoc]
      congr 1
      omega
    · obtain ⟨u, v, hr⟩ := rounds k
      obtain ⟨r, hr⟩ := hr (it n h)
      have hM : ∃ M : Int, (18446744073709551616 : Int) = (2 : Int) ^ (k + 1) * M := ⟨(2 : Int) ^ (63 - k), by rw [← Int.pow_add, show k + 1 + (63 - k) = 64 by omega]; rfl⟩
      obtain ⟨M, hM⟩ := hM
      obtain ⟨w, hw⟩ : ∃ w, q = 2 * w + 1 := ⟨q / 2, by omega⟩
      refine ⟨n + 2 ^ k, w + 1 + 2 * u * it n h + v + M * r, ?_⟩
      rw [it_add]
      rw [hM] at hr
      rw [Int.pow_succ] at hr ⊢
      generalize (2 : Int) ^ k = p at *
      generalize it (2 ^ k) (it n h) = y at *
      generalize it n h = x at *
      grind
theorem reach_all (h t : Int) (hh : R h) (ht : R t) : ∃ n, it n h = t := by
  obtain ⟨n, q, hq⟩ := reach h t 64 (Nat.le_refl _)
  refine ⟨n, ?_⟩
  have hr := it_R n h hh
  unfold R at hr ht
  have e : (2 : Int) ^ 64 = 18446744073709551616 := by decide
  rw [e] at hq
  omega

/-- The byte behind a state leads to one more letter. -/
def tame (h : Int) : Bool := Int.tmod (ob (nx h)) 5 == 0 || Int.tmod (ob (nx h)) 5 == 3 || Int.tmod (ob (nx h)) 5 == 4
theorem tame33 : ∀ j : Fin 6, tame (it j.val 33) = true := by decide +kernel

end Go.Proofs.YtdjggipdjoopaaaDoor.Lcg
