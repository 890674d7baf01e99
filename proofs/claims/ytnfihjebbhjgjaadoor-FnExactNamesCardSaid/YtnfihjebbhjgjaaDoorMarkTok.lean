/- The law's own marks on tokens: what marking them makes of them, and that the marks are found again. Condition: at most 2^21 tokens. -/
import Derived.Test.YtnfihjebbhjgjaaDoorPPax18
import Derived.Test.YtnfihjebbhjgjaaDoorLib
namespace Go.Proofs.YtnfihjebbhjgjaaDoor.MarkTok
open Go Go.RowKit Go.Proofs.YtnfihjebbhjgjaaDoor.PPa Go.Proofs.YtnfihjebbhjgjaaDoorW.PrintWords Go.Proofs.YtnfihjebbhjgjaaDoorW.PrintMore Go.Proofs.YtnfihjebbhjgjaaDoor.Arith Go.Proofs.YtnfihjebbhjgjaaDoor.Lib
set_option linter.unusedSimpArgs false
set_option linter.unusedVariables false

theorem text_loop (d : Nat) : ∀ (k : Int) (x : ByteArray), 0 ≤ k → k < 10 ^ d → k < 9223372036854775808 → x.size + d ≤ 1000 → ∃ t, Ev (fun n => laws_markText.l0 n k x) t := by
  induction d with
  | zero =>
    intro k x h0 h1 _ hx
    refine ⟨(⟨#[109]⟩ : ByteArray) ++ x, ev_at fun n => ?_⟩
    simp only [laws_markText.l0]
    rw [if_neg (by omega), if_pos (by omega)]
  | succ d ih =>
    intro k x h0 h1 hk hx
    by_cases h : k > 0
    · rw [Int.pow_succ] at h1
      have e : Int.tdiv k 10 = k / 10 := Int.tdiv_eq_ediv_of_nonneg h0
      have hz : (strOfNums [(wrap64 (48 + (Int.tmod k 10))) % 256]).size = 1 := by rw [strOfNums_size]; rfl
      obtain ⟨t, ht⟩ := ih (k / 10) (strOfNums [(wrap64 (48 + (Int.tmod k 10))) % 256] ++ x) (by omega) (by omega) (by omega) (by rw [ByteArray.size_append, hz]; omega)
      refine ⟨t, Ev.step (fun n => ?_) ht⟩
      simp only [laws_markText.l0, Option.bind_some]
      rw [if_pos h, hz, if_pos (by omega), e, w64 (x := k / 10) (by omega) (by omega)]
    · refine ⟨(⟨#[109]⟩ : ByteArray) ++ x, ev_at fun n => ?_⟩
      simp only [laws_markText.l0]
      rw [if_neg h, if_pos (by omega)]
theorem text_ex (k : Int) (h0 : 0 ≤ k) (h1 : k < 9223372036854775808) : ∃ t, Ev (fun n => laws_markText.f n k) t := by
  unfold laws_markText.f
  by_cases h : k ≤ 0
  · simp only [if_pos h]; exact ⟨_, Ev.now _⟩
  · simp only [if_neg h]
    exact text_loop 20 k _ h0 (by omega) h1 (by decide)
noncomputable def mt (k : Int) : ByteArray := Classical.epsilon fun t => Ev (fun n => laws_markText.f n k) t
theorem mt_ev (k : Int) (h0 : 0 ≤ k) (h1 : k < 9223372036854775808) : Ev (fun n => laws_markText.f n k) (mt k) := Classical.epsilon_spec (text_ex k h0 h1)

noncomputable def mks (n : Nat) : List ByteArray := (List.range n).map fun j => mt ((j + 1 : Nat) : Int)
theorem mks_length (n : Nat) : (mks n).length = n := by simp [mks]
theorem rdT_lt {α : Type} (z : α) (l : List α) (i : Nat) (h : i < l.length) : l.getD i z = l[i] := by
  simp [List.getD_eq_getElem?_getD, List.getElem?_eq_getElem h]


end Go.Proofs.YtnfihjebbhjgjaaDoor.MarkTok
