/- Names: the program's test and the reference's. Condition: at most 2^20 bytes. -/
import Derived.Test.YtnfihjebbhjgjaaDoorPTtx1
import Derived.Test.YtnfihjebbhjgjaaDoorPTtx5
import Derived.Test.YtnfihjebbhjgjaaDoorLib
namespace Go.Proofs.YtnfihjebbhjgjaaDoor.Name
open Go Go.RowKit Go.Proofs.YtnfihjebbhjgjaaDoor.PTt Go.Proofs.YtnfihjebbhjgjaaDoorW.PrintWords Go.Proofs.YtnfihjebbhjgjaaDoor.Arith Go.Proofs.YtnfihjebbhjgjaaDoor.Lib
set_option linter.unusedSimpArgs false
set_option linter.unusedVariables false

def okc (c : Int) : Bool := decide (97 ≤ c ∧ c ≤ 122) || decide (65 ≤ c ∧ c ≤ 90) || decide (48 ≤ c ∧ c ≤ 57) || decide (c = 46) || decide (c = 95) || decide (c = 45)
theorem l01_eq (a b c : Int) : spec_l01In.f a b c = some (decide (b ≤ a ∧ a ≤ c)) := by
  unfold spec_l01In.f
  by_cases h : b ≤ a <;> by_cases h' : a ≤ c <;> simp [h, h']
theorem wi_eq (a b c : Int) : impl_within.f a b c = some (decide (b ≤ a ∧ a ≤ c)) := by
  unfold impl_within.f
  by_cases h : b ≤ a <;> by_cases h' : a ≤ c <;> simp [h, h']

theorem spec_round (s : ByteArray) (k i : Nat) (hi : i < s.size) (hs : s.size ≤ 1048576) : spec_NameOk.l0 (k + 1) s i = if okc (bt s i) = true then spec_NameOk.l0 k s ((i + 1 : Nat) : Int) else some false := by
  simp only [spec_NameOk.l0]
  rw [if_pos (by omega), if_pos (by omega), w64b, w64s i (by omega)]
  simp only [l01_eq, Option.bind_some, decide_eq_true_eq]
  generalize bt s i = c
  unfold okc
  by_cases h1 : 97 ≤ c ∧ c ≤ 122
  · simp [h1]
  by_cases h2 : 65 ≤ c ∧ c ≤ 90
  · simp [h1, h2]
  by_cases h3 : 48 ≤ c ∧ c ≤ 57
  · simp [h1, h2, h3]
  by_cases h4 : c = 46
  · simp [h4]
  by_cases h5 : c = 95
  · simp [h5]
  by_cases h6 : c = 45
  · simp [h6]
  · simp [h1, h2, h3, h4, h5, h6]
theorem impl_round (s : ByteArray) (k i : Nat) (hi : i < s.size) (hs : s.size ≤ 1048576) : impl_NameOk.l0 (k + 1) s s.size i = if okc (bt s i) = true then impl_NameOk.l0 k s s.size ((i + 1 : Nat) : Int) else some false := by
  simp only [impl_NameOk.l0]
  rw [if_pos (by omega), if_pos (by omega), if_pos (by omega), w64s i (by omega)]
  generalize bt s i = c
  have hc : (okc c = true) ↔ (97 ≤ c ∧ c ≤ 122) ∨ (65 ≤ c ∧ c ≤ 90) ∨ (48 ≤ c ∧ c ≤ 57) ∨ c = 46 ∨ c = 95 ∨ c = 45 := by
    simp [okc, or_assoc]
  generalize impl_NameOk.l0 k s s.size ((i + 1 : Nat) : Int) = R
  by_cases ho : okc c = true
  · rw [if_pos ho]
    have := hc.1 ho
    repeat' split
    all_goals first | rfl | (exfalso; omega)
  · rw [if_neg ho]
    have h2 : ¬ ((97 ≤ c ∧ c ≤ 122) ∨ (65 ≤ c ∧ c ≤ 90) ∨ (48 ≤ c ∧ c ≤ 57) ∨ c = 46 ∨ c = 95 ∨ c = 45) := fun h => ho (hc.2 h)
    repeat' split
    all_goals first | rfl | (exfalso; omega)

def allok : List Int → Bool
  | [] => true
  | x :: l => okc x && allok l
theorem spec_loop (s : ByteArray) (hs : s.size ≤ 1048576) (d : Nat) : ∀ i : Nat, i + d = s.size → Ev (fun k => spec_NameOk.l0 k s i) (allok ((bytesOf s).drop i)) := by
  induction d with
  | zero =>
    intro i h
    refine ev_at fun k => ?_
    simp only [spec_NameOk.l0]
    rw [if_neg (by omega), drop_end s i (by omega)]; rfl
  | succ d ih =>
    intro i h
    rw [drop_bt s i (by omega)]
    cases ho : okc (bt s i) with
    | true =>
      refine Ev.step (f := fun k => spec_NameOk.l0 k s ((i + 1 : Nat) : Int)) (fun k => ?_) (by simpa [allok, ho] using ih (i + 1) (by omega))
      rw [spec_round s k i (by omega) hs, if_pos ho]
    | false =>
      refine ev_at fun k => ?_
      rw [spec_round s k i (by omega) hs, if_neg (by simp [ho])]
      simp [allok, ho]
def rest (s : ByteArray) : Bool := decide (1 ≤ (s.size : Int) ∧ (s.size : Int) ≤ 20) && !(s.toList == ([46] : List UInt8)) && !(s.toList == ([46, 46] : List UInt8))
theorem impl_loop (s : ByteArray) (hs : s.size ≤ 1048576) (d : Nat) : ∀ i : Nat, i + d = s.size → Ev (fun k => impl_NameOk.l0 k s s.size i) (allok ((bytesOf s).drop i) && rest s) := by
  induction d with
  | zero =>
    intro i h
    refine ev_at fun k => ?_
    simp only [impl_NameOk.l0]
    rw [if_neg (by omega), drop_end s i (by omega), wi_eq]
    simp only [Option.bind_some, allok, rest, Bool.true_and]
    by_cases h1 : 1 ≤ (s.size : Int) ∧ (s.size : Int) ≤ 20
    · by_cases h2 : s.toList = ([46] : List UInt8)
      · simp [h1, h2]
      · by_cases h3 : s.toList = ([46, 46] : List UInt8)
        · simp [h1, h2, h3]
        · simp [h1, h2, h3, bne]
    · simp [h1]
  | succ d ih =>
    intro i h
    rw [drop_bt s i (by omega)]
    cases ho : okc (bt s i) with
    | true =>
      refine Ev.step (f := fun k => impl_NameOk.l0 k s s.size ((i + 1 : Nat) : Int)) (fun k => ?_) (by simpa [allok, ho] using ih (i + 1) (by omega))
      rw [impl_round s k i (by omega) hs, if_pos ho]
    | false =>
      refine ev_at fun k => ?_
      rw [impl_round s k i (by omega) hs, if_neg (by simp [ho])]
      simp [allok, ho]

theorem spec_ev (s : ByteArray) (hs : s.size ≤ 1048576) : Ev (fun k => spec_NameOk.f k s) (allok (bytesOf s) && rest s) := by
  have hl := spec_loop s hs s.size 0 (by omega)
  simp only [List.drop_zero] at hl
  unfold spec_NameOk.f
  simp only [l01_eq, Option.bind_some, decide_eq_true_eq]
  by_cases h1 : 1 ≤ (s.size : Int) ∧ (s.size : Int) ≤ 20
  · simp only [if_pos h1]
    by_cases h2 : s.toList = ([46] : List UInt8)
    · simp only [if_pos h2]
      refine ev_at fun k => ?_
      simp only [spec_NameOk.j0]
      simp [rest, h2]
    · simp only [if_neg h2]
      by_cases h3 : s.toList = ([46, 46] : List UInt8)
      · refine ev_at fun k => ?_
        simp only [spec_NameOk.j0]
        simp [rest, h3]
      · refine Ev.step (f := fun k => spec_NameOk.l0 k s 0) (fun k => ?_) ?_
        · simp only [spec_NameOk.j0]
          rw [if_neg (by simp [h3])]
        · have : rest s = true := by simp [rest, h1, h2, h3]
          rw [this, Bool.and_true]; exact hl
  · simp only [if_neg h1]
    refine ev_at fun k => ?_
    simp only [spec_NameOk.j0]
    simp [rest, h1]
theorem impl_ev (s : ByteArray) (hs : s.size ≤ 1048576) : Ev (fun k => impl_NameOk.f k s) (allok (bytesOf s) && rest s) := by
  have hl := impl_loop s hs s.size 0 (by omega)
  simp only [List.drop_zero] at hl
  exact hl

def nameOk (s : ByteArray) : Bool := allok (bytesOf s) && rest s

end Go.Proofs.YtnfihjebbhjgjaaDoor.Name
