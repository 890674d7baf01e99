/- Nodes: the program's test and the reference's. No condition but the texts' lengths. -/
import Derived.Test.YtnfihjebbhjgjaaDoorPTtx4
import Derived.Test.YtnfihjebbhjgjaaDoorPTtx5
import Derived.Test.YtnfihjebbhjgjaaDoorPTtx6
import Derived.Test.YtnfihjebbhjgjaaDoorParI
namespace Go.Proofs.YtnfihjebbhjgjaaDoor.Nodes
open Go Go.RowKit Go.Proofs.YtnfihjebbhjgjaaDoor.PTt Go.Proofs.YtnfihjebbhjgjaaDoorW.PrintWords Go.Proofs.YtnfihjebbhjgjaaDoorW.PrintMore Go.Proofs.YtnfihjebbhjgjaaDoor.Arith Go.Proofs.YtnfihjebbhjgjaaDoor.Lib Go.Proofs.YtnfihjebbhjgjaaDoor.Parts Go.Proofs.YtnfihjebbhjgjaaDoor.Paths Go.Proofs.YtnfihjebbhjgjaaDoor.Name
set_option linter.unusedSimpArgs false
set_option linter.unusedVariables false

def noNl (s : ByteArray) : Bool := !decide (0 ≤ Go.Lib.indexByte s.data.toList 10)
theorem index_cons (b : UInt8) (l : List UInt8) : decide (0 ≤ Go.Lib.indexByte (b :: l) 10) = (decide (b = 10) || decide (0 ≤ Go.Lib.indexByte l 10)) := by
  have hg := Go.Lib.indexByte_ge l 10
  conv => lhs; rw [Go.Lib.indexByte]
  by_cases h : b = 10
  · subst h; simp
  · have hb : (b == 10) = false := by simpa using h
    rw [hb]
    by_cases h1 : Go.Lib.indexByte l 10 = -1
    · simp [h, h1]
    · have : (Go.Lib.indexByte l 10 == -1) = false := by simpa using h1
      rw [this]
      have h2 : 0 ≤ Go.Lib.indexByte l 10 := by omega
      have h3 : 0 ≤ Go.Lib.indexByte l 10 + 1 := by omega
      simp [h, h2, h3]
theorem toNat_10 (b : UInt8) : ((b.toNat : Int) = 10) ↔ b = 10 := by
  constructor
  · intro h
    apply UInt8.toNat_inj.1
    have : b.toNat = 10 := by omega
    rw [this]; rfl
  · rintro rfl; rfl
theorem nl_loop (a : ByteArray) (b c d : Int) (s t : ByteArray) (g : Int) (ht : t.size ≤ 60) (n : Nat) : ∀ i : Nat, i + n = t.size → Ev (fun k => spec_NodeOk.l0 k i a b c d s t g) (!decide (0 ≤ Go.Lib.indexByte (t.data.toList.drop i) 10)) := by
  have hL := Parts.size_eq t
  induction n with
  | zero =>
    intro i h
    refine ev_at fun k => ?_
    simp only [spec_NodeOk.l0]
    rw [if_neg (by omega), List.drop_eq_nil_of_le (by omega)]
    rfl
  | succ n ih =>
    intro i h
    have hi : i < t.data.toList.length := by omega
    have hb := bt_get t i hi
    rw [List.drop_eq_getElem_cons hi, index_cons]
    by_cases h10 : t.data.toList[i] = 10
    · refine ev_at fun k => ?_
      simp only [spec_NodeOk.l0]
      rw [if_pos (by omega), if_pos (by omega), if_pos (by rw [hb]; exact (toNat_10 _).2 h10), decide_eq_true h10]
      rfl
    · rw [decide_eq_false h10, Bool.false_or]
      refine Ev.step (fun k => ?_) (ih (i + 1) (by omega))
      simp only [spec_NodeOk.l0]
      rw [if_pos (by omega), if_pos (by omega), if_neg (by rw [hb]; exact fun e => h10 ((toNat_10 _).1 e)), w64s i (by omega)]
def emp (s : ByteArray) : Bool := decide (s.toList = ([] : List UInt8))
def kinds (b c : Int) (s t : ByteArray) (g : Int) : Bool :=
  if b = 0 then emp s && (emp t && (g == 0)) else if b = 1 then decide ((s.size : Int) ≤ 20000) && (emp t && decide (0 ≤ g ∧ g ≤ 200)) else if b = 2 then emp s && (decide (c = 0) && (decide (g = 0) && (decide (1 ≤ (t.size : Int) ∧ (t.size : Int) ≤ 60) && noNl t))) else false
def nodeOk (a : ByteArray) (b c d : Int) (s t : ByteArray) (g : Int) : Bool := pathOk a && (decide (0 ≤ c ∧ c ≤ 511) && (decide (0 ≤ d ∧ d ≤ 1000000000) && kinds b c s t g))
theorem spec_j1 (a : ByteArray) (b c d : Int) (s t : ByteArray) (g : Int) (x : Bool) (hx : x = false → t.size ≤ 60) : Ev (fun k => spec_NodeOk.j1 k x a b c d s t g) (!x && noNl t) := by
  cases x with
  | true => exact ev_at fun k => by simp [spec_NodeOk.j1]
  | false =>
    have := nl_loop a b c d s t g (hx rfl) t.size 0 (by omega)
    rw [List.drop_zero] at this
    exact Ev.step (fun k => by simp only [spec_NodeOk.j1, Bool.false_eq_true, if_false]; rfl) this
theorem spec_j0 (a : ByteArray) (b c d : Int) (s t : ByteArray) (g : Int) (x : Bool) : Ev (fun k => spec_NodeOk.j0 k x a b c d s t g) (!x && kinds b c s t g) := by
  cases x with
  | true => exact ev_at fun k => by simp [spec_NodeOk.j0]
  | false =>
    simp only [Bool.not_false, Bool.true_and]
    unfold kinds emp
    by_cases h0 : b = 0
    · simp only [if_pos h0]
      refine ev_at fun k => ?_
      simp only [spec_NodeOk.j0, Bool.false_eq_true, if_false, if_pos h0]
      by_cases h1 : s.toList = ([] : List UInt8)
      · by_cases h2 : t.toList = ([] : List UInt8)
        · simp [h1, h2]
        · simp [h1, h2]
      · simp [h1]
    · simp only [if_neg h0]
      by_cases hb1 : b = 1
      · simp only [if_pos hb1]
        refine ev_at fun k => ?_
        simp only [spec_NodeOk.j0, Bool.false_eq_true, if_false, if_neg h0, if_pos hb1, l01_eq, Option.bind_some]
        by_cases h1 : (s.size : Int) ≤ 20000
        · by_cases h2 : t.toList = ([] : List UInt8)
          · simp [h1, h2]
          · simp [h1, h2]
        · simp [h1]
      · simp only [if_neg hb1]
        by_cases hb2 : b = 2
        · simp only [if_pos hb2]
          have jt : Ev (fun k => spec_NodeOk.j1 k true a b c d s t g) false := by simpa using spec_j1 a b c d s t g true (fun h => by cases h)
          have hh : ∀ k, spec_NodeOk.j0 (k + 1) false a b c d s t g = (if s.toList = ([] : List UInt8) then (if c = 0 then (if g = 0 then spec_NodeOk.j1 k (!decide (1 ≤ (t.size : Int) ∧ (t.size : Int) ≤ 60)) a b c d s t g else spec_NodeOk.j1 k true a b c d s t g) else spec_NodeOk.j1 k true a b c d s t g) else spec_NodeOk.j1 k true a b c d s t g) := by
            intro k
            simp only [spec_NodeOk.j0, Bool.false_eq_true, if_false, if_neg h0, if_neg hb1, if_pos hb2, l01_eq, Option.bind_some]
          by_cases h1 : s.toList = ([] : List UInt8)
          · by_cases h2 : c = 0
            · by_cases h3 : g = 0
              · have := spec_j1 a b c d s t g (!decide (1 ≤ (t.size : Int) ∧ (t.size : Int) ≤ 60)) (fun h => by simp at h; omega)
                rw [Bool.not_not] at this
                rw [decide_eq_true h1, decide_eq_true h2, decide_eq_true h3, Bool.true_and, Bool.true_and, Bool.true_and]
                exact Ev.step (fun k => by rw [hh, if_pos h1, if_pos h2, if_pos h3]) this
              · rw [decide_eq_true h1, decide_eq_true h2, decide_eq_false h3]
                exact Ev.step (fun k => by rw [hh, if_pos h1, if_pos h2, if_neg h3]) jt
            · rw [decide_eq_true h1, decide_eq_false h2]
              exact Ev.step (fun k => by rw [hh, if_pos h1, if_neg h2]) jt
          · rw [decide_eq_false h1]
            exact Ev.step (fun k => by rw [hh, if_neg h1]) jt
        · simp only [if_neg hb2]
          exact ev_at fun k => by simp [spec_NodeOk.j0, h0, hb1, hb2]
theorem spec_node (a : ByteArray) (b c d : Int) (s t : ByteArray) (g : Int) : Ev (fun k => spec_NodeOk.f k a b c d s t g) (nodeOk a b c d s t g) := by
  unfold spec_NodeOk.f nodeOk
  refine Ev.bind (spec_path a) ?_
  have jt : Ev (fun k => spec_NodeOk.j0 k true a b c d s t g) false := by simpa using spec_j0 a b c d s t g true
  cases h : pathOk a with
  | false => simp only [Bool.false_eq_true, if_false, Bool.false_and]; exact jt
  | true =>
    simp only [if_true, Bool.true_and, l01_eq, Option.bind_some]
    by_cases hc : 0 ≤ c ∧ c ≤ 511
    · simp only [decide_eq_true hc, if_true, Bool.true_and]
      have := spec_j0 a b c d s t g (!decide (0 ≤ d ∧ d ≤ 1000000000))
      rw [Bool.not_not] at this
      exact this
    · simp only [decide_eq_false hc, Bool.false_eq_true, if_false, Bool.false_and]
      exact jt
theorem impl_j0 (a : ByteArray) (b c d : Int) (s t : ByteArray) (g : Int) (x : Bool) : Ev (fun k => impl_NodeOk.j0 k x a b c d s t g) (!x && kinds b c s t g) := by
  cases x with
  | true => exact ev_at fun k => by simp [impl_NodeOk.j0]
  | false =>
    simp only [Bool.not_false, Bool.true_and]
    refine ev_at fun k => ?_
    unfold kinds emp
    simp only [impl_NodeOk.j0, Bool.false_eq_true, if_false, wi_eq, Option.bind_some]
    by_cases h0 : b = 0
    · simp only [if_pos h0]
      by_cases h1 : s.toList = ([] : List UInt8)
      · by_cases h2 : t.toList = ([] : List UInt8)
        · simp [h1, h2]
        · simp [h1, h2]
      · simp [h1]
    · simp only [if_neg h0]
      by_cases hb1 : b = 1
      · simp only [if_pos hb1]
        by_cases h1 : (s.size : Int) ≤ 20000
        · by_cases h2 : t.toList = ([] : List UInt8)
          · simp [h1, h2]
          · simp [h1, h2]
        · simp [h1]
      · simp only [if_neg hb1]
        by_cases hb2 : b = 2
        · simp only [if_pos hb2]
          have hc : strings_Contains.f t (⟨#[10]⟩ : ByteArray) = some (!noNl t) := by
            unfold strings_Contains.f noNl
            rw [if_pos (by decide), Bool.not_not]
            rfl
          rw [hc]
          by_cases h1 : s.toList = ([] : List UInt8)
          · by_cases h2 : c = 0
            · by_cases h3 : g = 0
              · by_cases h4 : 1 ≤ (t.size : Int) ∧ (t.size : Int) ≤ 60
                · simp [h1, h2, h3, h4]
                · simp [h1, h2, h3, h4]
              · simp [h1, h2, h3]
            · simp [h1, h2]
          · simp [h1]
        · simp [hb2]
theorem impl_node (a : ByteArray) (b c d : Int) (s t : ByteArray) (g : Int) : Ev (fun k => impl_NodeOk.f k a b c d s t g) (nodeOk a b c d s t g) := by
  unfold impl_NodeOk.f nodeOk
  refine Ev.bind (Pure.impl_path a) ?_
  have jt : Ev (fun k => impl_NodeOk.j0 k true a b c d s t g) false := by simpa using impl_j0 a b c d s t g true
  cases h : pathOk a with
  | false => simp only [Bool.false_eq_true, if_false, Bool.false_and]; exact jt
  | true =>
    simp only [if_true, Bool.true_and, wi_eq, Option.bind_some]
    by_cases hc : 0 ≤ c ∧ c ≤ 511
    · simp only [decide_eq_true hc, if_true, Bool.true_and]
      have := impl_j0 a b c d s t g (!decide (0 ≤ d ∧ d ≤ 1000000000))
      rw [Bool.not_not] at this
      exact this
    · simp only [decide_eq_false hc, Bool.false_eq_true, if_false, Bool.false_and]
      exact jt

end Go.Proofs.YtnfihjebbhjgjaaDoor.Nodes
