/- The program's JoinPath and the reference's agree on all texts. No condition. -/
import Derived.Test.YtnfihjebbhjgjaaDoorPPax1
import Derived.Test.YtnfihjebbhjgjaaDoorPPax3
import Derived.Test.YtnfihjebbhjgjaaDoorPaths
import Derived.Test.YtnfihjebbhjgjaaDoorTabM
import Derived.Test.YtnfihjebbhjgjaaDoorPureFnExactPathOk
namespace Go.Proofs.YtnfihjebbhjgjaaDoor.Pure
open Go Go.RowKit Go.Proofs.YtnfihjebbhjgjaaDoor.PPa Go.Proofs.YtnfihjebbhjgjaaDoorW.PrintWords Go.Proofs.YtnfihjebbhjgjaaDoorW.PrintMore Go.Proofs.YtnfihjebbhjgjaaDoor.Arith Go.Proofs.YtnfihjebbhjgjaaDoor.Lib Go.Proofs.YtnfihjebbhjgjaaDoor.Parts Go.Proofs.YtnfihjebbhjgjaaDoor.Paths
set_option linter.unusedSimpArgs false
set_option linter.unusedVariables false

def out (d n : ByteArray) : ByteArray := if d.toList = ([] : List UInt8) then n else ((d ++ (⟨#[47]⟩ : ByteArray)) ++ n)
def joinP (d n : ByteArray) : ByteArray := if (decide (d.toList = ([] : List UInt8)) || pathOk d) && (Name.nameOk n && pathOk (out d n)) then out d n else (⟨#[]⟩ : ByteArray)
theorem spec_j0 (d n : ByteArray) (hn : n.size ≤ 1048576) (x : ByteArray) : Ev (fun k => spec_JoinPath.j0 k d n x) (if (decide (d.toList = ([] : List UInt8)) || pathOk d) && (Name.nameOk n && pathOk x) then x else (⟨#[]⟩ : ByteArray)) := by
  have hN : Ev (fun k => spec_NameOk.f k n) (Name.nameOk n) := Name.spec_ev n hn
  have tail : Ev (fun k => (spec_NameOk.f k n).bind fun t155 => (if t155 = true then ((spec_PathOk.f k x).bind fun t156 => (if t156 = true then (some x) else (some (⟨#[]⟩ : ByteArray)))) else (some (⟨#[]⟩ : ByteArray)))) (if Name.nameOk n && pathOk x then x else (⟨#[]⟩ : ByteArray)) := by
    refine Ev.bind hN ?_
    cases h1 : Name.nameOk n with
    | false => simp only [Bool.false_and, Bool.false_eq_true, if_false]; exact Ev.now _
    | true =>
      simp only [Bool.true_and, if_true]
      refine Ev.bind (spec_path x) ?_
      cases h2 : pathOk x with
      | false => simp only [Bool.false_eq_true, if_false]; exact Ev.now _
      | true => simp only [if_true]; exact Ev.now _
  by_cases h : d.toList = ([] : List UInt8)
  · rw [decide_eq_true h, Bool.true_or, Bool.true_and]
    refine Ev.step (fun k => ?_) tail
    simp only [spec_JoinPath.j0]
    rw [if_pos h]
  · rw [decide_eq_false h, Bool.false_or]
    refine Ev.step (f := fun k => (spec_PathOk.f k d).bind fun t157 => (if t157 = true then ((spec_NameOk.f k n).bind fun t158 => (if t158 = true then ((spec_PathOk.f k x).bind fun t159 => (if t159 = true then (some x) else (some (⟨#[]⟩ : ByteArray)))) else (some (⟨#[]⟩ : ByteArray)))) else (some (⟨#[]⟩ : ByteArray)))) (fun k => ?_) ?_
    · simp only [spec_JoinPath.j0]
      rw [if_neg h]
    · refine Ev.bind (spec_path d) ?_
      cases h1 : pathOk d with
      | false => simp only [Bool.false_and, Bool.false_eq_true, if_false]; exact Ev.now _
      | true => simp only [Bool.true_and, if_true]; exact tail
theorem spec_join (d n : ByteArray) (hd : d.size ≤ 1048576) (hn : n.size ≤ 1048576) : Ev (fun k => spec_JoinPath.f k d n) (joinP d n) := by
  unfold spec_JoinPath.f joinP out
  by_cases h : d.toList = ([] : List UInt8)
  · simp only [if_pos h]
    exact spec_j0 d n hn n
  · have hz : (d ++ (⟨#[47]⟩ : ByteArray)).size = d.size + 1 := by rw [ByteArray.size_append]; rfl
    simp only [if_neg h, if_pos (show d.size + 1 ≤ 9223372036854775807 by omega), hz, if_pos (show d.size + 1 + n.size ≤ 9223372036854775807 by omega)]
    exact spec_j0 d n hn _
theorem impl_j0 (d n : ByteArray) (hd : d.size ≤ 1048576) (hn : n.size ≤ 1048576) (b : Bool) : Ev (fun k => impl_JoinPath.j0 k d n b) (if !b && pathOk (out d n) then out d n else (⟨#[]⟩ : ByteArray)) := by
  cases b with
  | true =>
    refine ev_at fun k => ?_
    simp [impl_JoinPath.j0]
  | false =>
    unfold out
    simp only [Bool.not_false, Bool.true_and]
    by_cases h : d.toList = ([] : List UInt8)
    · simp only [if_pos h]
      refine Ev.step (f := fun k => (impl_PathOk.f k n).bind fun t163 => (if t163 = true then (some n) else (some (⟨#[]⟩ : ByteArray)))) (fun k => ?_) ?_
      · simp only [impl_JoinPath.j0, Bool.false_eq_true, if_false, if_pos h]
      · refine Ev.bind (impl_path n) ?_
        cases h2 : pathOk n with
        | false => simp only [Bool.false_eq_true, if_false]; exact Ev.now _
        | true => simp only [if_true]; exact Ev.now _
    · have hz : (d ++ (⟨#[47]⟩ : ByteArray)).size = d.size + 1 := by rw [ByteArray.size_append]; rfl
      simp only [if_neg h]
      refine Ev.step (f := fun k => (impl_PathOk.f k ((d ++ (⟨#[47]⟩ : ByteArray)) ++ n)).bind fun t164 => (if t164 = true then (some ((d ++ (⟨#[47]⟩ : ByteArray)) ++ n)) else (some (⟨#[]⟩ : ByteArray)))) (fun k => ?_) ?_
      · simp only [impl_JoinPath.j0, Bool.false_eq_true, if_false, if_neg h, hz]
        rw [if_pos (by omega), if_pos (by omega)]
      · refine Ev.bind (impl_path _) ?_
        cases h2 : pathOk ((d ++ (⟨#[47]⟩ : ByteArray)) ++ n) with
        | false => simp only [Bool.false_eq_true, if_false]; exact Ev.now _
        | true => simp only [if_true]; exact Ev.now _
theorem impl_join (d n : ByteArray) (hd : d.size ≤ 1048576) (hn : n.size ≤ 1048576) : Ev (fun k => impl_JoinPath.f k d n) (joinP d n) := by
  have hN : Ev (fun k => impl_NameOk.f k n) (Name.nameOk n) := Name.impl_ev n hn
  have tail : Ev (fun k => (impl_NameOk.f k n).bind fun t160 => (impl_JoinPath.j0 k d n (!t160))) (if Name.nameOk n && pathOk (out d n) then out d n else (⟨#[]⟩ : ByteArray)) := by
    refine Ev.bind hN ?_
    have := impl_j0 d n hd hn (!Name.nameOk n)
    rw [Bool.not_not] at this
    exact this
  unfold impl_JoinPath.f joinP
  by_cases h : d.toList = ([] : List UInt8)
  · rw [decide_eq_true h, Bool.true_or, Bool.true_and]
    simp only [if_pos h]
    exact tail
  · rw [decide_eq_false h, Bool.false_or]
    simp only [if_neg h]
    refine Ev.bind (impl_path d) ?_
    cases h1 : pathOk d with
    | false =>
      simp only [Bool.false_and, Bool.false_eq_true, if_false]
      have := impl_j0 d n hd hn true
      simpa using this
    | true => simp only [Bool.true_and, if_true]; exact tail
theorem FnExactJoinPath : laws_FnExactJoinPath.Pure := by
  intro s t _ _
  apply Ev.rounds
  unfold laws_FnExactJoinPath.f
  by_cases h : (s.size : Int) > 1048576
  · simp only [if_pos h]; exact Ev.now _
  by_cases h' : (t.size : Int) > 1048576
  · simp only [if_neg h, if_pos h']; exact Ev.now _
  simp only [if_neg h, if_neg h']
  refine Ev.bind (spec_join s t (by omega) (by omega)) (Ev.bind (impl_join s t (by omega) (by omega)) ?_)
  simp only [if_true]
  exact Ev.now _
theorem walkFnExactJoinPath {P : Prop} (W : World) (_ : P) (hsh : W.ShapedOpen Tryd.prog) (a0 : ByteArray) (w0 : a0.size ≤ 140737488351232) (a1 : ByteArray) (w1 : a1.size ≤ 140737488351232) :
    Calls Tryd.prog 7 #[.string a0, .string a1] W fun e w' => e = .returned (.bool true) ∧ Below W.heap.size W w' :=
  laws_FnExactJoinPath.walk FnExactJoinPath a0 a1 W (Tab.of_shaped hsh) w0 w1

end Go.Proofs.YtnfihjebbhjgjaaDoor.Pure
