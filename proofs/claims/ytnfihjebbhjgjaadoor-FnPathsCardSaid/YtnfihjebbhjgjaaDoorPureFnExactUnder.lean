/- The program's Under and the reference's agree on all texts. No condition. -/
import Derived.Test.YtnfihjebbhjgjaaDoorPPax3
import Derived.Test.YtnfihjebbhjgjaaDoorPPax4
import Derived.Test.YtnfihjebbhjgjaaDoorPPax5
import Derived.Test.YtnfihjebbhjgjaaDoorPaths
import Derived.Test.YtnfihjebbhjgjaaDoorTabM
import Derived.Test.YtnfihjebbhjgjaaDoorPureFnExactPathOk
namespace Go.Proofs.YtnfihjebbhjgjaaDoor.Pure
open Go Go.RowKit Go.Proofs.YtnfihjebbhjgjaaDoor.PPa Go.Proofs.YtnfihjebbhjgjaaDoorW.PrintWords Go.Proofs.YtnfihjebbhjgjaaDoorW.PrintMore Go.Proofs.YtnfihjebbhjgjaaDoor.Arith Go.Proofs.YtnfihjebbhjgjaaDoor.Lib Go.Proofs.YtnfihjebbhjgjaaDoor.Parts Go.Proofs.YtnfihjebbhjgjaaDoor.Paths
set_option linter.unusedSimpArgs false
set_option linter.unusedVariables false

def pre (a b : List ByteArray) : Bool := (a.map (·.data.toList)).isPrefixOf (b.map (·.data.toList))
theorem under_loop (a b : List ByteArray) (ha : a.length ≤ 8) (hab : a.length ≤ b.length) (d : Nat) : ∀ i : Nat, i + d = a.length → Ev (fun k => spec_Under.l0 k a b i) (pre (a.drop i) (b.drop i)) := by
  induction d with
  | zero =>
    intro i h
    rw [List.drop_eq_nil_of_le (show a.length ≤ i by omega)]
    refine ev_at fun k => ?_
    simp only [spec_Under.l0]
    rw [if_neg (by omega)]
    simp [pre]
  | succ d ih =>
    intro i h
    have hi : i < a.length := by omega
    have hj : i < b.length := by omega
    have ih' := ih (i + 1) (by omega)
    rw [List.drop_eq_getElem_cons hi, List.drop_eq_getElem_cons hj]
    unfold pre at ih' ⊢
    rw [List.map_cons, List.map_cons, List.isPrefixOf_cons_cons]
    by_cases e : a[i] = b[i]
    · rw [beq_iff_eq.2 (congrArg (·.data.toList) e), Bool.true_and]
      refine Ev.step (fun k => ?_) ih'
      simp only [spec_Under.l0]
      rw [if_pos (by omega), if_pos (by omega), if_pos (by omega), rdB a i hi, rdB b i hj, if_pos (by rw [e]), w64s i (by omega)]
    · rw [beq_eq_false_iff_ne.2 (fun h => e (Parts.ext h)), Bool.false_and]
      refine ev_at fun k => ?_
      simp only [spec_Under.l0]
      rw [if_pos (by omega), if_pos (by omega), if_pos (by omega), rdB a i hi, rdB b i hj, if_neg (fun h => e (toList_inj h))]
def und (d p : ByteArray) : Bool := (decide (d.toList = ([] : List UInt8)) || pathOk d) && (pathOk p && pre (names d) (names p))
theorem names_nil (d : ByteArray) (h : d.toList = ([] : List UInt8)) : names d = [] := by
  have h0 : d.size = 0 := (toList_nil d).1 h
  have hb : d.data.toList = [] := List.eq_nil_of_length_eq_zero (by rw [← Parts.size_eq]; exact h0)
  unfold names
  have : pathOk d = false := by
    have e : namesB d = [ofL []] := by unfold namesB; rw [hb]; rfl
    rw [pathOk_eq, e]
    have : Name.nameOk (ofL []) = false := by
      cases hn : Name.nameOk (ofL []) with
      | false => rfl
      | true =>
        have := nameOk_size _ hn
        rw [Parts.size_eq, ofL_data] at this
        simp at this
    simp [this]
  rw [this]; rfl
theorem length_zero (s : ByteArray) : ((names s).length : Int) = 0 ↔ pathOk s = false := by
  have := names_pos s
  cases h : pathOk s with
  | false =>
    rw [h] at this
    simp only [decide_eq_false_iff_not] at this
    constructor
    · intro _; rfl
    · intro _; omega
  | true =>
    rw [h] at this
    simp only [decide_eq_true_eq] at this
    constructor
    · intro h2; omega
    · intro h2; cases h2
theorem under_j0 (a b : List ByteArray) (ha : a.length ≤ 8) : Ev (fun k => spec_Under.j0 k a b (decide ((a.length : Int) > (b.length : Int)))) (pre a b) := by
  by_cases h : (a.length : Int) > (b.length : Int)
  · have : pre a b = false := by
      cases hp : pre a b with
      | false => rfl
      | true =>
        have := (List.isPrefixOf_iff_prefix.1 hp).length_le
        rw [List.length_map, List.length_map] at this
        omega
    rw [decide_eq_true h, this]
    exact ev_at fun k => by simp [spec_Under.j0]
  · rw [decide_eq_false h]
    exact Ev.step (fun k => by simp only [spec_Under.j0, Bool.false_eq_true, if_false]; rfl) (under_loop a b ha (by omega) a.length 0 (by omega))
theorem spec_und (d p : ByteArray) : Ev (fun k => spec_Under.f k d p) (und d p) := by
  unfold spec_Under.f und
  have hd := names_length d
  refine Ev.bind (spec_names d) (Ev.bind (spec_names p) ?_)
  have jt : Ev (fun k => spec_Under.j0 k (names d) (names p) true) false := ev_at fun k => by simp [spec_Under.j0]
  by_cases h : d.toList = ([] : List UInt8)
  · simp only [if_pos h]
    rw [decide_eq_true h, Bool.true_or, Bool.true_and]
    cases h2 : pathOk p with
    | false => simp only [if_pos ((length_zero p).2 h2), Bool.false_and]; exact jt
    | true =>
      simp only [if_neg (show ¬ ((names p).length : Int) = 0 from fun e => by rw [(length_zero p).1 e] at h2; cases h2), Bool.true_and]
      exact under_j0 _ _ hd
  · simp only [if_neg h]
    rw [decide_eq_false h, Bool.false_or]
    cases h1 : pathOk d with
    | false => simp only [if_pos ((length_zero d).2 h1), Bool.false_and]; exact jt
    | true =>
      simp only [if_neg (show ¬ ((names d).length : Int) = 0 from fun e => by rw [(length_zero d).1 e] at h1; cases h1), Bool.true_and]
      cases h2 : pathOk p with
      | false => simp only [if_pos ((length_zero p).2 h2), Bool.false_and]; exact jt
      | true =>
        simp only [if_neg (show ¬ ((names p).length : Int) = 0 from fun e => by rw [(length_zero p).1 e] at h2; cases h2), Bool.true_and]
        exact under_j0 _ _ hd
theorem pre_paths (d p : ByteArray) (hd : pathOk d = true) (hp : pathOk p = true) : pre (names d) (names p) = (decide (p.toList = d.toList) || Go.Lib.hasPrefix p.data.toList (d ++ slash).data.toList) := by
  unfold pre names
  rw [hd, hp]
  simp only [if_true]
  rw [namesB_data, namesB_data]
  have e : (d ++ slash).data.toList = d.data.toList ++ [47] := by rw [ByteArray.data_append, Array.toList_append]; rfl
  rw [Bool.eq_iff_iff, e]
  unfold Go.Lib.hasPrefix
  simp only [decide_eq_true_eq, Bool.or_eq_true, List.isPrefixOf_iff_prefix, prefix_parts]
  constructor
  · rintro (h | h)
    · exact .inl (by rw [Parts.ext h])
    · exact .inr h
  · rintro (h | h)
    · exact .inl (by rw [toList_inj h])
    · exact .inr h
theorem impl_und (d p : ByteArray) (hd : d.size ≤ 1048576) : Ev (fun k => impl_Under.f k d p) (und d p) := by
  unfold impl_Under.f und
  by_cases h : d.toList = ([] : List UInt8)
  · simp only [if_pos h]
    rw [decide_eq_true h, Bool.true_or, Bool.true_and, names_nil d h]
    have : pre [] (names p) = true := by simp [pre]
    rw [this, Bool.and_true]
    refine Ev.bind (impl_path p) ?_
    cases h2 : pathOk p with
    | false => simp only [Bool.false_eq_true, if_false]; exact Ev.now _
    | true => simp only [if_true]; exact Ev.now _
  · simp only [if_neg h]
    rw [decide_eq_false h, Bool.false_or]
    refine Ev.bind (impl_path d) ?_
    cases h1 : pathOk d with
    | false => simp only [Bool.false_and, Bool.false_eq_true, if_false]; exact Ev.now _
    | true =>
      simp only [if_true, Bool.true_and]
      refine Ev.bind (impl_path p) ?_
      cases h2 : pathOk p with
      | false => simp only [Bool.false_and, Bool.false_eq_true, if_false]; exact Ev.now _
      | true =>
        simp only [if_true, Bool.true_and]
        rw [pre_paths d p h1 h2]
        by_cases e : p.toList = d.toList
        · simp only [if_pos e]
          rw [decide_eq_true e, Bool.true_or]
          exact Ev.now _
        · simp only [if_neg e, if_pos (show d.size + 1 ≤ 9223372036854775807 by omega), strings_HasPrefix.f, Option.bind_some]
          rw [decide_eq_false e, Bool.false_or]
          exact Ev.now _
theorem FnExactUnder : laws_FnExactUnder.Pure := by
  intro s t _ _
  apply Ev.rounds
  unfold laws_FnExactUnder.f
  by_cases h : (s.size : Int) > 1048576
  · simp only [if_pos h]; exact Ev.now _
  by_cases h' : (t.size : Int) > 1048576
  · simp only [if_neg h, if_pos h']; exact Ev.now _
  simp only [if_neg h, if_neg h']
  refine Ev.bind (spec_und s t) (Ev.bind (impl_und s t (by omega)) ?_)
  simp only [bne_self_eq_false, Bool.false_eq_true, if_false]
  exact Ev.now _
theorem walkFnExactUnder {P : Prop} (W : World) (_ : P) (hsh : W.ShapedOpen Tryd.prog) (a0 : ByteArray) (w0 : a0.size ≤ 140737488351232) (a1 : ByteArray) (w1 : a1.size ≤ 140737488351232) :
    Calls Tryd.prog 8 #[.string a0, .string a1] W fun e w' => e = .returned (.bool true) ∧ Below W.heap.size W w' :=
  laws_FnExactUnder.walk FnExactUnder a0 a1 W (Tab.of_shaped hsh) w0 w1

end Go.Proofs.YtnfihjebbhjgjaaDoor.Pure
