/- A path's test and its parent: what the program and the reference compute. No condition. -/
import Derived.Test.YtnfihjebbhjgjaaDoorPTtx3
import Derived.Test.YtnfihjebbhjgjaaDoorPTtx7
import Derived.Test.YtnfihjebbhjgjaaDoorPTtx8
import Derived.Test.YtnfihjebbhjgjaaDoorPaths
import Derived.Test.YtnfihjebbhjgjaaDoorTabM
namespace Go.Proofs.YtnfihjebbhjgjaaDoor.Pure
open Go Go.RowKit Go.Proofs.YtnfihjebbhjgjaaDoor.PTt Go.Proofs.YtnfihjebbhjgjaaDoorW.PrintWords Go.Proofs.YtnfihjebbhjgjaaDoorW.PrintMore Go.Proofs.YtnfihjebbhjgjaaDoor.Arith Go.Proofs.YtnfihjebbhjgjaaDoor.Lib Go.Proofs.YtnfihjebbhjgjaaDoor.Parts Go.Proofs.YtnfihjebbhjgjaaDoor.Paths
set_option linter.unusedSimpArgs false
set_option linter.unusedVariables false

theorem impl_path (s : ByteArray) : Ev (fun k => impl_PathOk.f k s) (pathOk s) := by
  unfold impl_PathOk.f
  refine Ev.bind (impl_names s) ?_
  rw [names_pos s]
  exact Ev.now _
theorem take_join (l : List ByteArray) (i : Nat) (h : i < l.length) : (joinB (l.take (i + 1))) = if i = 0 then l[i] else (joinB (l.take i) ++ (⟨#[47]⟩ : ByteArray)) ++ l[i] := by
  rw [List.take_succ_eq_append_getElem h]
  by_cases h0 : i = 0
  · subst h0
    rw [if_pos rfl]
    unfold joinB
    simp [Go.Lib.join_one, ofL_of]
  · rw [if_neg h0]
    apply Parts.ext
    unfold joinB
    rw [ofL_data, List.map_append, join_append _ _ (by intro e; have := congrArg List.length e; rw [List.length_map, List.length_take, List.length_nil] at this; omega) (by simp)]
    simp only [List.map_cons, List.map_nil, Go.Lib.join_one, ByteArray.data_append, Array.toList_append, ofL_data, List.append_assoc]
    rfl
theorem parent_loop (l : List ByteArray) (hl : l.length ≤ 8) (hz : ∀ x ∈ l, x.size ≤ 20) (d : Nat) : ∀ (i : Nat), i + d + 1 = l.length → (joinB (l.take i)).size ≤ 21 * i → Ev (fun k => spec_ParentOf.l0 k l (joinB (l.take i)) i) (joinB (l.take (l.length - 1))) := by
  induction d with
  | zero =>
    intro i h hj
    refine ev_at fun k => ?_
    simp only [spec_ParentOf.l0]
    rw [w64s i (by omega), if_neg (by omega), show l.length - 1 = i by omega]
  | succ d ih =>
    intro i h hj
    have hi : i < l.length := by omega
    have hx := hz _ (List.getElem_mem hi)
    have hz1 : (joinB (l.take i) ++ (⟨#[47]⟩ : ByteArray)).size = (joinB (l.take i)).size + 1 := by rw [ByteArray.size_append]; rfl
    have e := take_join l i hi
    have hs : (joinB (l.take (i + 1))).size ≤ 21 * (i + 1) := by
      rw [e]
      split
      · omega
      · rw [ByteArray.size_append, hz1]; omega
    have ih' := ih (i + 1) (by omega) hs
    refine Ev.step (fun k => ?_) ih'
    simp only [spec_ParentOf.l0]
    rw [w64s i (by omega), if_pos (by omega), rdB l i hi]
    by_cases h0 : i = 0
    · subst h0
      rw [if_neg (by omega), if_pos (by omega), if_pos (by omega)]
      have e0 : joinB (l.take 0) = (⟨#[]⟩ : ByteArray) := rfl
      rw [e, if_pos rfl, e0]
      have e1 : (⟨#[]⟩ : ByteArray) ++ l[0] = l[0] := by apply Parts.ext; simp
      rw [e1]
      rw [if_pos (by show 0 + _ ≤ _; omega)]
    · rw [if_pos (by omega), if_pos (by omega), if_pos (by omega), if_pos (by omega), if_pos (by rw [hz1]; omega), e, if_neg h0]
def parent (s : ByteArray) : ByteArray := joinB ((names s).take ((names s).length - 1))
theorem names_sizes (s : ByteArray) : ∀ x ∈ names s, x.size ≤ 20 := by
  unfold names
  cases h : pathOk s with
  | false => intro x hx; simp at hx
  | true =>
    rw [pathOk_eq] at h
    simp only [Bool.and_eq_true, decide_eq_true_eq] at h
    simp only [if_true]
    intro x hx
    exact (nameOk_size x (List.all_eq_true.1 h.1 x hx)).2
theorem joinB_size (l : List ByteArray) (hz : ∀ x ∈ l, x.size ≤ 20) : (joinB l).size ≤ 21 * l.length := by
  cases hl : l with
  | nil => decide
  | cons a t =>
    have h1 := join_len (l.map (·.data.toList)) (by rw [hl]; simp) (by
      intro p hp
      obtain ⟨x, hx, rfl⟩ := List.mem_map.1 hp
      have := hz x hx
      rw [Parts.size_eq] at this; exact this)
    rw [← hl, Parts.size_eq]
    unfold joinB
    rw [ofL_data]
    simp at h1 ⊢
    omega
theorem spec_parent (s : ByteArray) : Ev (fun k => spec_ParentOf.f k s) (parent s) := by
  unfold spec_ParentOf.f parent
  refine Ev.bind (spec_names s) ?_
  have hl := names_length s
  by_cases h0 : (names s).length = 0
  · have e : names s = [] := List.eq_nil_of_length_eq_zero h0
    rw [e]
    refine ev_at fun k => ?_
    simp only [spec_ParentOf.l0]
    rw [if_neg (by rw [w64 (by omega) (by omega)]; simp)]
    rfl
  · exact parent_loop (names s) hl (names_sizes s) ((names s).length - 1) 0 (by omega) (by show (joinB []).size ≤ 21 * 0; decide)
theorem impl_parent (s : ByteArray) : Ev (fun k => impl_ParentOf.f k s) (parent s) := by
  unfold impl_ParentOf.f parent
  refine Ev.bind (impl_names s) ?_
  have hl := names_length s
  by_cases h0 : ((names s).length : Int) = 0
  · have e : names s = [] := List.eq_nil_of_length_eq_zero (by omega)
    simp only [if_pos h0]
    rw [e]
    exact Ev.now _
  · simp only [if_neg h0]
    have e1 : wrap64 (((names s).length : Int) - 1) = (((names s).length - 1 : Nat) : Int) := by rw [w64 (by omega) (by omega)]; omega
    rw [e1, if_pos (by omega), if_pos (by omega), Int.toNat_natCast]
    have hj := joinB_size ((names s).take ((names s).length - 1)) (fun x hx => names_sizes s x (List.mem_of_mem_take hx))
    have hlen : ((names s).take ((names s).length - 1)).length ≤ 8 := by rw [List.length_take]; omega
    have e2 : strings_Join.f ((names s).take ((names s).length - 1)) (⟨#[47]⟩ : ByteArray) = some (joinB ((names s).take ((names s).length - 1))) := by
      unfold strings_Join.f
      rw [if_pos (by omega), if_pos (by
        have e3 : (Go.Lib.join (((names s).take ((names s).length - 1)).map (·.data.toList)) [47]).length = (joinB ((names s).take ((names s).length - 1))).size := by rw [Parts.size_eq, joinB, ofL_data]
        show (Go.Lib.join (((names s).take ((names s).length - 1)).map (·.data.toList)) [47]).length ≤ _
        rw [e3]; omega)]
      rfl
    rw [e2]
    exact Ev.now _

end Go.Proofs.YtnfihjebbhjgjaaDoor.Pure
