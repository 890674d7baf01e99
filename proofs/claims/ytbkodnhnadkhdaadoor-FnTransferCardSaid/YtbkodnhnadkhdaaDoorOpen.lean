/- How an argument that can be read as data stands in memory: a whole number, a text, a slice of such, by the words of the printed contracts. No condition. -/
import Derived.Test.YtbkodnhnadkhdaaDoorWWords
import Derived.ChangeArms
import Derived.ChangeSlices
import Derived.Deep.Slices
import Derived.Carry
namespace Go.Proofs.YtbkodnhnadkhdaaDoor.Opens
open Go Go.RowKit Go.Proofs.YtbkodnhnadkhdaaDoorW.PrintWords Go.ChangeShapes Go.WideShapes Go.Deep
set_option linter.unusedSimpArgs false
set_option linter.unusedVariables false
variable {H : Type} {enc : TypeId × Value → H} {P : Program}

/-- What can be read at type t reads by the word d, and ok holds of it. -/
def Op {α : Type} (enc : TypeId × Value → H) (P : Program) (t : TypeId) (d : Kd α) (ok : α → Prop) : Prop :=
  ∀ (w : World) (spare : Nat → Bool) (held : Bool) (fuel : Nat) (cs : List Value) (x : DataW H × List MemPlace), DataW.trod enc P w 0 spare held fuel t cs = some x → ∃ val, d.K w val cs ∧ ok val
theorem op_int {t : TypeId} {k : IntKind} (ht : P.underlying t = some (.int k)) : Op enc P t (Kd.int k) (fun x => (Lit.int k x).wf = true) := by
  intro w spare held fuel cs x h
  obtain ⟨n, rfl, _, hw⟩ := DataW.trod_int ht h
  exact ⟨n, rfl, hw⟩
theorem op_string {t : TypeId} (ht : P.underlying t = some .string) : Op enc P t Kd.string (fun s => s.size ≤ maxLen) := by
  intro w spare held fuel cs x h
  obtain ⟨s, rfl, _, hs⟩ := DataW.trod_string ht h
  exact ⟨s, rfl, hs⟩
theorem op_slice {α : Type} {t e : TypeId} {d : Kd α} {ok : α → Prop} (z : α) (ht : P.underlying t = some (.slice e)) (hc : P.cellsOf e = d.sz) (he : Op enc P e d ok) :
    Op enc P t (Kd.slice e d) (fun xs => xs.length ≤ maxLen ∧ ∀ x ∈ xs, ok x) := by
  intro w spare held fuel cs x h
  rcases open_slice ht h with ⟨rfl, _⟩ | ⟨a, len, cap, m, n, D, Pl, rfl, _, hl, hm, hmm, _, hx⟩
  · exact ⟨[], ⟨none, 0, rfl, Nat.le_refl _, rfl, by simp, fun h => by simp at h⟩, by simp, fun x hx => by simp at hx⟩
  · have hlm : len ≤ m := by rw [hmm]; split <;> omega
    have hlen : len ≤ maxLen := by omega
    have : Inhabited α := ⟨z⟩
    obtain ⟨f, hf⟩ := choose_lt (α := α) (n := len) (p := fun i v => ok v ∧ ∃ c, c.length = d.sz ∧ d.K w v c ∧ ∀ j u, c[j]? = some u → w.cell? (a.add (i * d.sz + j)) = some u) (fun i hi => by
      obtain ⟨cs', h1, h2⟩ := hx i (by omega)
      obtain ⟨v, hv, hok⟩ := he w spare held n cs' _ h2
      obtain ⟨_, hcl, hcell⟩ := World.cells?_some h1
      refine ⟨v, hok, cs', d.K_len hv, hv, fun j u hu => ?_⟩
      have hj : j < cs'.length := (List.getElem?_eq_some_iff.1 hu).1
      have := hcell j (by omega)
      rw [hu, hc] at this
      rw [← this]
      congr 1
      unfold Addr.add
      by_cases h0 : i * d.sz = 0 <;> by_cases h3 : j = 0 <;> simp [h0, h3, Nat.add_assoc])
    have hll : ((List.range len).map f).length = len := by simp
    refine ⟨(List.range len).map f, ⟨some a, cap, by rw [hll], by rw [hll]; exact hl, by rw [hll], by rw [hll]; unfold maxLen at hlen; omega, fun _ => ⟨a, rfl, fun j p hj => ?_⟩⟩, by rw [hll]; exact hlen, fun x hx => ?_⟩
    · have hj' : j < len := by have := (List.getElem?_eq_some_iff.1 hj).1; omega
      have : p = f j := by simp [hj'] at hj; exact hj.symm
      subst this
      exact (hf j hj').2
    · obtain ⟨i, hi, rfl⟩ := List.mem_map.1 hx
      exact (hf i (by simpa using hi)).1
/-- A struct's cells, two words one behind the other. -/
theorem op_of {α : Type} {t : TypeId} {d : Kd α} {ok : α → Prop} {fs : Array Field} (ht : P.underlying t = some (.struct fs))
    (h : ∀ (w : World) (spare : Nat → Bool) (held : Bool) (n : Nat) (cs : List Value), cs.length = P.cellsOf t → (∀ (i : Nat) (f : Field), fs[i]? = some f → ∃ y, DataW.trod enc P w 0 spare held n f.type ((cs.drop f.offset).take (P.cellsOf f.type)) = some y) → ∃ val, d.K w val cs ∧ ok val) :
    Op enc P t d ok := by
  intro w spare held fuel cs x hx
  obtain ⟨xs, n, _, _, hl, hlen, hf⟩ := DataW.trod_struct ht hx
  refine h w spare held n cs hl (fun i f hfi => ?_)
  have h1 := hf i f hfi
  have hi : i < fs.size := (Array.getElem?_eq_some_iff.1 hfi).1
  exact ⟨xs[i]'(by omega), by rw [h1]; exact List.getElem?_eq_getElem (by omega)⟩
theorem op_now {α : Type} {t : TypeId} {d : Kd α} {ok : α → Prop} {W : World} {v : Value} {D : DataW H} {p : List MemPlace} (h : Op enc P t d ok) (ht : DataW.Trod enc P W 0 (fun _ => true) true t v D p) : ∃ val, d.K W val v.cells.toList ∧ ok val := by
  obtain ⟨fuel, hf⟩ := ht
  exact h W _ _ fuel _ _ hf

end Go.Proofs.YtbkodnhnadkhdaaDoor.Opens
