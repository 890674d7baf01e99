/- The program's BaseOf and the reference's agree on every text. No condition. -/
import Derived.Test.YtnfihjebbhjgjaaDoorPPax3
import Derived.Test.YtnfihjebbhjgjaaDoorPaths
import Derived.Test.YtnfihjebbhjgjaaDoorTabM
namespace Go.Proofs.YtnfihjebbhjgjaaDoor.Pure
open Go Go.RowKit Go.Proofs.YtnfihjebbhjgjaaDoor.PPa Go.Proofs.YtnfihjebbhjgjaaDoorW.PrintWords Go.Proofs.YtnfihjebbhjgjaaDoorW.PrintMore Go.Proofs.YtnfihjebbhjgjaaDoor.Arith Go.Proofs.YtnfihjebbhjgjaaDoor.Lib Go.Proofs.YtnfihjebbhjgjaaDoor.Parts Go.Proofs.YtnfihjebbhjgjaaDoor.Paths
set_option linter.unusedSimpArgs false
set_option linter.unusedVariables false

def base (l : List ByteArray) : ByteArray := if (l.length : Int) = 0 then (⟨#[]⟩ : ByteArray) else rdOf ByteArray.empty l ((l.length : Int) - 1)
theorem base_ev (l : List ByteArray) (h : l.length ≤ 8) : (if (l.length : Int) = 0 then (some (⟨#[]⟩ : ByteArray)) else (if 0 ≤ (wrap64 ((l.length : Int) - 1)) then (if (wrap64 ((l.length : Int) - 1)) < (l.length : Int) then (some (rdOf ByteArray.empty l (wrap64 ((l.length : Int) - 1)))) else (none)) else (none))) = some (base l) := by
  unfold base
  by_cases h0 : (l.length : Int) = 0
  · rw [if_pos h0, if_pos h0]
  · rw [if_neg h0, if_neg h0, w64 (by omega) (by omega), if_pos (by omega), if_pos (by omega)]
theorem spec_base (s : ByteArray) : Ev (fun k => spec_BaseOf.f k s) (base (names s)) := by
  unfold spec_BaseOf.f
  refine Ev.bind (spec_names s) ?_
  rw [base_ev _ (names_length s)]
  exact Ev.now _
theorem impl_base (s : ByteArray) : Ev (fun k => impl_BaseOf.f k s) (base (names s)) := by
  unfold impl_BaseOf.f
  refine Ev.bind (impl_names s) ?_
  rw [base_ev _ (names_length s)]
  exact Ev.now _
theorem FnExactBaseOf : laws_FnExactBaseOf.Pure := by
  intro s _
  apply Ev.rounds
  unfold laws_FnExactBaseOf.f
  by_cases h : (s.size : Int) > 1048576
  · simp only [if_pos h]; exact Ev.now _
  simp only [if_neg h]
  refine Ev.bind (spec_base s) (Ev.bind (impl_base s) ?_)
  simp only [if_true]
  exact Ev.now _
theorem walkFnExactBaseOf {P : Prop} (W : World) (_ : P) (hsh : W.ShapedOpen Tryd.prog) (a0 : ByteArray) (w0 : a0.size ≤ 140737488351232) :
    Calls Tryd.prog 6 #[.string a0] W fun e w' => e = .returned (.bool true) ∧ Below W.heap.size W w' :=
  laws_FnExactBaseOf.walk FnExactBaseOf a0 W (Tab.of_shaped hsh) w0

end Go.Proofs.YtnfihjebbhjgjaaDoor.Pure
