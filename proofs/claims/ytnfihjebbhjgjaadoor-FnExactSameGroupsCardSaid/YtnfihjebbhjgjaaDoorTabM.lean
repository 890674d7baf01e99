/- What the laid variables are wanted for: the library's greatest length of a quick search holds some number. It stays where nothing old is written. No condition. -/
import Derived.Test.YtnfihjebbhjgjaaDoorProg
import Derived.Test.YtnfihjebbhjgjaaDoorShelf
import Derived.Below
import Derived.KernelRfl
namespace Go.Proofs.YtnfihjebbhjgjaaDoor
open Go Go.RowKit Go.Proofs

def Tab (w : World) : Prop := ∃ m, w.cell? ⟨0, 0, none⟩ = some (.int .i64 m)
theorem Tab.below {w w' : World} (h : Tab w) (hb : Below w.heap.size w w') : Tab w' := by
  obtain ⟨m, hm⟩ := h
  exact ⟨m, (hb.cell (World.block_lt_of_cell? w _ hm)).trans hm⟩
theorem Tab.of_shaped {w : World} (h : w.ShapedOpen Tryd.prog) : Tab w :=
  Go.Proofs.cell_of_shapedOpen_int (zero := #[.int .i64 0]) (t := 3) h (of_decide_eq_true (by kernel_rfl)) (by kernel_rfl) rfl (by kernel_rfl) (by kernel_rfl) Tryd.underlying3

end Go.Proofs.YtnfihjebbhjgjaaDoor
