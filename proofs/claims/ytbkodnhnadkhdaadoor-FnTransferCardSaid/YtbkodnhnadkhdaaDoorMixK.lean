import Derived.Test.YtbkodnhnadkhdaaDoorMixD
namespace Go.Proofs.YtbkodnhnadkhdaaDoor.Mix
open Go Go.RowKit Go.Proofs.YtbkodnhnadkhdaaDoorW.PrintWords Go.Proofs.YtbkodnhnadkhdaaDoorW.PrintLast
theorem heap_setCell_self (w : World) (g o : Nat) (cs : Array Value) (t : TypeId) (fz : Nat × Nat) (v : Value) (h : w.heap[g]? = some (.cells cs t fz)) : (w.setCell ⟨g, o, none⟩ v).heap[g]? = some (.cells (cs.setIfInBounds o v) t fz) := by
  simp [World.setCell, Array.getElem?_modify, h]
theorem key4 (w : World) (o : Obj) (x0 x1 x2 x3 y0 y1 y2 y3 : Value) (m : Nat) : ((((((w.alloc o).alloc (Obj.cells #[y0, y1, y2, y3] 23)).drewN m).setCell ⟨w.heap.size + 1, 0, none⟩ x0).setCell ⟨w.heap.size + 1, 1, none⟩ x1).setCell ⟨w.heap.size + 1, 2, none⟩ x2 |>.setCell ⟨w.heap.size + 1, 3, none⟩ x3).heap[w.heap.size + 1]? = some (.cells #[x0, x1, x2, x3] 23 (0, 0)) := by
  have h0 : (((w.alloc o).alloc (Obj.cells #[y0, y1, y2, y3] 23)).drewN m).heap[w.heap.size + 1]? = some (.cells #[y0, y1, y2, y3] 23 (0, 0)) := by
    have := heap_alloc_new (w.alloc o) (Obj.cells #[y0, y1, y2, y3] 23)
    simpa using this
  exact heap_setCell_self _ _ _ _ _ _ _ (heap_setCell_self _ _ _ _ _ _ _ (heap_setCell_self _ _ _ _ _ _ _ (heap_setCell_self _ _ _ _ _ _ _ h0)))
end Go.Proofs.YtbkodnhnadkhdaaDoor.Mix
