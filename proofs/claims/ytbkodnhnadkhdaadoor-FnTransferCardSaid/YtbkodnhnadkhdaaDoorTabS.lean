/- What the laid variables are wanted for: the program's two tables of the strong sum, number for number. They stay where nothing old is written. No condition. -/
import Derived.Test.YtbkodnhnadkhdaaDoorProg
import Derived.Test.YtbkodnhnadkhdaaDoorRows
import Derived.Below
import Derived.KernelRfl
import Derived.LaidSub
import Derived.MakeChecks
import Derived.Lib.LaidTab
namespace Go.Proofs.YtbkodnhnadkhdaaDoor
open Go Go.RowKit Go.Proofs

def sinesL : List Int := [3614090360, 3905402710, 606105819, 3250441966, 4118548399, 1200080426, 2821735955, 4249261313, 1770035416, 2336552879, 4294925233, 2304563134, 1804603682, 4254626195, 2792965006, 1236535329, 4129170786, 3225465664, 643717713, 3921069994, 3593408605, 38016083, 3634488961, 3889429448, 568446438, 3275163606, 4107603335, 1163531501, 2850285829, 4243563512, 1735328473, 2368359562, 4294588738, 2272392833, 1839030562, 4259657740, 2763975236, 1272893353, 4139469664, 3200236656, 681279174, 3936430074, 3572445317, 76029189, 3654602809, 3873151461, 530742520, 3299628645, 4096336452, 1126891415, 2878612391, 4237533241, 1700485571, 2399980690, 4293915773, 2240044497, 1873313359, 4264355552, 2734768916, 1309151649, 4149444226, 3174756917, 718787259, 3951481745]
def turnsR : List (List Int) := [[7, 12, 17, 22], [5, 9, 14, 20], [4, 11, 16, 23], [6, 10, 15, 21]]

/-- An array of arrays of integers: its cells. -/
theorem cells2_of_tab {H : Type} {enc : TypeId × Value → H} {P : Program} {w : World} {base : Nat} {sp : Nat → Bool} {held : Bool} {fuel : Nat} {t e i0 : TypeId} {n m : Nat} {k : IntKind} {cs : List Value} {rows : List (List Int)} {p : List MemPlace}
    (ht : P.underlying t = some (.array n e)) (he : P.underlying e = some (.array m i0)) (hi0 : P.underlying i0 = some (.int k)) (hci : P.cellsOf i0 = 1) (hce : P.cellsOf e = m) (hct : P.cellsOf t = n * m)
    (h : DataW.trod enc P w base sp held fuel t cs = some (.agg (rows.map fun r => Lib.tabData k r), p)) : ∀ i, i < n → (cs.drop (i * m)).take m = (rows.getD i []).map fun z => Value.int k z := by
  cases fuel with
  | zero => simp [DataW.trod] at h
  | succ fuel =>
    simp only [DataW.trod, ht, hce, hct] at h
    split at h
    · rename_i hl
      obtain ⟨xs, hm, hx⟩ := Option.map_eq_some_iff.1 h
      have hxs : xs.map (·.1) = rows.map fun r => (Lib.tabData k r : DataW H) := by
        have := congrArg Prod.fst hx
        simpa using this
      have hxl : xs.length = n := by simpa using Lib.mapM_length hm
      intro i hi
      obtain ⟨b, hb, hf⟩ := Lib.mapM_at hm i i (by simp [hi])
      have h2 : (xs.map (·.1))[i]? = some b.1 := by simp [hb]
      rw [hxs] at h2
      simp only [List.getElem?_map, Option.map_eq_some_iff] at h2
      obtain ⟨r, hr, hrb⟩ := h2
      obtain ⟨b1, b2⟩ := b
      simp only at hrb
      subst hrb
      have := Lib.cells_of_tab he hi0 hci hce hf
      rw [this, List.getD_eq_getElem?_getD, hr]
      rfl
    · cases h

structure Tab (w : World) : Prop where
  sines : ∀ i : Nat, i < 64 → w.cell? ⟨0, i, none⟩ = some (.int .u32 (sinesL.getD i 0))
  turns : ∀ i j : Nat, i < 4 → j < 4 → w.cell? ⟨1, i * 4 + j, none⟩ = some (.int .i64 ((turnsR.getD i []).getD j 0))
theorem Tab.below {w w' : World} (h : Tab w) (hb : Below w.heap.size w w') : Tab w' :=
  ⟨fun i hi => (hb.cell (World.block_lt_of_cell? w _ (h.sines i hi))).trans (h.sines i hi), fun i j hi hj => (hb.cell (World.block_lt_of_cell? w _ (h.turns i j hi hj))).trans (h.turns i j hi hj)⟩
theorem Tab.of_laid {W : World} (h : laidMetH Tryd.prog Rows.fnExactMixStrongRow.laid W) : Tab W := by
  have h1 := h.filter (fun x => x.1 == "loop.example/g00100/impl.sines")
  rw [MakeChecks.laidMetH_plain _ _ _ (by kernel_rfl)] at h1
  have e : Rows.fnExactMixStrongRow.laid.filter (fun x => x.1 == "loop.example/g00100/impl.sines") = [("loop.example/g00100/impl.sines", Lib.tabData .u32 sinesL)] := by kernel_rfl
  rw [e] at h1
  have h2 := h.filter (fun x => x.1 == "loop.example/g00100/impl.turns")
  rw [MakeChecks.laidMetH_plain _ _ _ (by kernel_rfl)] at h2
  have e2 : Rows.fnExactMixStrongRow.laid.filter (fun x => x.1 == "loop.example/g00100/impl.turns") = [("loop.example/g00100/impl.turns", .agg (turnsR.map fun r => Lib.tabData .i64 r))] := by kernel_rfl
  rw [e2] at h2
  have hS : Lib.TabIs Tryd.prog W "loop.example/g00100/impl.sines" .u32 sinesL := Lib.tabIs_of_head (g := 0) (t := 105) (e := 22) (n := 64) (by kernel_rfl) (by kernel_rfl) Tryd.underlying105 Tryd.underlying22 (by kernel_rfl) (by kernel_rfl) h1
  refine ⟨fun i hi => Lib.TabIs.cell hS (by kernel_rfl) i hi, ?_⟩
  obtain ⟨ps, ⟨g', t', cs, fuel, p, q, hg', ht', hvar, hd, _, _⟩, _⟩ := h2
  obtain rfl : 1 = g' := Option.some.inj ((show Tryd.prog.globalNamed "loop.example/g00100/impl.turns" = some 1 by kernel_rfl).symm.trans hg')
  obtain rfl : 108 = t' := Option.some.inj ((show (Tryd.prog.globals[1]?).map (·.type) = some 108 by kernel_rfl).symm.trans ht')
  have hc := cells2_of_tab (m := 4) Tryd.underlying108 Tryd.underlying107 Tryd.underlying3 (by kernel_rfl) (by kernel_rfl) (by kernel_rfl) hd
  intro i j hi hj
  have h3 := hc i hi
  have h4 : cs.toList[i * 4 + j]? = some (.int .i64 ((turnsR.getD i []).getD j 0)) := by
    have h5 : ((cs.toList.drop (i * 4)).take 4)[j]? = cs.toList[i * 4 + j]? := by rw [List.getElem?_take, if_pos hj, List.getElem?_drop]
    rw [← h5, h3]
    have : ∀ (i j : Fin 4), (((turnsR.getD i.val []).map fun z => Value.int .i64 z))[j.val]? = some (.int .i64 ((turnsR.getD i.val []).getD j.val 0)) := by
      intro i j
      rcases i with ⟨i, hi⟩
      rcases j with ⟨j, hj⟩
      match i, hi with
      | 0, _ => match j, hj with
        | 0, _ => rfl
        | 1, _ => rfl
        | 2, _ => rfl
        | 3, _ => rfl
      | 1, _ => match j, hj with
        | 0, _ => rfl
        | 1, _ => rfl
        | 2, _ => rfl
        | 3, _ => rfl
      | 2, _ => match j, hj with
        | 0, _ => rfl
        | 1, _ => rfl
        | 2, _ => rfl
        | 3, _ => rfl
      | 3, _ => match j, hj with
        | 0, _ => rfl
        | 1, _ => rfl
        | 2, _ => rfl
        | 3, _ => rfl
    exact this ⟨i, hi⟩ ⟨j, hj⟩
  have h6 := World.var?_cell (show Tryd.prog.globalNamed "loop.example/g00100/impl.turns" = some 1 by kernel_rfl) hvar (i * 4 + j)
  rw [h6]
  simpa using h4

end Go.Proofs.YtbkodnhnadkhdaaDoor
