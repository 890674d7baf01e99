/- append(xs, ys...) onto a row of bytes that may bear a mark. No condition. -/
import Derived.Test.YtdjggipdjoopaaaDoorMarked
namespace Go.Proofs.YtdjggipdjoopaaaDoorW.PrintWords
open Go Go.RowKit Go.Proofs.YtdjggipdjoopaaaDoorW.PrintMore Go.Proofs.YtdjggipdjoopaaaDoorW.PrintLast
set_option linter.unusedVariables false
set_option linter.unusedSimpArgs false
namespace Kd
section
variable {P : Program} {ops : Array Oper} {rest : List Oper} {o : Oper} {a : Act} {Q : Exit → Act → World → Prop}
theorem reps_nums {Rr : Int → List Value → Prop} {ys : List Int} {news : List Value} (h : Reps Rr 1 ys news) (hk : ∀ x cs, Rr x cs → cs = [.int .u8 x]) : news = nums .u8 ys := by
  have hl : news.length = ys.length := by rw [h.1, Nat.mul_one]
  apply List.ext_getElem (by rw [nums_length, hl])
  intro q h1 h2
  rw [nums_length] at h2
  have := hk _ _ (h.2 q _ (List.getElem?_eq_getElem h2))
  rw [Nat.mul_one] at this
  have e : ((news.drop q).take 1)[0]? = some news[q] := by
    rw [List.getElem?_take, if_pos (by omega), List.getElem?_drop, Nat.add_zero, List.getElem?_eq_getElem h1]
  rw [this] at e
  simp only [List.getElem?_cons_zero, Option.some.injEq] at e
  rw [← e]
  simp [nums]
theorem setCells_row (w : World) (g i : Nat) (vs : List Value) (cur : Array Value) (t : TypeId) (fz : Nat × Nat) (hg : w.heap[g]? = some (.cells cur t fz)) (hl : i + vs.length ≤ cur.size) :
    ∃ cur', (w.setCells g i vs).heap[g]? = some (.cells cur' t fz) ∧ cur'.size = cur.size ∧ ∀ j, cur'[j]? = if i ≤ j ∧ j < i + vs.length then vs[j - i]? else cur[j]? := by
  induction vs generalizing w i cur with
  | nil => exact ⟨cur, by simpa [World.setCells] using hg, rfl, fun j => by rw [if_neg (by simp)]⟩
  | cons v vs ih =>
    have h1 : (w.setCell ⟨g, i, none⟩ v).heap[g]? = some (.cells (cur.setIfInBounds i v) t fz) := by
      simp [World.setCell, Array.getElem?_modify, hg]
    obtain ⟨cur', a, b, c⟩ := ih (w.setCell ⟨g, i, none⟩ v) (i + 1) (cur.setIfInBounds i v) h1 (by simp at hl ⊢; omega)
    refine ⟨cur', by simpa [World.setCells] using a, by simpa using b, fun j => ?_⟩
    rw [c j, Array.getElem?_setIfInBounds]
    simp only [List.length_cons] at hl ⊢
    by_cases hj : j = i
    · subst hj
      rw [if_neg (by omega), if_pos rfl, if_pos (by omega), if_pos (by omega)]
      simp
    · by_cases hj2 : i + 1 ≤ j ∧ j < i + 1 + vs.length
      · rw [if_pos hj2, if_pos (by omega)]
        rw [show j - i = (j - (i + 1)) + 1 by omega]
        simp
      · rw [if_neg hj2, if_neg (fun e => hj e.symm), if_neg (by omega)]
theorem below_setCells {base : Nat} {w0 w : World} (g : Nat) (hb : base ≤ g) : ∀ (vs : List Value) (i : Nat) (w : World), Below base w0 w → Below base w0 (w.setCells g i vs)
  | [], i, w, h => by simpa [World.setCells] using h
  | v :: vs, i, w, h => by
    have := below_setCells (base := base) (w0 := w0) (w := w) g hb vs (i + 1) (w.setCell ⟨g, i, none⟩ v) (h.setCell hb v)
    simpa [World.setCells] using this
theorem grown_setCells {w0 : World} (g : Nat) : ∀ (vs : List Value) (i : Nat) (w : World), w0.grownBy w (some g) → w0.grownBy (w.setCells g i vs) (some g)
  | [], i, w, h => by simpa [World.setCells] using h
  | v :: vs, i, w, h => by
    have := grown_setCells (w0 := w0) g vs (i + 1) (w.setCell ⟨g, i, none⟩ v) ⟨h.os, h.tape, h.output, by simpa using h.size, fun k hk hkr => by
      rw [Below.heap_setCell _ _ _ k (fun e => hkr (by rw [e]))]; exact h.block k hk hkr⟩
    simpa [World.setCells] using this
theorem RM_append_rows (d : Kd Int) {Rr : Int → List Value → Prop} {w0 W : World} (base : Nat) (hgd : o.guard = none) (s x : Operand) (t e : TypeId) (z : Value) (bytes : Nat)
    (ho : o.op = .call { callee := .builtin .append, args := #[s, x], argTypes := #[t, t] })
    (ht : P.underlying t = some (.slice e)) (hinfo : (P.info? e).map (fun i => (i.zero, i.size, i.bytes)) = some (some z, (Kd.int .u8).sz, bytes)) (hz : z.cells.size = (Kd.int .u8).sz) (hs0 : 0 < (Kd.int .u8).sz) (hb0 : 0 < bytes)
    (v : Value) (xs ys : List Int) (A : Option Addr) (m c : Nat) (ok okp : Nat → Prop) (hs : a.eval s = v) (hx : a.eval x = .slice A m c)
    (HO : RM (Kd.int .u8) e W base ok v xs) (HR : ReadsRow Rr (Kd.int .u8).sz W A m ys) (hKM : ∀ x cs, Rr x cs → (Kd.int .u8).M W base okp x cs) (hokp : ∀ k, okp k → ok k ∧ some k ≠ v.ownBlock) (hfresh : ∀ k, W.heap.size ≤ k → ok k)
    (HB : Below base w0 W) (hbase : base ≤ W.heap.size) (hl : (xs.length + m) * bytes ≤ 140737488355328)
    (h : ∀ v1 w1, RM (Kd.int .u8) e w1 base ok v1 (xs ++ ys) → Below base w0 w1 → W.grownBy w1 v.ownBlock → (v1.ownBlock = v.ownBlock ∨ ∃ b, v1.ownBlock = some b ∧ W.heap.size ≤ b) → wpList P ops Q rest (a.put o.dst v1) w1) :
    wpList P ops Q (o :: rest) a W := by
  obtain ⟨h1, h2, h3⟩ := HO
  rcases h3 with ⟨rfl, rfl⟩ | ⟨g, cap, cur, fz, rfl, hb, hg, hf, hc, hcc, hx2⟩
  · refine R_append_rows (Kd.int .u8) base hgd s x t e z bytes ho ht hinfo hz hs0 hb0 _ [] ys A m c ok okp hs hx (R_nil _ _ _ _ _) HR hKM hokp hfresh HB hbase hl ?_
    exact fun v1 w1 a b c d => h v1 w1 (RM_of a) b c d
  · obtain ⟨i0, hi, hzz⟩ := Option.map_eq_some_iff.1 hinfo
    simp only [Prod.mk.injEq] at hzz
    obtain ⟨hz0, hz1, hz2⟩ := hzz
    have hm : ys.length = m := HR.1
    have hlen : xs.length + m ≤ 140737488355328 := Nat.le_trans (Nat.le_mul_of_pos_right _ hb0) hl
    rcases A with _ | ad
    · have h0 : m = 0 := by
        rcases Nat.eq_zero_or_pos m with h0 | h0
        · exact h0
        · obtain ⟨ad, hh, _⟩ := HR.2.2 h0
          cases hh
      subst h0
      obtain rfl : ys = [] := List.eq_nil_of_length_eq_zero hm
      have hrun : (Builtin.append_ #[t, t] o.type #[.slice (some ⟨g, 0, none⟩) xs.length cap, .slice none 0 c]).run P W = .ok (.slice (some ⟨g, 0, none⟩) xs.length cap) W := by
        simp [Builtin.append_, run_underlying ht, sizeOf, typeInfo, hi, Builtin.lenOf, Builtin.firstCells, hc, storeCells]
      refine wpList_plain hgd fun K hK => ?_
      unfold Oper.wp execOp
      simp only [ho, resolve, invoke, builtin, Sem.run_bind, Sem.run_pure, Result.andThen_ok, List.map_toArray, List.map_cons, List.map_nil, hs, hx, hrun]
      exact hK _ _ (h _ _ ⟨h1, by rw [List.append_nil]; exact h2, by rw [List.append_nil]; exact .inr ⟨g, cap, cur, fz, rfl, hb, hg, hf, hc, hcc, hx2⟩⟩ HB (World.grownBy.refl W _) (.inl rfl))
    · obtain ⟨news, hnr, hnc⟩ := ReadsRow.inner_ HR
      obtain rfl : news = nums .u8 ys := reps_nums hnr (fun x cs hh => hKM x cs hh)
      have hnl : (nums .u8 ys).length = m := by rw [nums_length, hm]
      refine wpList_append_arg W hgd s x t ho e i0 z 1 bytes ht hi hz0 hz1 hz2 hz (by decide) g 0 xs.length cap (nums .u8 xs) hs (by rw [nums_length, Nat.mul_one]) ?_ ad m c (nums .u8 ys) hx (by rw [hnl, Nat.mul_one]) hnc (by intro u hu; obtain ⟨q, _, rfl⟩ := List.mem_map.1 hu; rfl) ?_ (by simp only [maxLen]; omega) hl ?_ ?_
      · intro j u hj
        obtain ⟨hj1, hj2⟩ := List.getElem?_eq_some_iff.1 hj
        rw [nums_length] at hj1
        simp only [World.cell?, hg, Nat.zero_add]
        rw [hx2 j hj1, ← hj2]
        simp [nums, List.getD_eq_getElem?_getD, hj1]
      · intro hroom j hj
        rw [hnl] at hj
        have hin : xs.length + j < cur.size := by omega
        refine ⟨by simp [World.cell?, hg, hin], ?_⟩
        simp only [World.frozen?, hg, Nat.zero_add, Nat.mul_one]
        rcases hf with rfl | hf
        · simp
        · have : ¬ fz.1 ≤ xs.length + j := by omega
          simp [this]
      · intro hroom
        rw [show 0 + xs.length * 1 = xs.length by omega]
        obtain ⟨cur', hg', hsz, hcur⟩ := setCells_row W g xs.length (nums .u8 ys) cur e fz hg (by rw [hnl]; omega)
        refine h _ _ ⟨h1, by rw [List.length_append]; omega, .inr ⟨g, cap, cur', fz, by rw [List.length_append, hm], hb, hg', by rw [hsz]; exact hf, by rw [List.length_append, hm]; exact hroom, by rw [hsz]; exact hcc, fun j hj => ?_⟩⟩ (below_setCells (w := W) g hb _ _ _ HB) ?_ (.inl rfl)
        · rw [List.length_append] at hj
          rw [hcur j]
          by_cases hji : j < xs.length
          · rw [if_neg (by omega), hx2 j hji]
            simp [List.getD_eq_getElem?_getD, List.getElem?_append_left hji]
          · rw [if_pos (by rw [hnl]; omega)]
            have hjy : j - xs.length < ys.length := by omega
            simp [nums, List.getD_eq_getElem?_getD, List.getElem?_append_right (Nat.le_of_not_lt hji), hjy]
        · exact grown_setCells g _ _ W (World.grownBy.refl W _)
      · intro hroom v1 w1 hown hgr
        have hxs : nums .u8 xs ++ nums .u8 ys = nums .u8 (xs ++ ys) := by rw [nums_append]
        rw [hxs] at hown
        have hR : (Kd.int .u8).R e w1 W.heap.size (fun k => W.heap.size ≤ k) v1 (xs ++ ys) := by
          refine R_of_own (enc := Value.int .u8) (h1 := fun _ => rfl) ?_ ?_
          · rw [List.length_append, hm]; exact hown
          · intro k hk
            exact (hown.lt k hk).1
        refine h _ _ (RM_lower (RM_mono (RM_of hR) hfresh) hbase) (HB.grown hgr hbase (fun k hk => by cases hk)) ⟨hgr.os, hgr.tape, hgr.output, hgr.size, fun k hk hne => hgr.block k hk (by simp)⟩ ?_
        rcases hown.2 with ⟨rfl, h0⟩ | ⟨g', cap', cur', rfl, hb', _⟩
        · exfalso; omega
        · exact .inr ⟨g', rfl, hb'⟩
theorem RM_after {d : Kd Int} {e base : Nat} {ok : Nat → Prop} {W w1 : World} {u v v1 : Value} {xs : List Int} (h : RM d e W base (fun k => ok k ∧ some k ≠ v.ownBlock) u xs) (hg : W.grownBy w1 v.ownBlock) (hat : v1.ownBlock = v.ownBlock ∨ ∃ b, v1.ownBlock = some b ∧ W.heap.size ≤ b) : RM d e w1 base (fun k => ok k ∧ some k ≠ v1.ownBlock) u xs := by
  refine ⟨fun k hk => ⟨(h.1 k hk).1, ?_⟩, (RM_keep h (fun k hk => hg.block k (RM_lt h k hk) (h.1 k hk).2)).2⟩
  rcases hat with hat | ⟨b, hb, hle⟩
  · rw [hat]; exact (h.1 k hk).2
  · rw [hb]
    intro he
    injection he with he
    have := RM_lt h k hk
    omega
end
end Kd
end Go.Proofs.YtdjggipdjoopaaaDoorW.PrintWords
