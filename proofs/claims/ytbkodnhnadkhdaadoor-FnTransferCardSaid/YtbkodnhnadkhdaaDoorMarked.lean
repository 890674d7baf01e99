/- A row of bytes of the call's own, whose block may bear a mark behind its cells (what '[]byte(s)' leaves): it may be read and written like an unmarked one. No condition. -/
import Derived.Test.YtbkodnhnadkhdaaDoorConv
namespace Go.Proofs.YtbkodnhnadkhdaaDoorW.PrintWords
open Go Go.RowKit Go.Proofs.YtbkodnhnadkhdaaDoorW.PrintMore Go.Proofs.YtbkodnhnadkhdaaDoorW.PrintLast
set_option linter.unusedVariables false
set_option linter.unusedSimpArgs false
namespace Kd

/-- A row of one's own, its mark (if it has one) behind its cells. -/
def RM (_d : Kd Int) (e : Nat) (w : World) (base : Nat) (ok : Nat → Prop) (v : Value) (xs : List Int) : Prop :=
  (∀ k, v.ownBlock = some k → ok k) ∧ xs.length ≤ 9223372036854775807 ∧
  ((v = .slice none 0 0 ∧ xs = []) ∨ ∃ g c cur fz, v = .slice (some ⟨g, 0, none⟩) xs.length c ∧ base ≤ g ∧ w.heap[g]? = some (.cells cur e fz) ∧ (fz = (0, 0) ∨ cur.size ≤ fz.1) ∧ xs.length ≤ c ∧ c ≤ cur.size ∧ ∀ j, j < xs.length → cur[j]? = some (.int .u8 (xs.getD j 0)))
section
variable {d : Kd Int} {e base g n cap : Nat} {ok ok' oki : Nat → Prop} {w w1 W W2 : World} {u v : Value} {xs ys : List Int} {S : Nat → Prop}
theorem RM_nil (d : Kd Int) (e : Nat) (w : World) (base : Nat) (ok : Nat → Prop) : RM d e w base ok (.slice none 0 0) [] := ⟨fun k hk => by simp [Value.ownBlock] at hk, by simp, .inl ⟨rfl, rfl⟩⟩
theorem RM_of (h : (Kd.int .u8).R e w base ok v xs) : RM (Kd.int .u8) e w base ok v xs := by
  obtain ⟨A, c, hv, hl, hC⟩ := R_reads h
  refine ⟨h.1, C_max hC, ?_⟩
  obtain ⟨inner, ho⟩ := R_own h
  rcases ho.2 with ⟨rfl, h0⟩ | ⟨g, cap, cur, rfl, hb, hg, hn, _, hs, _⟩
  · exact .inl ⟨rfl, List.eq_nil_of_length_eq_zero h0⟩
  · injection hv with hA _ hc
    refine .inr ⟨g, cap, cur, (0, 0), rfl, hb, hg, .inl rfl, hn, by have : (Kd.int .u8).sz = 1 := rfl; rw [hs, this, Nat.mul_one]; exact Nat.le_refl _, fun j hj => ?_⟩
    subst hA
    obtain ⟨ad, he, hcell⟩ := Kd.at_int hC (j : Int) (by omega) (by omega)
    obtain rfl := Option.some.inj he
    rw [Int.toNat_natCast, add_plain] at hcell
    simp only [World.cell?, hg] at hcell
    simpa [rd] using hcell
theorem RM_mono (h : RM d e w base ok v xs) (hok : ∀ k, ok k → ok' k) : RM d e w base ok' v xs := ⟨fun k hk => hok k (h.1 k hk), h.2⟩
theorem RM_blk (h : RM d e w base ok v xs) : ∀ k, v.ownBlock = some k → base ≤ k ∧ k < w.heap.size := by
  intro k hk
  rcases h.2.2 with ⟨rfl, _⟩ | ⟨g, c, cur, fz, rfl, hb, hg, _⟩
  · simp [Value.ownBlock] at hk
  · have : g = k := by simpa [Value.ownBlock] using hk
    subst this
    exact ⟨hb, (Array.getElem?_eq_some_iff.1 hg).1⟩
theorem RM_lt (h : RM d e w base ok v xs) : ∀ k, v.ownBlock = some k → k < w.heap.size := fun k hk => (RM_blk h k hk).2
theorem RM_base (h : RM d e w base ok v xs) : ∀ k, v.ownBlock = some k → base ≤ k := fun k hk => (RM_blk h k hk).1
theorem RM_tight (_hE : d.E = []) (h : RM d e w base ok v xs) : RM d e w base (fun k => some k = v.ownBlock) v xs := ⟨fun k hk => hk.symm, h.2⟩
theorem RM_reok (_hE : d.E = []) (h : RM d e w base ok v xs) (hok : ∀ k, v.ownBlock = some k → ok' k) : RM d e w base ok' v xs := ⟨hok, h.2⟩
theorem RM_keep (h : RM d e w base ok v xs) (hm : ∀ k, v.ownBlock = some k → w1.heap[k]? = w.heap[k]?) : RM d e w1 base ok v xs := by
  refine ⟨h.1, h.2.1, ?_⟩
  rcases h.2.2 with h0 | ⟨g, c, cur, fz, rfl, hb, hg, r⟩
  · exact .inl h0
  · exact .inr ⟨g, c, cur, fz, rfl, hb, by rw [hm g (by simp [Value.ownBlock]), hg], r⟩
theorem RM_below (h : RM d e w base ok v xs) (hb : Below w.heap.size w w1) : RM d e w1 base ok v xs := RM_keep h (fun k hk => hb.block k (RM_lt h k hk))
theorem RM_alloc (h : RM d e w base ok v xs) (o : Obj) : RM d e (w.alloc o) base ok v xs := RM_below h (below_alloc (Below.refl _ _) o)
theorem RM_drew (h : RM d e w base ok v xs) : RM d e w.drew base ok v xs := RM_below h (below_drew (Below.refl _ _))
theorem RM_drewN (h : RM d e w base ok v xs) (m : Nat) : RM d e (w.drewN m) base ok v xs := RM_below h (pw_below_drewN (Below.refl _ _) m)
theorem RM_lower {base' : Nat} (h : RM d e w base ok v xs) (hb : base' ≤ base) : RM d e w base' ok v xs := by
  refine ⟨h.1, h.2.1, ?_⟩
  rcases h.2.2 with h0 | ⟨g, c, cur, fz, rfl, hg, r⟩
  · exact .inl h0
  · exact .inr ⟨g, c, cur, fz, rfl, Nat.le_trans hb hg, r⟩
theorem RM_elder' (hu : RM d e W base ok u xs) (hbase : ∀ k, v.ownBlock = some k → W.heap.size ≤ k) (hb : Below W.heap.size W w1) : RM d e w1 base (fun k => ok k ∧ some k ≠ v.ownBlock) u xs := by
  have h := RM_below hu hb
  exact ⟨fun k hk => ⟨h.1 k hk, fun he => by have := hbase k he.symm; have := RM_lt hu k hk; omega⟩, h.2⟩
theorem RM_new' (h : RM d e w1 W.heap.size ok v xs) (hlt : ∀ k, u.ownBlock = some k → k < W.heap.size) : RM d e w1 W.heap.size (fun k => ok k ∧ some k ≠ u.ownBlock) v xs :=
  ⟨fun k hk => ⟨h.1 k hk, fun he => by have := hlt k he.symm; have := RM_base h k hk; omega⟩, h.2⟩
theorem RM_keptB (h : RM d e W base ok v xs) (hk : Kept W W2 S) (hne : ∀ k, ok k → ¬ S k) : RM d e W2 base (fun k => ok k ∧ (¬ S k ∧ k < W.heap.size)) v xs := by
  have h1 : RM d e W2 base ok v xs := RM_keep h (fun k hb => hk.2 k (RM_lt h k hb) (hne k (h.1 k hb)))
  exact ⟨fun k hb => ⟨h.1 k hb, hne k (h.1 k hb), RM_lt h k hb⟩, h1.2⟩
theorem RM_far (h : RM d e w base ok v xs) {p : Addr} (hok : ∀ k, ok k → k ≠ p.block) (u : Value) : RM d e (w.setCell p u) base ok v xs := RM_keep h (fun k hk => Below.heap_setCell w p u k (hok k (h.1 k hk)))
theorem RM_typed (h : RM d e w base ok v xs) : ∀ k, v.ownBlock = some k → ∃ cells fz, w.heap[k]? = some (.cells cells e fz) := by
  intro k hk
  rcases h.2.2 with ⟨rfl, _⟩ | ⟨g, c, cur, fz, rfl, hb, hg, _⟩
  · simp [Value.ownBlock] at hk
  · have : g = k := by simpa [Value.ownBlock] using hk
    subst this
    exact ⟨cur, fz, hg⟩
theorem RM_types (h : RM d e w base ok v xs) {g t : Nat} {cells : Array Value} (hb : w.heap[g]? = some (.cells cells t (0, 0))) (ht : ∀ q, q ∈ e :: d.E → q ≠ t) : RM d e w base (fun k => ok k ∧ k ≠ g) v xs :=
  ⟨fun k hk => ⟨h.1 k hk, by
    obtain ⟨cells', fz, hc⟩ := RM_typed h k hk
    rintro rfl
    rw [hc] at hb
    injection hb with hb
    injection hb with _ hb
    exact ht e List.mem_cons_self hb⟩, h.2⟩
theorem RM_ne (h : RM d e w base ok v xs) {g t : Nat} {cells : Array Value} (hb : w.heap[g]? = some (.cells cells t (0, 0))) (ht : e ≠ t) : some g ≠ v.ownBlock := fun he => by
  obtain ⟨cells', fz, hc⟩ := RM_typed h g he.symm
  rw [hc] at hb
  injection hb with hb
  injection hb with _ hb
  exact ht hb
theorem RM_apartM' {e' : Nat} (h : RM d e w base ok u xs) (hty : ∀ k, v.ownBlock = some k → ∃ cells fz, w.heap[k]? = some (.cells cells e' fz)) (ht : ∀ q, q ∈ e :: d.E → q ≠ e') : RM d e w base (fun k => ok k ∧ some k ≠ v.ownBlock) u xs :=
  ⟨fun k hk => ⟨h.1 k hk, fun he => by
    obtain ⟨cells, fz, hc⟩ := RM_typed h k hk
    obtain ⟨cells', fz', hc'⟩ := hty k he.symm
    rw [hc] at hc'
    injection hc' with hc'
    injection hc' with _ hc'
    exact ht e List.mem_cons_self hc'⟩, h.2⟩
theorem R_typedM {α : Type} {d : Kd α} {xs : List α} (h : d.R e w base ok v xs) : ∀ k, v.ownBlock = some k → ∃ cells fz, w.heap[k]? = some (.cells cells e fz) := fun k hk => by
  obtain ⟨cells, hc⟩ := R_typed h k hk
  exact ⟨cells, (0, 0), hc⟩
theorem R_apartM' {α : Type} {d : Kd α} {xs : List α} {e' : Nat} (h : d.R e W base ok u xs) (hty : ∀ k, v.ownBlock = some k → ∃ cells fz, W.heap[k]? = some (.cells cells e' fz)) (ht : ∀ q, q ∈ e :: d.E → q ≠ e') : d.R e W base (fun k => ok k ∧ some k ≠ v.ownBlock) u xs := by
  refine R_mono (R_bound h) (fun k hk => ⟨hk.1, fun he => ?_⟩)
  obtain ⟨_, _, _, q, hq, cells, hc⟩ := hk
  obtain ⟨cells', fz, hc'⟩ := hty k he.symm
  rw [hc] at hc'
  injection hc' with hc'
  injection hc' with _ hc'
  exact ht q hq hc'
theorem RM_reads (h : RM (Kd.int .u8) e w base ok v xs) : ∃ A c, v = .slice A xs.length c ∧ xs.length ≤ c ∧ (Kd.int .u8).C w A xs.length xs := by
  rcases h.2.2 with ⟨rfl, rfl⟩ | ⟨g, c, cur, fz, rfl, hb, hg, hf, hc, hl, hx⟩
  · exact ⟨none, 0, rfl, by simp, C_nil _ _⟩
  · refine ⟨some ⟨g, 0, none⟩, c, rfl, hc, C_of_reads (readsInt_of.1 ⟨rfl, h.2.1, fun _ => ⟨_, rfl, fun j hj => ?_⟩⟩)⟩
    rw [add_plain]
    simp only [World.cell?, hg]
    exact hx j hj
theorem RM_slice (h : RM (Kd.int .u8) e w base ok v xs) : ∃ A c, v = .slice A xs.length c := by
  obtain ⟨A, c, he, _⟩ := RM_reads h
  exact ⟨A, c, he⟩
theorem RM_reads' {A : Option Addr} {n c : Nat} (h : RM (Kd.int .u8) e w base ok (.slice A n c) xs) : n = xs.length ∧ n ≤ c ∧ (Kd.int .u8).C w A xs.length xs := by
  obtain ⟨A', c', hv, hl, hC⟩ := RM_reads h
  simp only [Value.slice.injEq] at hv
  obtain ⟨rfl, rfl, rfl⟩ := hv
  exact ⟨rfl, hl, hC⟩
theorem RM_form (h : RM d e w base ok v xs) (hp : 0 < xs.length) : ∃ g cap, v = .slice (some ⟨g, 0, none⟩) xs.length cap ∧ base ≤ g ∧ g < w.heap.size ∧ ∃ cells fz, w.heap[g]? = some (.cells cells e fz) := by
  rcases h.2.2 with ⟨_, rfl⟩ | ⟨g, c, cur, fz, rfl, hb, hg, _⟩
  · simp at hp
  · exact ⟨g, c, rfl, hb, (Array.getElem?_eq_some_iff.1 hg).1, cur, fz, hg⟩
theorem RM_celln (_d : Int) (h : RM (Kd.int .u8) e W base ok (.slice (some ⟨g, 0, none⟩) n cap) xs) (i : Int) (h0 : 0 ≤ i) (hi : i < n) : W.cell? ⟨g, i.toNat, none⟩ = some ((Value.int .u8) (rdOf _d xs i)) ∧ W.frozen? ⟨g, i.toNat, none⟩ = false := by
  rcases h.2.2 with ⟨hv, _⟩ | ⟨g', c, cur, fz, hv, hb, hg, hf, hc, hl, hx⟩
  · cases hv
  · simp only [Value.slice.injEq, Option.some.injEq, Addr.mk.injEq, and_true, true_and] at hv
    obtain ⟨rfl, rfl, rfl⟩ := hv
    have hj : i.toNat < xs.length := by omega
    have h1 := hx i.toNat hj
    constructor
    · simp only [World.cell?, hg]
      rw [rdOf, List.getD_eq_getElem?_getD, List.getElem?_eq_getElem hj]
      rw [List.getD_eq_getElem?_getD, List.getElem?_eq_getElem hj] at h1
      exact h1
    · simp only [World.frozen?, hg]
      rcases hf with rfl | hf
      · simp
      · have : ¬ fz.1 ≤ i.toNat := by omega
        simp [this]
theorem RM_putg (h : RM (Kd.int .u8) e W base ok (.slice (some ⟨g, 0, none⟩) n cap) xs) (i : Int) (x : Int) : RM (Kd.int .u8) e (W.setCell ⟨g, i.toNat, none⟩ ((Value.int .u8) x)) base ok (.slice (some ⟨g, 0, none⟩) n cap) (xs.set i.toNat x) ∧ W.grownBy (W.setCell ⟨g, i.toNat, none⟩ ((Value.int .u8) x)) (some g) := by
  refine ⟨⟨h.1, by rw [List.length_set]; exact h.2.1, ?_⟩, ⟨rfl, rfl, rfl, by simp, fun k _ hk => heap_setCell_other W ⟨g, i.toNat, none⟩ k _ (fun e => hk (by simp [e]))⟩⟩
  rcases h.2.2 with ⟨hv, _⟩ | ⟨g', c, cur, fz, hv, hb, hg, hf, hc, hl, hx⟩
  · cases hv
  · simp only [Value.slice.injEq, Option.some.injEq, Addr.mk.injEq, and_true, true_and] at hv
    obtain ⟨rfl, rfl, rfl⟩ := hv
    refine .inr ⟨g, cap, cur.setIfInBounds i.toNat (.int .u8 x), fz, by rw [List.length_set], hb, ?_, by simpa using hf, by rw [List.length_set]; exact hc, by simpa using hl, fun j hj => ?_⟩
    · simp [World.setCell, Array.getElem?_modify, hg]
    · rw [List.length_set] at hj
      rw [Array.getElem?_setIfInBounds]
      have h1 := hx j hj
      by_cases hji : i.toNat = j
      · subst hji
        rw [if_pos rfl, if_pos (by omega)]
        simp [List.getD_eq_getElem?_getD, List.getElem?_set, hj]
      · rw [if_neg hji, h1]
        simp [List.getD_eq_getElem?_getD, List.getElem?_set, hji]
end
end Kd
theorem store_marked (P : Program) (g o : Nat) (t : TypeId) (fz : Nat × Nat) : ∀ (vs : List Value) (i : Nat) (cur : Array Value) (w : World), w.heap[g]? = some (.cells cur t fz) → (fz = (0, 0) ∨ cur.size ≤ fz.1) → o + i + vs.length ≤ cur.size → (∀ v ∈ vs, v.oneCell' = true) →
    (storeCells ⟨g, o, none⟩ vs i).run P w = .ok () (w.setRow g (cur.toList.take (o + i) ++ vs ++ cur.toList.drop (o + i + vs.length)).toArray)
  | [], i, cur, w, hg, _, _, _ => by
    simp only [storeCells, List.append_nil, List.length_nil, Nat.add_zero, List.take_append_drop, Array.toArray_toList]
    rw [setRow_self w g cur t fz hg]
    rfl
  | v :: rest, i, cur, w, hg, hfz, hl, h1 => by
    have hi : o + i < cur.size := by simp at hl; omega
    have hadd : (⟨g, o, none⟩ : Addr).add i = ⟨g, o + i, none⟩ := by unfold Addr.add; split <;> simp_all
    have hcell : w.cell? ⟨g, o + i, none⟩ = some cur[o + i] := by simp [World.cell?, hg, hi]
    have hfro : w.frozen? ⟨g, o + i, none⟩ = false := by
      obtain ⟨lo, hi'⟩ := fz
      simp only [World.frozen?, hg, Bool.and_eq_false_iff, decide_eq_false_iff_not]
      rcases hfz with h | h
      · injection h with h2 h3
        right; omega
      · left; simp only at h; omega
    have hst : (store ((⟨g, o, none⟩ : Addr).add i) v).run P w = .ok () (w.setRow g (cur.setIfInBounds (o + i) v)) := by
      rw [hadd, run_store P w _ v _ (h1 v (by simp)), hcell]
      simp [hfro, setCell_eq_setRow w g (o + i) cur t fz v hg]
    have ih := store_marked P g o t fz rest (i + 1) (cur.setIfInBounds (o + i) v) (w.setRow g (cur.setIfInBounds (o + i) v)) (setRow_heap w g cur _ t _ hg) (by simpa using hfz) (by simp at hl ⊢; omega) (fun x hx => h1 x (by simp [hx]))
    simp only [storeCells, Sem.run_bind, hst, Result.andThen_ok, ih, setRow_setRow]
    congr 3
    have e := list_seg_step cur.toList (o + i) v rest (by simp at hl ⊢; omega)
    simpa [Array.toList_setIfInBounds, Nat.add_assoc] using e
theorem marked_room {P : Program} (w : World) (t ty e : TypeId) (i : TypeInfo) (ht : P.underlying t = some (.slice e)) (hi : P.info? e = some i) (hs1 : i.size = 1)
    (g sLen sCap : Nat) (cur : Array Value) (fz : Nat × Nat) (hg : w.heap[g]? = some (.cells cur e fz)) (hfz : fz = (0, 0) ∨ cur.size ≤ fz.1)
    (a : Addr) (m c : Nat) (news : List Value) (hl : news.length = m) (hnews : ∀ j u, news[j]? = some u → w.cell? (a.add j) = some u) (h1 : ∀ u ∈ news, u.oneCell' = true)
    (hroom : sLen + m ≤ sCap) (hfit : sLen + m ≤ cur.size) :
    (Builtin.append_ #[t, t] ty #[.slice (some ⟨g, 0, none⟩) sLen sCap, .slice (some a) m c]).run P w =
      .ok (.slice (some ⟨g, 0, none⟩) (sLen + m) sCap) (w.setRow g (cur.toList.take sLen ++ news ++ cur.toList.drop (sLen + news.length)).toArray) := by
  have hf := run_firstCells_some (P := P) w i.size m a m c news (by rw [hs1, Nat.mul_one]; exact hl) hnews
  have hst := store_marked P g sLen e fz news 0 cur w hg hfz (by simpa [hl] using hfit) h1
  simp only [Nat.add_zero] at hst
  rw [hs1] at hf
  simp [Builtin.append_, run_underlying ht, sizeOf, typeInfo, hi, hs1, Builtin.lenOf, hroom, hf, Addr.add_lit, hst]
namespace Kd
section
variable {P : Program} {ops : Array Oper} {rest : List Oper} {o : Oper} {a : Act} {Q : Exit → Act → World → Prop}
/-- append(v, x) onto a row that may bear a mark, behind 'at_builtin'; the goal's world is 'W.alloc' of the variadic's box. -/
theorem RM_append (_d : Kd Int) {w0 W : World} (base : Nat) (hgd : o.guard = none) (s x : Operand) (t e : TypeId) (z : Value) (bytes : Nat)
    (ho : o.op = .call { callee := .builtin .append, args := #[s, x], argTypes := #[t, t] })
    (ht : P.underlying t = some (.slice e)) (hinfo : (P.info? e).map (fun i => (i.zero, i.size, i.bytes)) = some (some z, (Kd.int .u8).sz, bytes)) (hz : z.cells.size = (Kd.int .u8).sz) (hs0 : 0 < (Kd.int .u8).sz) (hb0 : 0 < bytes)
    (v : Value) (xs : List Int) (p : Int) (cs : List Value) (ok okp : Nat → Prop) (hs : a.eval s = v) (hx : a.eval x = .slice (some ⟨W.heap.size, 0, none⟩) 1 1) (hp : (Kd.int .u8).M W base okp p cs) (hokp : ∀ k, okp k → ok k ∧ some k ≠ v.ownBlock) (hfresh : ∀ k, W.heap.size ≤ k → ok k)
    (HO : RM (Kd.int .u8) e W base ok v xs) (HB : Below base w0 W) (hbase : base ≤ W.heap.size) (hl : (xs.length + 1) * bytes ≤ 140737488355328)
    (h : ∀ v1 w1, RM (Kd.int .u8) e w1 base ok v1 (xs ++ [p]) → Below base w0 w1 → W.grownBy w1 v.ownBlock → (v1.ownBlock = v.ownBlock ∨ ∃ b, v1.ownBlock = some b ∧ W.heap.size ≤ b) → wpList P ops Q rest (a.put o.dst v1) w1) :
    wpList P ops Q (o :: rest) a (W.alloc (.cells cs.toArray e)) := by
  obtain ⟨h1, h2, h3⟩ := HO
  rcases h3 with ⟨rfl, rfl⟩ | ⟨g, c, cur, fz, rfl, hb, hg, hf, hc, hcc, hx2⟩
  · refine R_append (Kd.int .u8) base hgd s x t e z bytes ho ht hinfo hz hs0 hb0 _ [] p cs ok okp hs hx hp hokp hfresh (R_nil _ _ _ _ _) HB hbase hl ?_
    exact fun v1 w1 a b c d => h v1 w1 (RM_of a) b c d
  · obtain ⟨i0, hi, hzz⟩ := Option.map_eq_some_iff.1 hinfo
    simp only [Prod.mk.injEq] at hzz
    obtain ⟨hz0, hz1, hz2⟩ := hzz
    obtain rfl : cs = [.int .u8 p] := hp
    have hlen : xs.length + 1 ≤ 140737488355328 := Nat.le_trans (Nat.le_mul_of_pos_right _ hb0) hl
    have hgl : g < W.heap.size := (Array.getElem?_eq_some_iff.1 hg).1
    have hne : g ≠ W.heap.size := by omega
    have hgA : (W.alloc (.cells #[.int .u8 p] e)).heap[g]? = some (.cells cur e fz) := by rw [heap_alloc_old W _ hgl]; exact hg
    refine wpList_append_arg (W.alloc (.cells #[.int .u8 p] e)) hgd s x t ho e i0 z 1 bytes ht hi hz0 hz1 hz2 hz (by decide) g 0 xs.length c (nums .u8 xs) hs (by rw [nums_length, Nat.mul_one]) ?_ ⟨W.heap.size, 0, none⟩ 1 1 [.int .u8 p] hx rfl ?_ (by intro u hu; simp at hu; subst hu; rfl) ?_ (by simp only [maxLen]; omega) hl ?_ ?_
    · intro j u hj
      obtain ⟨hj1, hj2⟩ := List.getElem?_eq_some_iff.1 hj
      rw [nums_length] at hj1
      simp only [World.cell?, hgA, Nat.zero_add]
      rw [hx2 j hj1, ← hj2]
      simp [nums, List.getD_eq_getElem?_getD, hj1]
    · simpa using World.news_of_block (cs := #[.int .u8 p]) (t := e) (fr := (0, 0)) (heap_alloc_new W (.cells #[.int .u8 p] e))
    · intro hroom j hj
      simp only [List.length_cons, List.length_nil] at hj
      obtain rfl : j = 0 := by omega
      have hin : xs.length < cur.size := by omega
      refine ⟨by simp [World.cell?, hgA, hin], ?_⟩
      simp only [World.frozen?, hgA, Nat.zero_add, Nat.mul_one, Nat.add_zero]
      rcases hf with rfl | hf
      · simp
      · have : ¬ fz.1 ≤ xs.length := by omega
        simp [this]
    · intro hroom
      have hin : xs.length < cur.size := by omega
      have hB1 : Below base w0 (W.alloc (.cells #[.int .u8 p] e)) := HB.alloc hbase _
      have hset : ((W.alloc (.cells #[.int .u8 p] e)).setCells g (0 + xs.length * 1) [.int .u8 p]) = (W.alloc (.cells #[.int .u8 p] e)).setCell ⟨g, xs.length, none⟩ (.int .u8 p) := by simp [World.setCells]
      rw [hset]
      refine h _ _ ⟨h1, by rw [List.length_append]; simp; omega, .inr ⟨g, c, cur.setIfInBounds xs.length (.int .u8 p), fz, by simp, hb, ?_, by simpa using hf, by simpa using hroom, by simpa using hcc, fun j hj => ?_⟩⟩ (hB1.setCell hb _) ?_ (.inl rfl)
      · simp [World.setCell, Array.getElem?_modify, hgA]
      · simp only [List.length_append, List.length_cons, List.length_nil] at hj
        rw [Array.getElem?_setIfInBounds]
        by_cases hji : xs.length = j
        · subst hji
          rw [if_pos rfl, if_pos hin]
          simp [List.getD_eq_getElem?_getD]
        · rw [if_neg hji, hx2 j (by omega)]
          simp [List.getD_eq_getElem?_getD, List.getElem?_append_left (show j < xs.length by omega)]
      · refine ⟨rfl, rfl, rfl, by simp, fun k hk hkr => ?_⟩
        rw [Below.heap_setCell _ _ _ k (fun e => hkr (by simp [Value.ownBlock, e])), heap_alloc_old W _ hk]
    · intro hroom v1 w1 hown hgr
      have hxs : nums .u8 xs ++ [.int .u8 p] = nums .u8 (xs ++ [p]) := by rw [nums_append]; rfl
      rw [hxs] at hown
      have hR : (Kd.int .u8).R e w1 (W.alloc (.cells #[.int .u8 p] e)).heap.size (fun k => W.heap.size ≤ k) v1 (xs ++ [p]) := by
        refine R_of_own (enc := Value.int .u8) (h1 := fun _ => rfl) ?_ ?_
        · rw [List.length_append]; exact hown
        · intro k hk
          have := (hown.lt k hk).1
          simp at this; omega
      refine h _ _ (RM_lower (RM_mono (RM_of hR) hfresh) (by simp; omega)) ((HB.alloc hbase _).grown hgr (by simp; omega) (fun k hk => by cases hk)) (World.grownBy.trans (World.grownBy_alloc W _ _) ⟨hgr.os, hgr.tape, hgr.output, hgr.size, fun k hk hne => hgr.block k hk (by simp)⟩) (.inr ?_)
      rcases hown.2 with ⟨_, h0⟩ | ⟨g', cap', cur', rfl, hb', _⟩
      · omega
      · exact ⟨g', rfl, by simp at hb'; omega⟩
theorem RM_lit (d : Kd Int) {w0 W : World} (base e : Nat) (hgd : o.guard = none) {N : Tmp} (_hd : o.dst = some N) {xs : List Int} {inner : List Value} {ok okp : Nat → Prop}
    (hrun : (execOp a.eval o).run P W = .ok (.value (.slice (some ⟨W.heap.size, 0, none⟩) xs.length xs.length)) (W.alloc (.cells inner.toArray e)))
    (hrep : Reps ((Kd.int .u8).M W base okp) (Kd.int .u8).sz xs inner) (hok : ∀ k, okp k → ok k) (hfresh : ok W.heap.size) (HB : Below base w0 W) (hbase : base ≤ W.heap.size) (hm : xs.length ≤ 9223372036854775807)
    (h : ∀ v1 w1, RM (Kd.int .u8) e w1 base ok v1 xs → Below base w0 w1 → W.grownBy w1 none → (∃ b, v1.ownBlock = some b ∧ W.heap.size ≤ b) → wpList P ops Q rest (a.put o.dst v1) w1) : wpList P ops Q (o :: rest) a W :=
  R_lit (Kd.int .u8) base e hgd _hd hrun hrep hok hfresh HB hbase hm (fun v1 w1 a b c d => h v1 w1 (RM_of a) b c d)
end
end Kd

theorem own_stringM {P : Program} {w : World} {base : Nat} {ok : Nat → Prop} {e' src dst e : TypeId} {v : Value} {xs : List Int} (hs : P.underlying src = some (.slice e)) (he : P.underlying e = some (.int .u8)) (hd : P.underlying dst = some .string)
    (h : Kd.RM (Kd.int .u8) e' w base ok v xs) : (convert src dst v).run P w = .ok (.string (strOfNums xs)) w := by
  rcases h.2.2 with ⟨rfl, rfl⟩ | ⟨g, c, cur, fz, rfl, hb, hg, hf, hc, hl, hx⟩
  · exact run_convert_bytes_nil w src e hs he 0 0 dst hd
  · refine run_convert_bytes_arg w src e hs he g 0 xs.length c xs rfl (fun i hi => ?_) dst hd
    simp only [World.cell?, hg, Nat.zero_add]
    exact hx i hi
theorem conv_RM (W : World) (e : TypeId) (s : ByteArray) (hs : s.size ≤ 9223372036854775807) :
    Kd.RM (Kd.int .u8) e (Lib.bytesWorld W e s) W.heap.size (fun k_ => W.heap.size ≤ k_) (.slice (some ⟨W.heap.size, 0, none⟩) s.size (grownCap W s.size 0 e)) (bytesOf s) := by
  refine ⟨fun k hk => ?_, by rw [bytesOf_length]; exact hs, .inr ⟨W.heap.size, _, _, _, by rw [bytesOf_length], Nat.le_refl _, Lib.bytesWorld_at_new W e s, .inr (Nat.le_refl _), by rw [bytesOf_length]; exact grownCap_ge _ _ _ _, by have hge := grownCap_ge W s.size 0 e; simp only [Lib.bytesCells, Array.size_append, Array.size_map, Array.size_replicate]; have : s.data.size = s.size := rfl; omega, fun j hj => ?_⟩⟩
  · have : W.heap.size = k := by simpa [Value.ownBlock] using hk
    omega
  · rw [bytesOf_length] at hj
    obtain ⟨_, _, h3⟩ := bytes_reads W e s hs
    obtain ⟨ad, he, hc⟩ := h3 (by omega)
    obtain rfl := Option.some.inj he
    have := hc j hj
    rw [add_plain] at this
    simp only [World.cell?, Lib.bytesWorld_at_new] at this
    exact this
end Go.Proofs.YtbkodnhnadkhdaaDoorW.PrintWords
namespace Go.Proofs.YtbkodnhnadkhdaaDoorW.PrintMore
open Go Go.RowKit Go.Proofs.YtbkodnhnadkhdaaDoorW.PrintWords Go.Proofs.YtbkodnhnadkhdaaDoorW.PrintLast
set_option linter.unusedVariables false
section
variable {P : Program} {ops : Array Oper} {rest : List Oper} {o : Oper} {a : Act} {Q : Exit → Act → World → Prop} {K : Act → World → Prop}
theorem conv_wpM {W : World} (hgd : o.guard = none) {N : Tmp} (_hd : o.dst = some N) (x : Operand) (src dst e : TypeId) (ho : o.op = .convert src dst x) (s : ByteArray) (hx : a.eval x = .string s)
    {u : TypeDesc} (hs : P.underlying src = some u) (ht : P.underlying dst = some (.slice e)) (he : P.underlying e = some (.int .u8)) {r : List Int} (hr : conv.f s = some r)
    (h : ∀ e' w', (∃ v0_ : Value, e' = Ending.returned v0_ ∧ Kd.RM (Kd.int .u8) e w' W.heap.size (fun _ => True) v0_ r ∧ Below W.heap.size W w') → ∃ v, e' = .returned v ∧ wpList P ops Q rest (a.put o.dst v) w') : wpList P ops Q (o :: rest) a W := by
  unfold conv.f at hr
  split at hr
  · rename_i hsz
    obtain rfl := Option.some.inj hr
    obtain ⟨v, hv, hk⟩ := h _ _ ⟨_, rfl, Kd.RM_mono (conv_RM W e s hsz) (fun _ _ => trivial), bytes_below (Below.refl _ _) (Nat.le_refl _) e s⟩
    obtain rfl := Ending.returned.inj hv
    have hb := print_bytes (P := P) src dst e hs ht he s W
    refine wpList_plain hgd fun K hK => ?_
    unfold Oper.wp
    have hrun : (execOp a.eval o).run P W = .ok (.value (.slice (some ⟨W.heap.size, 0, none⟩) s.size (grownCap W s.size 0 e))) (Lib.bytesWorld W e s) := by simp [execOp, ho, hx, hb]
    rw [hrun]
    exact hK _ _ hk
  · cases hr
end
end Go.Proofs.YtbkodnhnadkhdaaDoorW.PrintMore
