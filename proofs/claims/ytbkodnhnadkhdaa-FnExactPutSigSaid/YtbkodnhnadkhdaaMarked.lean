/- A row of bytes of the call's own, whose block may bear a mark behind its cells (what '[]byte(s)' leaves): it may be read and written like an unmarked one. No condition. -/
import Derived.Test.YtbkodnhnadkhdaaConv
namespace Go.Proofs.YtbkodnhnadkhdaaW.PrintWords
open Go Go.RowKit Go.Proofs.YtbkodnhnadkhdaaW.PrintMore Go.Proofs.YtbkodnhnadkhdaaW.PrintLast
set_option linter.unusedVariables false
set_option linter.unusedSimpArgs false
namespace Kd

/-- A row of one's own, its mark (if it has one) behind its cells. -/
def RM (_d : Kd Int) (e : Nat) (w : World) (base : Nat) (ok : Nat → Prop) (v : Value) (xs : List Int) : Prop :=
  (∀ k, v.ownBlock = some k → ok k) ∧ xs.length ≤ 9223372036854775807 ∧
  ((v = .slice none 0 0 ∧ xs = []) ∨ ∃ g c cur fz, v = .slice (some ⟨g, 0, none⟩) xs.length c ∧ base ≤ g ∧ w.heap[g]? = some (.cells cur e fz) ∧ (fz = (0, 0) ∨ cur.size ≤ fz.1) ∧ xs.length ≤ c ∧ xs.length ≤ cur.size ∧ ∀ j, j < xs.length → cur[j]? = some (.int .u8 (xs.getD j 0)))
section
variable {d : Kd Int} {e base g n cap : Nat} {ok ok' oki : Nat → Prop} {w w1 W W2 : World} {u v : Value} {xs ys : List Int} {S : Nat → Prop}
theorem RM_nil (d : Kd Int) (e : Nat) (w : World) (base : Nat) (ok : Nat → Prop) : RM d e w base ok (.slice none 0 0) [] := ⟨fun k hk => by simp [Value.ownBlock] at hk, by simp, .inl ⟨rfl, rfl⟩⟩
theorem RM_of (h : (Kd.int .u8).R e w base ok v xs) : RM (Kd.int .u8) e w base ok v xs := by
  obtain ⟨A, c, hv, hl, hC⟩ := R_reads h
  refine ⟨h.1, C_max hC, ?_⟩
  obtain ⟨inner, ho⟩ := R_own h
  rcases ho.2 with ⟨rfl, h0⟩ | ⟨g, cap, cur, rfl, hb, hg, hn, _, hs, _⟩
  · exact .inl ⟨rfl, List.eq_nil_of_length_eq_zero h0⟩
  · injection hv with hA _ hc
    refine .inr ⟨g, cap, cur, (0, 0), rfl, hb, hg, .inl rfl, hn, by have : (Kd.int .u8).sz = 1 := rfl; rw [hs, this]; omega, fun j hj => ?_⟩
    subst hA
    obtain ⟨ad, he, hcell⟩ := Kd.at_int hC (j : Int) (by omega) (by omega)
    obtain rfl := Option.some.inj he
    rw [Int.toNat_natCast, add_plain] at hcell
    simp only [World.cell?, hg] at hcell
    simpa [rd] using hcell
theorem RM_mono (h : RM d e w base ok v xs) (hok : ∀ k, ok k → ok' k) : RM d e w base ok' v xs := ⟨fun k hk => hok k (h.1 k hk), h.2⟩
theorem RM_blk (h : RM d e w base ok v xs) : ∀ k, v.ownBlock = some k → base ≤ k ∧ k < w.heap.size := by
  intro k hk
  rcases h.2.2 with ⟨rfl, _⟩ | ⟨g, c, cur, fz, rfl, hb, hg, _⟩
  · simp [Value.ownBlock] at hk
  · have : g = k := by simpa [Value.ownBlock] using hk
    subst this
    exact ⟨hb, (Array.getElem?_eq_some_iff.1 hg).1⟩
theorem RM_lt (h : RM d e w base ok v xs) : ∀ k, v.ownBlock = some k → k < w.heap.size := fun k hk => (RM_blk h k hk).2
theorem RM_base (h : RM d e w base ok v xs) : ∀ k, v.ownBlock = some k → base ≤ k := fun k hk => (RM_blk h k hk).1
theorem RM_tight (_hE : d.E = []) (h : RM d e w base ok v xs) : RM d e w base (fun k => some k = v.ownBlock) v xs := ⟨fun k hk => hk.symm, h.2⟩
theorem RM_reok (_hE : d.E = []) (h : RM d e w base ok v xs) (hok : ∀ k, v.ownBlock = some k → ok' k) : RM d e w base ok' v xs := ⟨hok, h.2⟩
theorem RM_keep (h : RM d e w base ok v xs) (hm : ∀ k, v.ownBlock = some k → w1.heap[k]? = w.heap[k]?) : RM d e w1 base ok v xs := by
  refine ⟨h.1, h.2.1, ?_⟩
  rcases h.2.2 with h0 | ⟨g, c, cur, fz, rfl, hb, hg, r⟩
  · exact .inl h0
  · exact .inr ⟨g, c, cur, fz, rfl, hb, by rw [hm g (by simp [Value.ownBlock]), hg], r⟩
theorem RM_below (h : RM d e w base ok v xs) (hb : Below w.heap.size w w1) : RM d e w1 base ok v xs := RM_keep h (fun k hk => hb.block k (RM_lt h k hk))
theorem RM_alloc (h : RM d e w base ok v xs) (o : Obj) : RM d e (w.alloc o) base ok v xs := RM_below h (below_alloc (Below.refl _ _) o)
theorem RM_drew (h : RM d e w base ok v xs) : RM d e w.drew base ok v xs := RM_below h (below_drew (Below.refl _ _))
theorem RM_drewN (h : RM d e w base ok v xs) (m : Nat) : RM d e (w.drewN m) base ok v xs := RM_below h (pw_below_drewN (Below.refl _ _) m)
theorem RM_lower {base' : Nat} (h : RM d e w base ok v xs) (hb : base' ≤ base) : RM d e w base' ok v xs := by
  refine ⟨h.1, h.2.1, ?_⟩
  rcases h.2.2 with h0 | ⟨g, c, cur, fz, rfl, hg, r⟩
  · exact .inl h0
  · exact .inr ⟨g, c, cur, fz, rfl, Nat.le_trans hb hg, r⟩
theorem RM_elder' (hu : RM d e W base ok u xs) (hbase : ∀ k, v.ownBlock = some k → W.heap.size ≤ k) (hb : Below W.heap.size W w1) : RM d e w1 base (fun k => ok k ∧ some k ≠ v.ownBlock) u xs := by
  have h := RM_below hu hb
  exact ⟨fun k hk => ⟨h.1 k hk, fun he => by have := hbase k he.symm; have := RM_lt hu k hk; omega⟩, h.2⟩
theorem RM_new' (h : RM d e w1 W.heap.size ok v xs) (hlt : ∀ k, u.ownBlock = some k → k < W.heap.size) : RM d e w1 W.heap.size (fun k => ok k ∧ some k ≠ u.ownBlock) v xs :=
  ⟨fun k hk => ⟨h.1 k hk, fun he => by have := hlt k he.symm; have := RM_base h k hk; omega⟩, h.2⟩
theorem RM_keptB (h : RM d e W base ok v xs) (hk : Kept W W2 S) (hne : ∀ k, ok k → ¬ S k) : RM d e W2 base (fun k => ok k ∧ (¬ S k ∧ k < W.heap.size)) v xs := by
  have h1 : RM d e W2 base ok v xs := RM_keep h (fun k hb => hk.2 k (RM_lt h k hb) (hne k (h.1 k hb)))
  exact ⟨fun k hb => ⟨h.1 k hb, hne k (h.1 k hb), RM_lt h k hb⟩, h1.2⟩
theorem RM_far (h : RM d e w base ok v xs) {p : Addr} (hok : ∀ k, ok k → k ≠ p.block) (u : Value) : RM d e (w.setCell p u) base ok v xs := RM_keep h (fun k hk => Below.heap_setCell w p u k (hok k (h.1 k hk)))
theorem RM_typed (h : RM d e w base ok v xs) : ∀ k, v.ownBlock = some k → ∃ cells fz, w.heap[k]? = some (.cells cells e fz) := by
  intro k hk
  rcases h.2.2 with ⟨rfl, _⟩ | ⟨g, c, cur, fz, rfl, hb, hg, _⟩
  · simp [Value.ownBlock] at hk
  · have : g = k := by simpa [Value.ownBlock] using hk
    subst this
    exact ⟨cur, fz, hg⟩
theorem RM_types (h : RM d e w base ok v xs) {g t : Nat} {cells : Array Value} (hb : w.heap[g]? = some (.cells cells t (0, 0))) (ht : ∀ q, q ∈ e :: d.E → q ≠ t) : RM d e w base (fun k => ok k ∧ k ≠ g) v xs :=
  ⟨fun k hk => ⟨h.1 k hk, by
    obtain ⟨cells', fz, hc⟩ := RM_typed h k hk
    rintro rfl
    rw [hc] at hb
    injection hb with hb
    injection hb with _ hb
    exact ht e List.mem_cons_self hb⟩, h.2⟩
theorem RM_ne (h : RM d e w base ok v xs) {g t : Nat} {cells : Array Value} (hb : w.heap[g]? = some (.cells cells t (0, 0))) (ht : e ≠ t) : some g ≠ v.ownBlock := fun he => by
  obtain ⟨cells', fz, hc⟩ := RM_typed h g he.symm
  rw [hc] at hb
  injection hb with hb
  injection hb with _ hb
  exact ht hb
theorem RM_apartM' {e' : Nat} (h : RM d e w base ok u xs) (hty : ∀ k, v.ownBlock = some k → ∃ cells fz, w.heap[k]? = some (.cells cells e' fz)) (ht : ∀ q, q ∈ e :: d.E → q ≠ e') : RM d e w base (fun k => ok k ∧ some k ≠ v.ownBlock) u xs :=
  ⟨fun k hk => ⟨h.1 k hk, fun he => by
    obtain ⟨cells, fz, hc⟩ := RM_typed h k hk
    obtain ⟨cells', fz', hc'⟩ := hty k he.symm
    rw [hc] at hc'
    injection hc' with hc'
    injection hc' with _ hc'
    exact ht e List.mem_cons_self hc'⟩, h.2⟩
theorem R_typedM {α : Type} {d : Kd α} {xs : List α} (h : d.R e w base ok v xs) : ∀ k, v.ownBlock = some k → ∃ cells fz, w.heap[k]? = some (.cells cells e fz) := fun k hk => by
  obtain ⟨cells, hc⟩ := R_typed h k hk
  exact ⟨cells, (0, 0), hc⟩
theorem R_apartM' {α : Type} {d : Kd α} {xs : List α} {e' : Nat} (h : d.R e W base ok u xs) (hty : ∀ k, v.ownBlock = some k → ∃ cells fz, W.heap[k]? = some (.cells cells e' fz)) (ht : ∀ q, q ∈ e :: d.E → q ≠ e') : d.R e W base (fun k => ok k ∧ some k ≠ v.ownBlock) u xs := by
  refine R_mono (R_bound h) (fun k hk => ⟨hk.1, fun he => ?_⟩)
  obtain ⟨_, _, _, q, hq, cells, hc⟩ := hk
  obtain ⟨cells', fz, hc'⟩ := hty k he.symm
  rw [hc] at hc'
  injection hc' with hc'
  injection hc' with _ hc'
  exact ht q hq hc'
theorem RM_reads (h : RM (Kd.int .u8) e w base ok v xs) : ∃ A c, v = .slice A xs.length c ∧ xs.length ≤ c ∧ (Kd.int .u8).C w A xs.length xs := by
  rcases h.2.2 with ⟨rfl, rfl⟩ | ⟨g, c, cur, fz, rfl, hb, hg, hf, hc, hl, hx⟩
  · exact ⟨none, 0, rfl, by simp, C_nil _ _⟩
  · refine ⟨some ⟨g, 0, none⟩, c, rfl, hc, C_of_reads (readsInt_of.1 ⟨rfl, h.2.1, fun _ => ⟨_, rfl, fun j hj => ?_⟩⟩)⟩
    rw [add_plain]
    simp only [World.cell?, hg]
    exact hx j hj
theorem RM_slice (h : RM (Kd.int .u8) e w base ok v xs) : ∃ A c, v = .slice A xs.length c := by
  obtain ⟨A, c, he, _⟩ := RM_reads h
  exact ⟨A, c, he⟩
theorem RM_reads' {A : Option Addr} {n c : Nat} (h : RM (Kd.int .u8) e w base ok (.slice A n c) xs) : n = xs.length ∧ n ≤ c ∧ (Kd.int .u8).C w A xs.length xs := by
  obtain ⟨A', c', hv, hl, hC⟩ := RM_reads h
  simp only [Value.slice.injEq] at hv
  obtain ⟨rfl, rfl, rfl⟩ := hv
  exact ⟨rfl, hl, hC⟩
theorem RM_form (h : RM d e w base ok v xs) (hp : 0 < xs.length) : ∃ g cap, v = .slice (some ⟨g, 0, none⟩) xs.length cap ∧ base ≤ g ∧ g < w.heap.size ∧ ∃ cells fz, w.heap[g]? = some (.cells cells e fz) := by
  rcases h.2.2 with ⟨_, rfl⟩ | ⟨g, c, cur, fz, rfl, hb, hg, _⟩
  · simp at hp
  · exact ⟨g, c, rfl, hb, (Array.getElem?_eq_some_iff.1 hg).1, cur, fz, hg⟩
theorem RM_celln (_d : Int) (h : RM (Kd.int .u8) e W base ok (.slice (some ⟨g, 0, none⟩) n cap) xs) (i : Int) (h0 : 0 ≤ i) (hi : i < n) : W.cell? ⟨g, i.toNat, none⟩ = some ((Value.int .u8) (rdOf _d xs i)) ∧ W.frozen? ⟨g, i.toNat, none⟩ = false := by
  rcases h.2.2 with ⟨hv, _⟩ | ⟨g', c, cur, fz, hv, hb, hg, hf, hc, hl, hx⟩
  · cases hv
  · simp only [Value.slice.injEq, Option.some.injEq, Addr.mk.injEq, and_true, true_and] at hv
    obtain ⟨rfl, rfl, rfl⟩ := hv
    have hj : i.toNat < xs.length := by omega
    have h1 := hx i.toNat hj
    constructor
    · simp only [World.cell?, hg]
      rw [rdOf, List.getD_eq_getElem?_getD, List.getElem?_eq_getElem hj]
      rw [List.getD_eq_getElem?_getD, List.getElem?_eq_getElem hj] at h1
      exact h1
    · simp only [World.frozen?, hg]
      rcases hf with rfl | hf
      · simp
      · have : ¬ fz.1 ≤ i.toNat := by omega
        simp [this]
theorem RM_putg (h : RM (Kd.int .u8) e W base ok (.slice (some ⟨g, 0, none⟩) n cap) xs) (i : Int) (x : Int) : RM (Kd.int .u8) e (W.setCell ⟨g, i.toNat, none⟩ ((Value.int .u8) x)) base ok (.slice (some ⟨g, 0, none⟩) n cap) (xs.set i.toNat x) ∧ W.grownBy (W.setCell ⟨g, i.toNat, none⟩ ((Value.int .u8) x)) (some g) := by
  refine ⟨⟨h.1, by rw [List.length_set]; exact h.2.1, ?_⟩, ⟨rfl, rfl, rfl, by simp, fun k _ hk => heap_setCell_other W ⟨g, i.toNat, none⟩ k _ (fun e => hk (by simp [e]))⟩⟩
  rcases h.2.2 with ⟨hv, _⟩ | ⟨g', c, cur, fz, hv, hb, hg, hf, hc, hl, hx⟩
  · cases hv
  · simp only [Value.slice.injEq, Option.some.injEq, Addr.mk.injEq, and_true, true_and] at hv
    obtain ⟨rfl, rfl, rfl⟩ := hv
    refine .inr ⟨g, cap, cur.setIfInBounds i.toNat (.int .u8 x), fz, by rw [List.length_set], hb, ?_, by simpa using hf, by rw [List.length_set]; exact hc, by rw [List.length_set]; simpa using hl, fun j hj => ?_⟩
    · simp [World.setCell, Array.getElem?_modify, hg]
    · rw [List.length_set] at hj
      rw [Array.getElem?_setIfInBounds]
      have h1 := hx j hj
      by_cases hji : i.toNat = j
      · subst hji
        rw [if_pos rfl, if_pos (by omega)]
        simp [List.getD_eq_getElem?_getD, List.getElem?_set, hj]
      · rw [if_neg hji, h1]
        simp [List.getD_eq_getElem?_getD, List.getElem?_set, hji]
end
end Kd

theorem conv_RM (W : World) (e : TypeId) (s : ByteArray) (hs : s.size ≤ 9223372036854775807) :
    Kd.RM (Kd.int .u8) e (Lib.bytesWorld W e s) W.heap.size (fun k_ => W.heap.size ≤ k_) (.slice (some ⟨W.heap.size, 0, none⟩) s.size (grownCap W s.size 0 e)) (bytesOf s) := by
  refine ⟨fun k hk => ?_, by rw [bytesOf_length]; exact hs, .inr ⟨W.heap.size, _, _, _, by rw [bytesOf_length], Nat.le_refl _, Lib.bytesWorld_at_new W e s, .inr (Nat.le_refl _), by rw [bytesOf_length]; exact grownCap_ge _ _ _ _, by rw [bytesOf_length]; simp [Lib.bytesCells], fun j hj => ?_⟩⟩
  · have : W.heap.size = k := by simpa [Value.ownBlock] using hk
    omega
  · rw [bytesOf_length] at hj
    obtain ⟨_, _, h3⟩ := bytes_reads W e s hs
    obtain ⟨ad, he, hc⟩ := h3 (by omega)
    obtain rfl := Option.some.inj he
    have := hc j hj
    rw [add_plain] at this
    simp only [World.cell?, Lib.bytesWorld_at_new] at this
    exact this
end Go.Proofs.YtbkodnhnadkhdaaW.PrintWords
namespace Go.Proofs.YtbkodnhnadkhdaaW.PrintMore
open Go Go.RowKit Go.Proofs.YtbkodnhnadkhdaaW.PrintWords Go.Proofs.YtbkodnhnadkhdaaW.PrintLast
set_option linter.unusedVariables false
section
variable {P : Program} {ops : Array Oper} {rest : List Oper} {o : Oper} {a : Act} {Q : Exit → Act → World → Prop} {K : Act → World → Prop}
theorem conv_wpM {W : World} (hgd : o.guard = none) {N : Tmp} (_hd : o.dst = some N) (x : Operand) (src dst e : TypeId) (ho : o.op = .convert src dst x) (s : ByteArray) (hx : a.eval x = .string s)
    {u : TypeDesc} (hs : P.underlying src = some u) (ht : P.underlying dst = some (.slice e)) (he : P.underlying e = some (.int .u8)) {r : List Int} (hr : conv.f s = some r)
    (h : ∀ e' w', (∃ v0_ : Value, e' = Ending.returned v0_ ∧ Kd.RM (Kd.int .u8) e w' W.heap.size (fun _ => True) v0_ r ∧ Below W.heap.size W w') → ∃ v, e' = .returned v ∧ wpList P ops Q rest (a.put o.dst v) w') : wpList P ops Q (o :: rest) a W := by
  unfold conv.f at hr
  split at hr
  · rename_i hsz
    obtain rfl := Option.some.inj hr
    obtain ⟨v, hv, hk⟩ := h _ _ ⟨_, rfl, Kd.RM_mono (conv_RM W e s hsz) (fun _ _ => trivial), bytes_below (Below.refl _ _) (Nat.le_refl _) e s⟩
    obtain rfl := Ending.returned.inj hv
    have hb := print_bytes (P := P) src dst e hs ht he s W
    refine wpList_plain hgd fun K hK => ?_
    unfold Oper.wp
    have hrun : (execOp a.eval o).run P W = .ok (.value (.slice (some ⟨W.heap.size, 0, none⟩) s.size (grownCap W s.size 0 e))) (Lib.bytesWorld W e s) := by simp [execOp, ho, hx, hb]
    rw [hrun]
    exact hK _ _ hk
  · cases hr
end
end Go.Proofs.YtbkodnhnadkhdaaW.PrintMore
