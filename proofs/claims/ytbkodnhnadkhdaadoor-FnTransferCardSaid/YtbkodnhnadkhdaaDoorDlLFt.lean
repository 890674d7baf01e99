/- What impl.weakAll makes of a text: the weak sum of every cut; both ways of looking for blocks give the same tokens. Condition: at most 20000 bytes; a right signature. -/
import Derived.Test.YtbkodnhnadkhdaaDoorPFtx2
import Derived.Test.YtbkodnhnadkhdaaDoorSumsFt
import Derived.Test.YtbkodnhnadkhdaaDoorWeakFt
import Derived.Test.YtbkodnhnadkhdaaDoorStrV
import Derived.Test.YtbkodnhnadkhdaaDoorPFtx0
import Derived.Test.YtbkodnhnadkhdaaDoorPFtx6
import Derived.Test.YtbkodnhnadkhdaaDoorSigOkFt
import Derived.Test.YtbkodnhnadkhdaaDoorRecSigFt
section
/- What impl.weakAll makes of a text: the weak sum of every cut; both ways of looking for blocks give the same tokens. Condition: at most 20000 bytes; a right signature. -/
namespace Go.Proofs.YtbkodnhnadkhdaaDoor.DlP
open Go Go.RowKit Go.Proofs.YtbkodnhnadkhdaaDoor.PFt Go.Proofs.YtbkodnhnadkhdaaDoorW.PrintWords Go.Proofs.YtbkodnhnadkhdaaDoorW.PrintMore Go.Proofs.YtbkodnhnadkhdaaDoor.Arith Go.Proofs.YtbkodnhnadkhdaaDoor.Lib Go.Proofs.YtbkodnhnadkhdaaDoor.Sums
set_option linter.unusedVariables false
set_option linter.unusedSimpArgs false
theorem pair_lo (a b : Int) : pair a b % 65536 = a % 65536 := by unfold pair; omega
theorem pair_hi (a b : Int) : pair a b / 65536 = b % 65536 := by unfold pair; omega
theorem pair_mod {a b a' b' : Int} (ha : a % 65536 = a' % 65536) (hb : b % 65536 = b' % 65536) : pair a b = pair a' b' := by unfold pair; rw [ha, hb]
theorem roll_pair (A B n o i : Int) (h1 : 1 ≤ n ∧ n ≤ 20000) (h2 : 0 ≤ o ∧ o ≤ 255) (h3 : 0 ≤ i ∧ i ≤ 255) : impl_roll.f (pair A B) n o i = some (pair (A - o + i) (B - n * o + (A - o + i))) := by
  have hp := pair_range A B
  have hm0 : 0 ≤ n * o := Int.mul_nonneg (by omega) h2.1
  have hm1 : n * o ≤ 20000 * 255 := Int.mul_le_mul h1.2 h2.2 h2.1 (by omega)
  unfold impl_roll.f
  rw [halves_eq _ hp.1 hp.2, Option.bind_some, weak_eq, Option.bind_some, pair_lo, pair_hi]
  generalize n * o = p at hm0 hm1 ⊢
  rw [w64 (x := i - o) (by omega) (by omega), w64 (x := p) (by omega) (by omega), w64 (x := A % 65536 + (i - o)) (by omega) (by omega), w64 (x := B % 65536 - p) (by omega) (by omega), w64 (by omega) (by omega)]
  congr 1
  exact pair_mod (by omega) (by omega)
theorem wa_snoc (m : List Int) (y : Int) : Weak.wa (m ++ [y]) = Weak.wa m + y := by
  induction m with
  | nil => simp [Weak.wa]
  | cons x m ih => simp only [List.cons_append, Weak.wa, ih]; omega
theorem wb_snoc (m : List Int) (y : Int) : Weak.wb (m ++ [y]) = Weak.wb m + Weak.wa m + y := by
  induction m with
  | nil => simp [Weak.wb, Weak.wa]
  | cons x m ih =>
    simp only [List.cons_append, Weak.wb, Weak.wa, ih, List.length_append, List.length_singleton]
    rw [Int.natCast_add, Int.natCast_one, Int.add_mul, Int.add_mul, Int.one_mul]
    omega
theorem cut_bytes (s : ByteArray) (i n : Nat) (hn : 1 ≤ n) (h : i + n < s.size) : ∃ m : List Int, m.length + 1 = n ∧ bytesOf (s.extract i (i + n)) = bt s (i : Int) :: m ∧ bytesOf (s.extract (i + 1) (i + 1 + n)) = m ++ [bt s ((i + n : Nat) : Int)] := by
  have hl := bytesOf_length s
  refine ⟨((bytesOf s).take (i + n)).drop (i + 1), ?_, ?_, ?_⟩
  · rw [List.length_drop, List.length_take]; omega
  · rw [extract_bytesOf, List.drop_take, drop_bt s i (by omega), List.drop_take, show i + n - i = (n - 1) + 1 by omega, List.take_succ_cons, show i + n - (i + 1) = n - 1 by omega]
  · have hd := drop_bt s (i + n) (by omega)
    have he : (bytesOf s).take (i + n + 1) = (bytesOf s).take (i + n) ++ [bt s ((i + n : Nat) : Int)] := by
      rw [List.take_succ_eq_append_getElem (by omega)]
      congr 2
      rw [List.drop_eq_getElem_cons (by omega)] at hd
      injection hd
    rw [extract_bytesOf, show i + 1 + n = i + n + 1 by omega, he, List.drop_append_of_le_length (by rw [List.length_take]; omega)]
/-- The weak sum of a cut moved by one. -/
theorem roll_cut (s : ByteArray) (i n : Nat) (hn : 1 ≤ n) (hs : s.size ≤ 20000) (h : i + n < s.size) : impl_roll.f (Weak.weakOf (s.extract i (i + n))) n (bt s (i : Int)) (bt s ((i + n : Nat) : Int)) = some (Weak.weakOf (s.extract (i + 1) (i + 1 + n))) := by
  obtain ⟨m, hm, h1, h2⟩ := cut_bytes s i n hn h
  have b1 := bt_range s (i : Int)
  have b2 := bt_range s ((i + n : Nat) : Int)
  unfold Weak.weakOf
  rw [h1, h2, roll_pair _ _ _ _ _ (by omega) (by omega) (by omega), wa_snoc, wb_snoc]
  simp only [Weak.wa, Weak.wb]
  rw [show ((m.length : Int) + 1) = (n : Int) by omega]
  generalize (n : Int) * bt s (i : Int) = p
  congr 1
  exact pair_mod (by omega) (by omega)
/-- The weak sums of all cuts of n bytes. -/
def sums (s : ByteArray) (n : Nat) : List Int := if n = 0 ∨ s.size < n then [] else (List.range (s.size + 1 - n)).map fun i => Weak.weakOf (s.extract i (i + n))
def sumsTo (s : ByteArray) (n m : Nat) : List Int := (List.range m).map fun i => Weak.weakOf (s.extract i (i + n))
theorem sumsTo_len (s : ByteArray) (n m : Nat) : (sumsTo s n m).length = m := by simp [sumsTo]
theorem sumsTo_rd (s : ByteArray) (n m i : Nat) (h : i < m) : rd (sumsTo s n m) (i : Int) = Weak.weakOf (s.extract i (i + n)) := by
  rw [rd_lt _ _ (by rw [sumsTo_len]; exact h)]; simp [sumsTo]
theorem sumsTo_succ (s : ByteArray) (n m : Nat) : sumsTo s n (m + 1) = sumsTo s n m ++ [Weak.weakOf (s.extract m (m + n))] := by
  unfold sumsTo; rw [List.range_succ, List.map_append]; rfl
theorem all_loop (s : ByteArray) (n : Nat) (hn : 1 ≤ n) (hs : s.size ≤ 20000) (d : Nat) : ∀ i : Nat, i + d = s.size → n ≤ i → Ev (fun k => impl_weakAll.l0 k s n (sumsTo s n (i - n + 1)) i) (sumsTo s n (s.size + 1 - n)) := by
  induction d with
  | zero =>
    intro i h hi
    refine ev_at fun k => ?_
    simp only [impl_weakAll.l0]
    rw [if_neg (by omega), show i - n + 1 = s.size + 1 - n by omega]
  | succ d ih =>
    intro i h hi
    have e : wrap64 ((i : Int) - (n : Int)) = ((i - n : Nat) : Int) := by rw [w64 (by omega) (by omega)]; omega
    have hr := roll_cut s (i - n) n hn hs (by omega)
    rw [show i - n + n = i by omega] at hr
    have := ih (i + 1) (by omega) (by omega)
    refine Ev.step (f := fun k => impl_weakAll.l0 k s n (sumsTo s n (i + 1 - n + 1)) ((i + 1 : Nat) : Int)) (fun k => ?_) this
    simp only [impl_weakAll.l0]
    rw [e, if_pos (by omega), if_pos (by omega), sumsTo_len, if_pos (by omega), if_pos (by omega), if_pos (by omega), sumsTo_rd s n _ _ (by omega), show i - n + n = i by omega, w64b, w64b, hr, Option.bind_some, if_pos (by omega), w64s i (by omega), show i + 1 - n + 1 = (i - n + 1) + 1 by omega, sumsTo_succ s n (i - n + 1)]
theorem all_ev (s : ByteArray) (n : Nat) (hs : s.size ≤ 20000) : Ev (fun k => impl_weakAll.f k s n) (sums s n) := by
  unfold impl_weakAll.f sums
  by_cases h : n = 0
  · subst h
    simp only [if_pos (show ((0 : Nat) : Int) < 1 by omega)]
    simp only [true_or, if_true]
    exact ev_at fun k => by simp [impl_weakAll.j0]
  simp only [if_neg (show ¬ (n : Int) < 1 by omega)]
  by_cases h2 : s.size < n
  · rw [if_pos (Or.inr h2), decide_eq_true (show (s.size : Int) < (n : Int) by omega)]
    exact ev_at fun k => by simp [impl_weakAll.j0]
  rw [if_neg (by omega), decide_eq_false (show ¬ (s.size : Int) < (n : Int) by omega)]
  have him := Weak.impl_ev (s.extract 0 n) (by rw [ByteArray.size_extract]; omega)
  have hl := all_loop s n (by omega) hs (s.size - n) n (by omega) (by omega)
  rw [show n - n + 1 = 1 by omega, show sumsTo s n 1 = [Weak.weakOf (s.extract 0 (0 + n))] from rfl, Nat.zero_add] at hl
  refine Ev.step (f := fun k => (impl_weakOf.f k (s.extract 0 n)).bind fun t => impl_weakAll.l0 k s n [t] n) (fun k => ?_) (Ev.bind him hl)
  simp only [impl_weakAll.j0]
  rw [if_neg (by simp), if_pos (by omega), if_pos (by omega), Int.toNat_natCast]
theorem sums_len (s : ByteArray) (n : Nat) : (sums s n).length = if n = 0 ∨ s.size < n then 0 else s.size + 1 - n := by
  unfold sums
  by_cases h : n = 0 ∨ s.size < n
  · rw [if_pos h, if_pos h]; rfl
  · rw [if_neg h, if_neg h]; simp
theorem sums_rd (s : ByteArray) (n i : Nat) (hn : 1 ≤ n) (h : i + n ≤ s.size) : rd (sums s n) (i : Int) = Weak.weakOf (s.extract i (i + n)) := by
  unfold sums
  rw [if_neg (by omega)]
  exact sumsTo_rd s n _ i (by omega)
theorem weak_range (s : ByteArray) : 0 ≤ Weak.weakOf s ∧ Weak.weakOf s < 4294967296 := pair_range _ _
theorem sums_range (s : ByteArray) (n : Nat) : ∀ x ∈ sums s n, 0 ≤ x ∧ x < 4294967296 := fun x hx => by
  unfold sums at hx
  split at hx
  · cases hx
  · obtain ⟨i, _, rfl⟩ := List.mem_map.1 hx
    exact weak_range _
end Go.Proofs.YtbkodnhnadkhdaaDoor.DlP
end

section
/- Both ways of looking for blocks give the same tokens: what impl.delta and spec.DeltaOf make of a text. Condition: a right signature; at most 20000 bytes. -/
namespace Go.Proofs.YtbkodnhnadkhdaaDoor.DlQ
open Go Go.RowKit Go.Proofs.YtbkodnhnadkhdaaDoor.PFt Go.Proofs.YtbkodnhnadkhdaaDoorW.PrintWords Go.Proofs.YtbkodnhnadkhdaaDoorW.PrintMore Go.Proofs.YtbkodnhnadkhdaaDoor.Arith Go.Proofs.YtbkodnhnadkhdaaDoor.Lib Go.Proofs.YtbkodnhnadkhdaaDoor.Sums Go.Proofs.YtbkodnhnadkhdaaDoor.DlP
set_option linter.unusedVariables false
set_option linter.unusedSimpArgs false
/-- Both sums of the first n bytes of what is left at place i. -/
def two (sd : Int) (s : ByteArray) (n i : Nat) : Int × ByteArray := if i + n ≤ s.size then (Weak.weakOf (s.extract i (i + n)), Str.shortOf sd (s.extract i (i + n)) 4) else (0, ⟨#[]⟩)
theorem cut_cut (s : ByteArray) (i n : Nat) : (s.extract i s.size).extract 0 n = s.extract i (min (i + n) s.size) := by
  apply bytesOf_inj
  rw [extract_bytesOf, extract_bytesOf, extract_bytesOf, List.drop_zero, ← bytesOf_length, List.take_length, List.take_drop]
  by_cases h : i + n ≤ (bytesOf s).length
  · rw [Nat.min_eq_left h]
  · rw [Nat.min_eq_right (by omega), List.take_of_length_le (by omega), List.take_length]
section
variable (sz rs : Nat) (wk : List Int) (st : List ByteArray) (sd : Int) (s : ByteArray)
def F (i : Nat) : Int → Bool := fun q => impl_delta.fits sz rs wk st sd s (sums s sz) (sums s rs) q i
theorem one_side (hwe : wk.length = st.length) (h4 : ∀ t ∈ st, t.size = 4) (hs : s.size ≤ 20000) (i n : Nat) (hn : 1 ≤ n) (hn2 : n ≤ 256) (hi : i ≤ s.size) (q : Int) (hq0 : 0 ≤ q) (hq : q < (wk.length : Int)) :
    (if (i : Int) < ((sums s n).length : Int) then (if rd (sums s n) (i : Int) = rd wk q then ((Str.shortOf sd (s.extract (i : Int).toNat (wrap64 ((i : Int) + (n : Int))).toNat) 4).toList == (rdOf ByteArray.empty st q).toList) else false) else false) =
    (if (two sd s n i).1 = rd wk q then ((two sd s n i).2.toList == (rdOf ByteArray.empty st q).toList) else false) := by
  have hw : wrap64 ((i : Int) + (n : Int)) = ((i + n : Nat) : Int) := by rw [w64 (by omega) (by omega)]; omega
  rw [hw, Int.toNat_natCast, Int.toNat_natCast, sums_len]
  unfold two
  by_cases h : i + n ≤ s.size
  · rw [if_neg (show ¬ (n = 0 ∨ s.size < n) by omega), if_pos (show (i : Int) < ((s.size + 1 - n : Nat) : Int) by omega), sums_rd s n i hn h, if_pos h]
  · rw [if_neg (show ¬ (i : Int) < (((if n = 0 ∨ s.size < n then 0 else s.size + 1 - n) : Nat) : Int) by split <;> omega), if_neg h]
    have hm : rdOf ByteArray.empty st q ∈ st := by
      obtain ⟨j, rfl⟩ := Int.eq_ofNat_of_zero_le hq0
      have hj : j < st.length := by omega
      unfold rdOf
      simp only [Int.toNat_natCast, List.getD_eq_getElem?_getD, List.getElem?_eq_getElem hj, Option.getD_some]
      exact List.getElem_mem hj
    have hz4 := h4 _ hm
    have hne : ((⟨#[]⟩ : ByteArray).toList == (rdOf ByteArray.empty st q).toList) = false := by
      rw [beq_eq_false_iff_ne]
      intro e
      have := toList_inj e
      rw [← this] at hz4
      exact absurd hz4 (by decide)
    rw [hne]
    split <;> rfl
/-- Which list the fitting block stands in. -/
theorem fits_idx (i : Nat) (q : Int) (hq0 : 0 ≤ q) (h : F sz rs wk st sd s i q = true) : (((i : Int) < ((sums s sz).length : Int) ∧ q ∈ impl_delta.idx wk (rd (sums s sz) i) wk.length) ∨ ((i : Int) < ((sums s rs).length : Int) ∧ q ∈ impl_delta.idx wk (rd (sums s rs) i) wk.length)) := by
  have key : ∀ L : List Int, (if (i : Int) < (L.length : Int) then (if rd L (i : Int) = rd wk q then ((Str.shortOf sd (s.extract (i : Int).toNat (wrap64 ((i : Int) + impl_delta.long sz rs wk.length q)).toNat) 4).toList == (rdOf ByteArray.empty st q).toList) else false) else false) = true → q < (wk.length : Int) → (i : Int) < (L.length : Int) ∧ q ∈ impl_delta.idx wk (rd L i) wk.length := fun L hL hq => by
    by_cases h1 : (i : Int) < (L.length : Int)
    · rw [if_pos h1] at hL
      by_cases h2 : rd L (i : Int) = rd wk q
      · refine ⟨h1, ?_⟩
        rw [h2]
        obtain ⟨j, rfl⟩ := Int.eq_ofNat_of_zero_le hq0
        unfold impl_delta.idx
        refine List.mem_map.2 ⟨j, List.mem_filter.2 ⟨List.mem_range.2 (by omega), ?_⟩, rfl⟩
        unfold rd; simp
      · rw [if_neg h2] at hL; cases hL
    · rw [if_neg h1] at hL; cases hL
  unfold F impl_delta.fits at h
  by_cases hq : q ≥ (wk.length : Int)
  · rw [if_pos hq] at h; cases h
  rw [if_neg hq] at h
  by_cases hl : impl_delta.long sz rs wk.length q = sz
  · simp only [if_pos hl] at h; exact .inl (key _ h (by omega))
  · simp only [if_neg hl] at h; exact .inr (key _ h (by omega))
end
/-! ### the least block that fits -/
theorem pick_least (G : Int → Bool) : ∀ (l : List Int) (b : Int), (∀ q ∈ l, 0 ≤ q) → (0 ≤ b → 0 ≤ impl_delta.pick G l b ∧ impl_delta.pick G l b ≤ b) ∧ (∀ q ∈ l, G q = true → 0 ≤ impl_delta.pick G l b ∧ impl_delta.pick G l b ≤ q)
  | [], b, _ => ⟨fun h => ⟨h, Int.le_refl _⟩, fun q hq => by cases hq⟩
  | q :: l, b, h0 => by
    have hq := h0 q (List.mem_cons_self)
    have h1 : ∀ x ∈ l, 0 ≤ x := fun x hx => h0 x (List.mem_cons_of_mem _ hx)
    simp only [impl_delta.pick]
    by_cases hc : (b < 0 ∨ q < b) ∧ G q = true
    · rw [if_pos hc]
      obtain ⟨g1, g2⟩ := pick_least G l q h1
      have := g1 hq
      refine ⟨fun hb => by omega, fun x hx hG => ?_⟩
      rcases List.mem_cons.1 hx with rfl | hx
      · exact this
      · exact g2 x hx hG
    · rw [if_neg hc]
      obtain ⟨g1, g2⟩ := pick_least G l b h1
      refine ⟨g1, fun x hx hG => ?_⟩
      rcases List.mem_cons.1 hx with rfl | hx
      · have hb : 0 ≤ b ∧ b ≤ x := by
          refine ⟨?_, ?_⟩
          · exact Int.not_lt.1 (fun h => hc ⟨.inl h, hG⟩)
          · exact Int.not_lt.1 (fun h => hc ⟨.inr h, hG⟩)
        have := g1 hb.1
        omega
      · exact g2 x hx hG
theorem pick_minus (G : Int → Bool) : ∀ (l : List Int) (b : Int), (∀ q ∈ l, 0 ≤ q) → b = -1 → ¬ 0 ≤ impl_delta.pick G l b → impl_delta.pick G l b = -1
  | [], b, _, hb, _ => hb
  | q :: l, b, h0, hb, hn => by
    simp only [impl_delta.pick] at hn ⊢
    by_cases hc : (b < 0 ∨ q < b) ∧ G q = true
    · rw [if_pos hc] at hn
      exact absurd ((pick_least G l q (fun x hx => h0 x (List.mem_cons_of_mem _ hx))).1 (h0 q List.mem_cons_self)).1 hn
    · rw [if_neg hc] at hn ⊢
      exact pick_minus G l b (fun x hx => h0 x (List.mem_cons_of_mem _ hx)) hb hn
theorem drop_more (s : ByteArray) (i n : Nat) (h : i + n ≤ s.size) : (s.extract i s.size).extract n (s.extract i s.size).size = s.extract (i + n) s.size := by
  apply bytesOf_inj
  rw [extract_bytesOf, extract_bytesOf, extract_bytesOf, ← bytesOf_length (s.extract i s.size), extract_bytesOf, ← bytesOf_length s, List.take_length, List.take_length, List.drop_drop]
theorem first_byte (s : ByteArray) (i : Nat) (h : i + 1 ≤ s.size) : (s.extract i s.size).extract 0 1 = s.extract i (i + 1) := by rw [cut_cut, Nat.min_eq_left h]
theorem step_len (sz rs : Int) (wk : List Int) (st : List ByteArray) (sd : Int) (s : ByteArray) (A B : List Int) (i : Int) (l : List S94) : (impl_delta.step sz rs wk st sd s A B i l).2.length ≤ l.length + 1 := by
  have hset : ∀ x, (impl_delta.set l x).length ≤ l.length + 1 := fun x => by unfold impl_delta.set; rw [List.length_set]; omega
  simp only [impl_delta.step]
  split
  · exact hset _
  · split
    · simp
    · split
      · exact hset _
      · simp
theorem run_len (sz rs : Int) (wk : List Int) (st : List ByteArray) (sd : Int) (s : ByteArray) (A B : List Int) (d : Nat) : ∀ (i : Int) (l : List S94), (impl_delta.run sz rs wk st sd s A B d i l).length ≤ l.length + d := by
  induction d with
  | zero => intro i l; exact Nat.le_refl _
  | succ d ih =>
    intro i l
    simp only [impl_delta.run]
    split
    · have h1 := ih (impl_delta.step sz rs wk st sd s A B i l).1 (impl_delta.step sz rs wk st sd s A B i l).2
      have h2 := step_len sz rs wk st sd s A B i l
      omega
    · omega
section
variable (sz rs : Nat) (wk : List Int) (st : List ByteArray) (sd : Int) (s : ByteArray)
theorem fits_room (hz : 1 ≤ sz) (i : Nat) (q : Int) (h : F sz rs wk st sd s i q = true) : ∃ n : Nat, impl_delta.long sz rs wk.length q = (n : Int) ∧ 1 ≤ n ∧ n ≤ max sz rs ∧ i + n ≤ s.size := by
  have hlt := impl_delta.fits_lt h
  unfold F impl_delta.fits at h
  rw [if_neg (by omega)] at h
  have hL : ∃ n : Nat, impl_delta.long sz rs wk.length q = (n : Int) ∧ 1 ≤ n ∧ n ≤ max sz rs ∧ (if impl_delta.long sz rs wk.length q = (sz : Int) then sums s sz else sums s rs) = sums s n := by
    unfold impl_delta.long
    by_cases h1 : (rs : Int) > 0
    · by_cases h2 : q = wrap64 ((wk.length : Int) - 1)
      · rw [if_pos h1, if_pos h2]
        refine ⟨rs, rfl, by omega, Nat.le_max_right _ _, ?_⟩
        by_cases h3 : (rs : Int) = (sz : Int)
        · rw [if_pos h3, show rs = sz by omega]
        · rw [if_neg h3]
      · rw [if_pos h1, if_neg h2, if_pos rfl]; exact ⟨sz, rfl, hz, Nat.le_max_left _ _, rfl⟩
    · rw [if_neg h1, if_pos rfl]; exact ⟨sz, rfl, hz, Nat.le_max_left _ _, rfl⟩
  obtain ⟨n, e1, e2, e4, e3⟩ := hL
  refine ⟨n, e1, e2, e4, ?_⟩
  rw [e3] at h
  by_cases hl : (i : Int) < ((sums s n).length : Int)
  · rw [sums_len] at hl
    split at hl <;> omega
  · rw [if_neg hl] at h; cases h
theorem nl1 {a i n d : Nat} (h : a ≤ i + (d + 1)) (hn : 1 ≤ n) : a ≤ i + n + d := by omega
theorem nl2 {a i n z : Nat} (e : z = a - i) (h : i + n ≤ a) : (n : Int) ≤ (z : Int) := by omega
theorem nl3 {a i n : Nat} (h : i + n ≤ a) (ha : a ≤ 20000) : wrap64 ((i : Int) + (n : Int)) = ((i + n : Nat) : Int) := by rw [w64 (by omega) (by omega)]; omega
theorem nl4 {x y nx : Int} {n : Nat} (h : 0 ≤ x ∧ 0 ≤ y ∧ x + y ≤ (n : Int)) (hn : n ≤ 2500) (e : nx = x + y) (hl : nx < (n : Int)) : 0 ≤ x ∧ 0 ≤ wrap64 (y + 1) ∧ x + wrap64 (y + 1) ≤ (n : Int) := by
  rw [impl_delta.w2 (by omega)]; omega
theorem nl5 {x y nx : Int} {n : Nat} (h : 0 ≤ x ∧ 0 ≤ y ∧ x + y ≤ (n : Int)) (hn : n ≤ 2500) (e : nx = wrap64 (x + y)) : nx = x + y ∧ 0 ≤ nx := by
  rw [impl_delta.w2 (by omega)] at e; omega
end
end Go.Proofs.YtbkodnhnadkhdaaDoor.DlQ
end

section
/- The law on DeltaOf returns true at every signature, seed and text: its plain statement and its walk. No condition. -/
namespace Go.Proofs.YtbkodnhnadkhdaaDoor.DlL
open Go Go.RowKit Go.Proofs.YtbkodnhnadkhdaaDoor.PFt Go.Proofs.YtbkodnhnadkhdaaDoorW.PrintWords Go.Proofs.YtbkodnhnadkhdaaDoorW.PrintMore Go.Proofs.YtbkodnhnadkhdaaDoor.Arith Go.Proofs.YtbkodnhnadkhdaaDoor.Lib Go.Proofs.YtbkodnhnadkhdaaDoor.RecSig Go.Proofs.YtbkodnhnadkhdaaDoor.DlP
set_option linter.unusedVariables false
set_option linter.unusedSimpArgs false
def delta (a b : Int) (l : List Int) (m : List ByteArray) (sd : Int) (s : ByteArray) : List S94 := impl_delta.run a b l m sd s (sums s a.toNat) (sums s b.toNat) s.size 0 []
def deltaOf (a b : Int) (l : List Int) (m : List ByteArray) (sd : Int) (s : ByteArray) : List S94 := if SigOk.sigOk a b l m = true then (if s.size > 20000 then [] else delta a b l m sd s) else []
theorem delta_len (a b : Int) (l : List Int) (m : List ByteArray) (sd : Int) (s : ByteArray) (h : s.size ≤ 20000) : (delta a b l m sd s).length ≤ 20000 := by
  have := DlQ.run_len a b l m sd s (sums s a.toNat) (sums s b.toNat) s.size 0 []
  unfold delta
  simp at this
  omega
theorem len (a b : Int) (l : List Int) (m : List ByteArray) (sd : Int) (s : ByteArray) : (deltaOf a b l m sd s).length ≤ 20000 := by
  unfold deltaOf
  split
  · split
    · simp
    · exact delta_len a b l m sd s (by omega)
  · simp
theorem impl_delta_ev (a b : Int) (l : List Int) (m : List ByteArray) (sd : Int) (s : ByteArray) (h1 : 1 ≤ a ∧ a ≤ 256) (h2 : 0 ≤ b ∧ b < a) (h3 : l.length ≤ 2500) (h4 : l.length = m.length) (hsd : 0 ≤ sd ∧ sd < 4294967296) (hs : s.size ≤ 20000) (hw : ∀ y ∈ l, 0 ≤ y ∧ y < 4294967296) : Ev (fun k => impl_delta.f k a b l m sd s) (delta a b l m sd s) := by
  obtain ⟨x, rfl⟩ := Int.eq_ofNat_of_zero_le (show 0 ≤ a by omega)
  obtain ⟨y, rfl⟩ := Int.eq_ofNat_of_zero_le h2.1
  unfold impl_delta.f delta
  rw [Int.toNat_natCast, Int.toNat_natCast]
  refine Ev.bind (all_ev s x hs) (Ev.bind (all_ev s y hs) ?_)
  have hz : ∀ n : Nat, (sums s n = [] ∨ ((sums s n).length : Int) + (n : Int) ≤ s.size + 1) := fun n => by
    rw [sums_len]
    by_cases h : n = 0 ∨ s.size < n
    · left; unfold sums; rw [if_pos h]
    · right; rw [if_neg h]; omega
  have hok : impl_delta.ok x y l m sd s (sums s x) (sums s y) = true := by
    unfold impl_delta.ok
    rw [Bool.and_eq_true, decide_eq_true_eq, List.all_eq_true]
    refine ⟨⟨h1.1, h1.2, h2.1, h2.2, h3, h4, hsd, hs, hz x, hz y⟩, fun z hz => ?_⟩
    rw [decide_eq_true_eq]
    rcases List.mem_append.1 hz with h | h
    · exact hw z h
    · rcases List.mem_append.1 h with h | h
      · exact sums_range s x z h
      · exact sums_range s y z h
  simp only [hok, if_true]
  exact Ev.now _
theorem facts {a b : Int} {l : List Int} {m : List ByteArray} (h : SigOk.sigOk a b l m = true) : (1 ≤ a ∧ a ≤ 256) ∧ (0 ≤ b ∧ b < a) ∧ l.length ≤ 2500 ∧ l.length = m.length ∧ ∀ t ∈ m, t.size = 4 := by
  unfold SigOk.sigOk isCut at h
  simp only [Bool.and_eq_true, decide_eq_true_eq] at h
  obtain ⟨⟨⟨⟨⟨h1, h2, h3, h4, h5⟩, h6⟩, h7⟩, _⟩, _⟩ := h
  refine ⟨⟨h1, h2⟩, ⟨h3, by omega⟩, h5, h6, fun t ht => ?_⟩
  have := List.all_eq_true.1 h7 t ht
  unfold SigOk.four at this
  have := of_decide_eq_true this
  omega
theorem u32 {a : Int} (ha : (Lit.int .u32 a).wf = true) : 0 ≤ a ∧ a < 4294967296 := by
  simp [Lit.wf, IntKind.min, IntKind.max, IntKind.signed, IntKind.bits] at ha; omega
end Go.Proofs.YtbkodnhnadkhdaaDoor.DlL
end
