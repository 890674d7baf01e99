/- What impl.weakAll makes of a text: the weak sum of every cut; both ways of looking for blocks give the same tokens. Condition: at most 20000 bytes; a right signature. -/
import Derived.Test.YtbkodnhnadkhdaaDoorPTrx3
import Derived.Test.YtbkodnhnadkhdaaDoorPTrx12
import Derived.Test.YtbkodnhnadkhdaaDoorSumsTr
import Derived.Test.YtbkodnhnadkhdaaDoorWeakTr
import Derived.Test.YtbkodnhnadkhdaaDoorStrV
import Derived.Test.YtbkodnhnadkhdaaDoorPTrx0
import Derived.Test.YtbkodnhnadkhdaaDoorPTrx5
import Derived.Test.YtbkodnhnadkhdaaDoorPTrx8
import Derived.Test.YtbkodnhnadkhdaaDoorPTrx9
import Derived.Test.YtbkodnhnadkhdaaDoorPTrx10
import Derived.Test.YtbkodnhnadkhdaaDoorPTrx11
import Derived.Test.YtbkodnhnadkhdaaDoorSigOkTr
import Derived.Test.YtbkodnhnadkhdaaDoorRecSigTr
section
/- What impl.weakAll makes of a text: the weak sum of every cut; both ways of looking for blocks give the same tokens. Condition: at most 20000 bytes; a right signature. -/
namespace Go.Proofs.YtbkodnhnadkhdaaDoor.DlP
open Go Go.RowKit Go.Proofs.YtbkodnhnadkhdaaDoor.PTr Go.Proofs.YtbkodnhnadkhdaaDoorW.PrintWords Go.Proofs.YtbkodnhnadkhdaaDoorW.PrintMore Go.Proofs.YtbkodnhnadkhdaaDoor.Arith Go.Proofs.YtbkodnhnadkhdaaDoor.Lib Go.Proofs.YtbkodnhnadkhdaaDoor.Sums
set_option linter.unusedVariables false
set_option linter.unusedSimpArgs false
theorem pair_lo (a b : Int) : pair a b % 65536 = a % 65536 := by unfold pair; omega
theorem pair_hi (a b : Int) : pair a b / 65536 = b % 65536 := by unfold pair; omega
theorem pair_mod {a b a' b' : Int} (ha : a % 65536 = a' % 65536) (hb : b % 65536 = b' % 65536) : pair a b = pair a' b' := by unfold pair; rw [ha, hb]
theorem roll_pair (A B n o i : Int) (h1 : 1 ≤ n ∧ n ≤ 20000) (h2 : 0 ≤ o ∧ o ≤ 255) (h3 : 0 ≤ i ∧ i ≤ 255) : impl_roll.f (pair A B) n o i = some (pair (A - o + i) (B - n * o + (A - o + i))) := by
 have hp := pair_range A B
 have hm0 : 0 ≤ n * o := Int.mul_nonneg (by omega) h2.1
 have hm1 : n * o ≤ 20000 * 255 := Int.mul_le_mul h1.2 h2.2 h2.1 (by omega)
 unfold impl_roll.f
 rw [halves_eq _ hp.1 hp.2, Option.bind_some, weak_eq, Option.bind_some, pair_lo, pair_hi]
 generalize n * o = p at hm0 hm1 ⊢
 rw [w64 (x := i - o) (by omega) (by omega), w64 (x := p) (by omega) (by omega), w64 (x := A % 65536 + (i - o)) (by omega) (by omega), w64 (x := B % 65536 - p) (by omega) (by omega), w64 (by omega) (by omega)]
 congr 1
 exact pair_mod (by omega) (by omega)
theorem wa_snoc (m : List Int) (y : Int) : Weak.wa (m ++ [y]) = Weak.wa m + y := by
 induction m with
 | nil => simp [Weak.wa]
 | cons x m ih => simp only [List.cons_append, Weak.wa, ih]; omega
theorem wb_snoc (m : List Int) (y : Int) : Weak.wb (m ++ [y]) = Weak.wb m + Weak.wa m + y := by
 induction m with
 | nil => simp [Weak.wb, Weak.wa]
 | cons x m ih =>
  simp only [List.cons_append, Weak.wb, Weak.wa, ih, List.length_append, List.length_singleton]
  rw [Int.natCast_add, Int.natCast_one, Int.add_mul, Int.add_mul, Int.one_mul]
  omega
theorem cut_bytes (s : ByteArray) (i n : Nat) (hn : 1 ≤ n) (h : i + n < s.size) : ∃ m : List Int, m.length + 1 = n ∧ bytesOf (s.extract i (i + n)) = bt s (i : Int) :: m ∧ bytesOf (s.extract (i + 1) (i + 1 + n)) = m ++ [bt s ((i + n : Nat) : Int)] := by
 have hl := bytesOf_length s
 refine ⟨((bytesOf s).take (i + n)).drop (i + 1), ?_, ?_, ?_⟩
 ·
  rw [List.length_drop, List.length_take]; omega
 ·
  rw [extract_bytesOf, List.drop_take, drop_bt s i (by omega), List.drop_take, show i + n - i = (n - 1) + 1 by omega, List.take_succ_cons, show i + n - (i + 1) = n - 1 by omega]
 ·
  have hd := drop_bt s (i + n) (by omega)
  have he : (bytesOf s).take (i + n + 1) = (bytesOf s).take (i + n) ++ [bt s ((i + n : Nat) : Int)] := by
   rw [List.take_succ_eq_append_getElem (by omega)]
   congr 2
   rw [List.drop_eq_getElem_cons (by omega)] at hd
   injection hd
  rw [extract_bytesOf, show i + 1 + n = i + n + 1 by omega, he, List.drop_append_of_le_length (by rw [List.length_take]; omega)]
/-- The weak sum of a cut moved by one. -/
theorem roll_cut (s : ByteArray) (i n : Nat) (hn : 1 ≤ n) (hs : s.size ≤ 20000) (h : i + n < s.size) : impl_roll.f (Weak.weakOf (s.extract i (i + n))) n (bt s (i : Int)) (bt s ((i + n : Nat) : Int)) = some (Weak.weakOf (s.extract (i + 1) (i + 1 + n))) := by
 obtain ⟨m, hm, h1, h2⟩ := cut_bytes s i n hn h
 have b1 := bt_range s (i : Int)
 have b2 := bt_range s ((i + n : Nat) : Int)
 unfold Weak.weakOf
 rw [h1, h2, roll_pair _ _ _ _ _ (by omega) (by omega) (by omega), wa_snoc, wb_snoc]
 simp only [Weak.wa, Weak.wb]
 rw [show ((m.length : Int) + 1) = (n : Int) by omega]
 generalize (n : Int) * bt s (i : Int) = p
 congr 1
 exact pair_mod (by omega) (by omega)
/-- The weak sums of all cuts of n bytes. -/
def sums (s : ByteArray) (n : Nat) : List Int := if n = 0 ∨ s.size < n then [] else (List.range (s.size + 1 - n)).map fun i => Weak.weakOf (s.extract i (i + n))
def sumsTo (s : ByteArray) (n m : Nat) : List Int := (List.range m).map fun i => Weak.weakOf (s.extract i (i + n))
theorem sumsTo_len (s : ByteArray) (n m : Nat) : (sumsTo s n m).length = m := by simp [sumsTo]
theorem sumsTo_rd (s : ByteArray) (n m i : Nat) (h : i < m) : rd (sumsTo s n m) (i : Int) = Weak.weakOf (s.extract i (i + n)) := by
 rw [rd_lt _ _ (by rw [sumsTo_len]; exact h)]; simp [sumsTo]
theorem sumsTo_succ (s : ByteArray) (n m : Nat) : sumsTo s n (m + 1) = sumsTo s n m ++ [Weak.weakOf (s.extract m (m + n))] := by
 unfold sumsTo; rw [List.range_succ, List.map_append]; rfl
theorem all_loop (s : ByteArray) (n : Nat) (hn : 1 ≤ n) (hs : s.size ≤ 20000) (d : Nat) : ∀ i : Nat, i + d = s.size → n ≤ i → Ev (fun k => impl_weakAll.l0 k s n (sumsTo s n (i - n + 1)) i) (sumsTo s n (s.size + 1 - n)) := by
 induction d with
 | zero =>
  intro i h hi
  refine ev_at fun k => ?_
  simp only [impl_weakAll.l0]
  rw [if_neg (by omega), show i - n + 1 = s.size + 1 - n by omega]
 | succ d ih =>
  intro i h hi
  have e : wrap64 ((i : Int) - (n : Int)) = ((i - n : Nat) : Int) := by rw [w64 (by omega) (by omega)]; omega
  have hr := roll_cut s (i - n) n hn hs (by omega)
  rw [show i - n + n = i by omega] at hr
  have := ih (i + 1) (by omega) (by omega)
  refine Ev.step (f := fun k => impl_weakAll.l0 k s n (sumsTo s n (i + 1 - n + 1)) ((i + 1 : Nat) : Int)) (fun k => ?_) this
  simp only [impl_weakAll.l0]
  rw [e, if_pos (by omega), if_pos (by omega), sumsTo_len, if_pos (by omega), if_pos (by omega), if_pos (by omega), sumsTo_rd s n _ _ (by omega), show i - n + n = i by omega, w64b, w64b, hr, Option.bind_some, if_pos (by omega), w64s i (by omega), show i + 1 - n + 1 = (i - n + 1) + 1 by omega, sumsTo_succ s n (i - n + 1)]
theorem all_ev (s : ByteArray) (n : Nat) (hs : s.size ≤ 20000) : Ev (fun k => impl_weakAll.f k s n) (sums s n) := by
 unfold impl_weakAll.f sums
 by_cases h : n = 0
 ·
  subst h
  simp only [if_pos (show ((0 : Nat) : Int) < 1 by omega)]
  simp only [true_or, if_true]
  exact ev_at fun k => by simp [impl_weakAll.j0]
 simp only [if_neg (show ¬ (n : Int) < 1 by omega)]
 by_cases h2 : s.size < n
 ·
  rw [if_pos (Or.inr h2), decide_eq_true (show (s.size : Int) < (n : Int) by omega)]
  exact ev_at fun k => by simp [impl_weakAll.j0]
 rw [if_neg (by omega), decide_eq_false (show ¬ (s.size : Int) < (n : Int) by omega)]
 have him := Weak.impl_ev (s.extract 0 n) (by rw [ByteArray.size_extract]; omega)
 have hl := all_loop s n (by omega) hs (s.size - n) n (by omega) (by omega)
 rw [show n - n + 1 = 1 by omega, show sumsTo s n 1 = [Weak.weakOf (s.extract 0 (0 + n))] from rfl, Nat.zero_add] at hl
 refine Ev.step (f := fun k => (impl_weakOf.f k (s.extract 0 n)).bind fun t => impl_weakAll.l0 k s n [t] n) (fun k => ?_) (Ev.bind him hl)
 simp only [impl_weakAll.j0]
 rw [if_neg (by simp), if_pos (by omega), if_pos (by omega), Int.toNat_natCast]
theorem sums_len (s : ByteArray) (n : Nat) : (sums s n).length = if n = 0 ∨ s.size < n then 0 else s.size + 1 - n := by
 unfold sums
 by_cases h : n = 0 ∨ s.size < n
 ·
  rw [if_pos h, if_pos h]; rfl
 ·
  rw [if_neg h, if_neg h]; simp
theorem sums_rd (s : ByteArray) (n i : Nat) (hn : 1 ≤ n) (h : i + n ≤ s.size) : rd (sums s n) (i : Int) = Weak.weakOf (s.extract i (i + n)) := by
 unfold sums
 rw [if_neg (by omega)]
 exact sumsTo_rd s n _ i (by omega)
theorem weak_range (s : ByteArray) : 0 ≤ Weak.weakOf s ∧ Weak.weakOf s < 4294967296 := pair_range _ _
theorem sums_range (s : ByteArray) (n : Nat) : ∀ x ∈ sums s n, 0 ≤ x ∧ x < 4294967296 := fun x hx => by
 unfold sums at hx
 split at hx
 ·
  cases hx
 ·
  obtain ⟨i, _, rfl⟩ := List.mem_map.1 hx
  exact weak_range _
end Go.Proofs.YtbkodnhnadkhdaaDoor.DlP
end

section
/- Both ways of looking for blocks give the same tokens: what impl.delta and spec.DeltaOf make of a text. Condition: a right signature; at most 20000 bytes. -/
namespace Go.Proofs.YtbkodnhnadkhdaaDoor.DlQ
open Go Go.RowKit Go.Proofs.YtbkodnhnadkhdaaDoor.PTr Go.Proofs.YtbkodnhnadkhdaaDoorW.PrintWords Go.Proofs.YtbkodnhnadkhdaaDoorW.PrintMore Go.Proofs.YtbkodnhnadkhdaaDoor.Arith Go.Proofs.YtbkodnhnadkhdaaDoor.Lib Go.Proofs.YtbkodnhnadkhdaaDoor.Sums Go.Proofs.YtbkodnhnadkhdaaDoor.DlP
set_option linter.unusedVariables false
set_option linter.unusedSimpArgs false
/-- Both sums of the first n bytes of what is left at place i. -/
def two (sd : Int) (s : ByteArray) (n i : Nat) : Int × ByteArray := if i + n ≤ s.size then (Weak.weakOf (s.extract i (i + n)), Str.shortOf sd (s.extract i (i + n)) 4) else (0, ⟨#[]⟩)
theorem weakS (s : ByteArray) (h : s.size ≤ 20000) : Ev (fun k => spec_WeakOf.f k s) (Weak.weakOf s) := by
 unfold spec_WeakOf.f
 simp only [if_neg (show ¬ (s.size : Int) > 20000 by omega)]
 exact Weak.spec_ev s h
theorem cut_cut (s : ByteArray) (i n : Nat) : (s.extract i s.size).extract 0 n = s.extract i (min (i + n) s.size) := by
 apply bytesOf_inj
 rw [extract_bytesOf, extract_bytesOf, extract_bytesOf, List.drop_zero, ← bytesOf_length, List.take_length, List.take_drop]
 by_cases h : i + n ≤ (bytesOf s).length
 ·
  rw [Nat.min_eq_left h]
 ·
  rw [Nat.min_eq_right (by omega), List.take_of_length_le (by omega), List.take_length]
theorem sums_ev (sd : Int) (s : ByteArray) (n i : Nat) (hsd : 0 ≤ sd ∧ sd < 4294967296) (hi : i ≤ s.size) (hs : s.size ≤ 20000) : Ev (fun k => spec_l06Sums.f k sd (s.extract i s.size) n) (two sd s n i) := by
 have hz : (s.extract i s.size).size = s.size - i := by rw [ByteArray.size_extract]; omega
 unfold spec_l06Sums.f two
 by_cases h : i + n ≤ s.size
 ·
  rw [if_pos h]
  simp only [if_neg (show ¬ ((s.extract i s.size).size : Int) < (n : Int) by omega), if_pos (show (0 : Int) ≤ (n : Int) by omega), if_pos (show (n : Int) ≤ ((s.extract i s.size).size : Int) by omega), Int.toNat_natCast, cut_cut, Nat.min_eq_left h]
  refine Ev.bind (weakS _ (by rw [ByteArray.size_extract]; omega)) ?_
  unfold spec_ShortSum.f
  simp only [if_pos (show (0 ≤ sd ∧ sd < 4294967296) ∧ (s.extract i (i + n)).size ≤ 1048576 from ⟨hsd, by rw [ByteArray.size_extract]; omega⟩), Option.bind_some]
  exact Ev.now _
 ·
  rw [if_neg h]
  simp only [if_pos (show ((s.extract i s.size).size : Int) < (n : Int) by omega)]
  exact Ev.now _
section
variable (sz rs : Nat) (wk : List Int) (st : List ByteArray) (sd : Int) (s : ByteArray)
def H (i : Nat) : Int → Bool := spec_DeltaOf.here sz rs wk st (two sd s sz i).1 (two sd s sz i).2 (two sd s rs i).1 (two sd s rs i).2
def F (i : Nat) : Int → Bool := fun q => impl_delta.fits sz rs wk st sd s (sums s sz) (sums s rs) q i
theorem one_side (hwe : wk.length = st.length) (h4 : ∀ t ∈ st, t.size = 4) (hs : s.size ≤ 20000) (i n : Nat) (hn : 1 ≤ n) (hn2 : n ≤ 256) (hi : i ≤ s.size) (q : Int) (hq0 : 0 ≤ q) (hq : q < (wk.length : Int)) :
 (if (i : Int) < ((sums s n).length : Int) then (if rd (sums s n) (i : Int) = rd wk q then ((Str.shortOf sd (s.extract (i : Int).toNat (wrap64 ((i : Int) + (n : Int))).toNat) 4).toList == (rdOf ByteArray.empty st q).toList) else false) else false) =
 (if (two sd s n i).1 = rd wk q then ((two sd s n i).2.toList == (rdOf ByteArray.empty st q).toList) else false) := by
 have hw : wrap64 ((i : Int) + (n : Int)) = ((i + n : Nat) : Int) := by rw [w64 (by omega) (by omega)]; omega
 rw [hw, Int.toNat_natCast, Int.toNat_natCast, sums_len]
 unfold two
 by_cases h : i + n ≤ s.size
 ·
  rw [if_neg (show ¬ (n = 0 ∨ s.size < n) by omega), if_pos (show (i : Int) < ((s.size + 1 - n : Nat) : Int) by omega), sums_rd s n i hn h, if_pos h]
 ·
  rw [if_neg (show ¬ (i : Int) < (((if n = 0 ∨ s.size < n then 0 else s.size + 1 - n) : Nat) : Int) by split <;> omega), if_neg h]
  have hm : rdOf ByteArray.empty st q ∈ st := by
   obtain ⟨j, rfl⟩ := Int.eq_ofNat_of_zero_le hq0
   have hj : j < st.length := by omega
   unfold rdOf
   simp only [Int.toNat_natCast, List.getD_eq_getElem?_getD, List.getElem?_eq_getElem hj, Option.getD_some]
   exact List.getElem_mem hj
  have hz4 := h4 _ hm
  have hne : ((⟨#[]⟩ : ByteArray).toList == (rdOf ByteArray.empty st q).toList) = false := by
   rw [beq_eq_false_iff_ne]
   intro e
   have := toList_inj e
   rw [← this] at hz4
   exact absurd hz4 (by decide)
  rw [hne]
  split <;> rfl
theorem fits_here (hz : 1 ≤ sz) (hr : rs < sz) (hwe : wk.length = st.length) (h4 : ∀ t ∈ st, t.size = 4) (hs : s.size ≤ 20000) (hz2 : sz ≤ 256) (i : Nat) (hi : i ≤ s.size) (q : Int) (hq0 : 0 ≤ q) : F sz rs wk st sd s i q = H sz rs wk st sd s i q := by
 unfold F H impl_delta.fits spec_DeltaOf.here
 by_cases hq : q ≥ (wk.length : Int)
 ·
  rw [if_pos hq, if_pos (Or.inr hq)]
 rw [if_neg hq, if_neg (show ¬ (q < 0 ∨ q ≥ (wk.length : Int)) from fun h => by omega)]
 by_cases hc : q = wrap64 ((wk.length : Int) - 1) ∧ (rs : Int) > 0
 ·
  have e : impl_delta.long sz rs wk.length q = rs := by unfold impl_delta.long; rw [if_pos hc.2, if_pos hc.1]
  rw [e, if_pos hc, if_neg (show ¬ (rs : Int) = (sz : Int) by omega)]
  exact one_side wk st sd s hwe h4 hs i rs (by omega) (by omega) hi q hq0 (by omega)
 ·
  have e : impl_delta.long sz rs wk.length q = sz := by
   unfold impl_delta.long
   by_cases h1 : (rs : Int) > 0
   ·
    rw [if_pos h1, if_neg (fun h => hc ⟨h, h1⟩)]
   ·
    rw [if_neg h1]
  rw [e, if_neg hc, if_pos rfl]
  exact one_side wk st sd s hwe h4 hs i sz hz hz2 hi q hq0 (by omega)
/-- Which list the fitting block stands in. -/
theorem fits_idx (i : Nat) (q : Int) (hq0 : 0 ≤ q) (h : F sz rs wk st sd s i q = true) : (((i : Int) < ((sums s sz).length : Int) ∧ q ∈ impl_delta.idx wk (rd (sums s sz) i) wk.length) ∨ ((i : Int) < ((sums s rs).length : Int) ∧ q ∈ impl_delta.idx wk (rd (sums s rs) i) wk.length)) := by
 have key : ∀ L : List Int, (if (i : Int) < (L.length : Int) then (if rd L (i : Int) = rd wk q then ((Str.shortOf sd (s.extract (i : Int).toNat (wrap64 ((i : Int) + impl_delta.long sz rs wk.length q)).toNat) 4).toList == (rdOf ByteArray.empty st q).toList) else false) else false) = true → q < (wk.length : Int) → (i : Int) < (L.length : Int) ∧ q ∈ impl_delta.idx wk (rd L i) wk.length := fun L hL hq => by
  by_cases h1 : (i : Int) < (L.length : Int)
  ·
   rw [if_pos h1] at hL
   by_cases h2 : rd L (i : Int) = rd wk q
   ·
    refine ⟨h1, ?_⟩
    rw [h2]
    obtain ⟨j, rfl⟩ := Int.eq_ofNat_of_zero_le hq0
    unfold impl_delta.idx
    refine List.mem_map.2 ⟨j, List.mem_filter.2 ⟨List.mem_range.2 (by omega), ?_⟩, rfl⟩
    unfold rd; simp
   ·
    rw [if_neg h2] at hL; cases hL
  ·
   rw [if_neg h1] at hL; cases hL
 unfold F impl_delta.fits at h
 by_cases hq : q ≥ (wk.length : Int)
 ·
  rw [if_pos hq] at h; cases h
 rw [if_neg hq] at h
 by_cases hl : impl_delta.long sz rs wk.length q = sz
 ·
  simp only [if_pos hl] at h; exact .inl (key _ h (by omega))
 ·
  simp only [if_neg hl] at h; exact .inr (key _ h (by omega))
end
/-! ### the least block that fits -/
theorem pick_least (G : Int → Bool) : ∀ (l : List Int) (b : Int), (∀ q ∈ l, 0 ≤ q) → (0 ≤ b → 0 ≤ impl_delta.pick G l b ∧ impl_delta.pick G l b ≤ b) ∧ (∀ q ∈ l, G q = true → 0 ≤ impl_delta.pick G l b ∧ impl_delta.pick G l b ≤ q)
 | [], b, _ => ⟨fun h => ⟨h, Int.le_refl _⟩, fun q hq => by cases hq⟩
 | q :: l, b, h0 => by
  have hq := h0 q (List.mem_cons_self)
  have h1 : ∀ x ∈ l, 0 ≤ x := fun x hx => h0 x (List.mem_cons_of_mem _ hx)
  simp only [impl_delta.pick]
  by_cases hc : (b < 0 ∨ q < b) ∧ G q = true
  ·
   rw [if_pos hc]
   obtain ⟨g1, g2⟩ := pick_least G l q h1
   have := g1 hq
   refine ⟨fun hb => by omega, fun x hx hG => ?_⟩
   rcases List.mem_cons.1 hx with rfl | hx
   ·
    exact this
   ·
    exact g2 x hx hG
  ·
   rw [if_neg hc]
   obtain ⟨g1, g2⟩ := pick_least G l b h1
   refine ⟨g1, fun x hx hG => ?_⟩
   rcases List.mem_cons.1 hx with rfl | hx
   ·
    have hb : 0 ≤ b ∧ b ≤ x := by
     refine ⟨?_, ?_⟩
     ·
      exact Int.not_lt.1 (fun h => hc ⟨.inl h, hG⟩)
     ·
      exact Int.not_lt.1 (fun h => hc ⟨.inr h, hG⟩)
    have := g1 hb.1
    omega
   ·
    exact g2 x hx hG
theorem pick_minus (G : Int → Bool) : ∀ (l : List Int) (b : Int), (∀ q ∈ l, 0 ≤ q) → b = -1 → ¬ 0 ≤ impl_delta.pick G l b → impl_delta.pick G l b = -1
 | [], b, _, hb, _ => hb
 | q :: l, b, h0, hb, hn => by
  simp only [impl_delta.pick] at hn ⊢
  by_cases hc : (b < 0 ∨ q < b) ∧ G q = true
  ·
   rw [if_pos hc] at hn
   exact absurd ((pick_least G l q (fun x hx => h0 x (List.mem_cons_of_mem _ hx))).1 (h0 q List.mem_cons_self)).1 hn
  ·
   rw [if_neg hc] at hn ⊢
   exact pick_minus G l b (fun x hx => h0 x (List.mem_cons_of_mem _ hx)) hb hn
theorem first_of_none (G : Int → Bool) (d : Nat) : ∀ i : Nat, (∀ j : Nat, i ≤ j → j < i + d → G (j : Int) = false) → spec_DeltaOf.first G d i = -1 := by
 induction d with
 | zero => intro i _; rfl
 | succ d ih =>
  intro i h
  simp only [spec_DeltaOf.first]
  rw [if_neg (by rw [h i (Nat.le_refl _) (by omega)]; simp)]
  exact ih (i + 1) (fun j h1 h2 => h j (by omega) (by omega))
theorem first_of_least (G : Int → Bool) (m : Nat) (hm : G (m : Int) = true) (d : Nat) : ∀ i : Nat, i ≤ m → m < i + d → (∀ j : Nat, i ≤ j → j < m → G (j : Int) = false) → spec_DeltaOf.first G d i = (m : Int) := by
 induction d with
 | zero => intro i h1 h2; omega
 | succ d ih =>
  intro i h1 h2 h
  simp only [spec_DeltaOf.first]
  by_cases e : i = m
  ·
   subst e; rw [if_pos hm]
  ·
   rw [if_neg (by rw [h i (Nat.le_refl _) (by omega)]; simp)]
   exact ih (i + 1) (by omega) (by omega) (fun j h3 h4 => h j (by omega) h4)
/-- Looking through the two lists of places finds the least block that fits. -/
theorem seek_first (G : Int → Bool) (wk A B : List Int) (i : Int) (n : Nat) (hlt : ∀ q, 0 ≤ q → G q = true → q < (n : Int)) (hin : ∀ q, 0 ≤ q → G q = true → (i < (A.length : Int) ∧ q ∈ impl_delta.idx wk (rd A i) wk.length) ∨ (i < (B.length : Int) ∧ q ∈ impl_delta.idx wk (rd B i) wk.length)) :
 impl_delta.seek G wk A B i = spec_DeltaOf.first G n 0 := by
 obtain ⟨r, hr⟩ : ∃ r, r = impl_delta.seek G wk A B i := ⟨_, rfl⟩
 have hall : ∀ q, 0 ≤ q → G q = true → 0 ≤ r ∧ r ≤ q := fun q hq hG => by
  rw [hr]
  unfold impl_delta.seek
  obtain ⟨b, hb⟩ : ∃ b, b = if i ≥ (A.length : Int) then (-1 : Int) else impl_delta.pick G (impl_delta.idx wk (rd A i) wk.length) (-1) := ⟨_, rfl⟩
  have p2 := pick_least G (impl_delta.idx wk (rd B i) wk.length) b (impl_delta.idx_ge _ _ _)
  show 0 ≤ (if i ≥ (B.length : Int) then (if i ≥ (A.length : Int) then (-1 : Int) else impl_delta.pick G (impl_delta.idx wk (rd A i) wk.length) (-1)) else impl_delta.pick G (impl_delta.idx wk (rd B i) wk.length) (if i ≥ (A.length : Int) then (-1 : Int) else impl_delta.pick G (impl_delta.idx wk (rd A i) wk.length) (-1))) ∧ (if i ≥ (B.length : Int) then (if i ≥ (A.length : Int) then (-1 : Int) else impl_delta.pick G (impl_delta.idx wk (rd A i) wk.length) (-1)) else impl_delta.pick G (impl_delta.idx wk (rd B i) wk.length) (if i ≥ (A.length : Int) then (-1 : Int) else impl_delta.pick G (impl_delta.idx wk (rd A i) wk.length) (-1))) ≤ q
  rw [← hb]
  rcases hin q hq hG with ⟨h1, h2⟩ | ⟨h1, h2⟩
  ·
   have p1 := (pick_least G (impl_delta.idx wk (rd A i) wk.length) (-1) (impl_delta.idx_ge _ _ _)).2 q h2 hG
   rw [if_neg (by omega)] at hb
   rw [← hb] at p1
   by_cases h3 : i ≥ (B.length : Int)
   ·
    rw [if_pos h3]; exact p1
   ·
    rw [if_neg h3]; have := p2.1 p1.1; omega
  ·
   rw [if_neg (by omega)]; exact p2.2 q h2 hG
 rw [← hr]
 by_cases h0 : 0 ≤ r
 ·
  have hG : G r = true := by rw [hr] at h0 ⊢; exact impl_delta.seek_fits h0
  obtain ⟨m, rfl⟩ := Int.eq_ofNat_of_zero_le h0
  have := hlt _ h0 hG
  refine (first_of_least G m hG n 0 (by omega) (by omega) (fun j _ hj => ?_)).symm
  cases hj2 : G (j : Int) with
  | false => rfl
  | true => have := (hall j (by omega) hj2).2; omega
 ·
  have hm : r = -1 := by
   have key : ∀ (l : List Int) (b : Int), (∀ q ∈ l, 0 ≤ q) → b = -1 → impl_delta.pick G l b = -1 ∨ 0 ≤ impl_delta.pick G l b := fun l b hl hb => by
    rcases impl_delta.pick_fits G l b with h | h
    ·
     exact .inl (h.trans hb)
    ·
     by_cases h1 : 0 ≤ impl_delta.pick G l b
     ·
      exact .inr h1
     ·
      exact .inl (pick_minus G l b hl hb h1)
   have k2 : ∀ (l : List Int) (b : Int), (∀ q ∈ l, 0 ≤ q) → (b = -1 ∨ 0 ≤ b) → (impl_delta.pick G l b = -1 ∨ 0 ≤ impl_delta.pick G l b) := fun l b hl hb => by
    rcases hb with hb | hb
    ·
     exact key l b hl hb
    ·
     exact .inr ((pick_least G l b hl).1 hb).1
   have k3 : r = -1 ∨ 0 ≤ r := by
    rw [hr]
    unfold impl_delta.seek
    by_cases h1 : i ≥ (A.length : Int)
    ·
     simp only [if_pos h1]
     by_cases h2 : i ≥ (B.length : Int)
     ·
      simp [if_pos h2]
     ·
      simp only [if_neg h2]; exact k2 _ _ (impl_delta.idx_ge _ _ _) (.inl rfl)
    ·
     simp only [if_neg h1]
     have := k2 _ (-1) (impl_delta.idx_ge wk (rd A i) wk.length) (.inl rfl)
     by_cases h2 : i ≥ (B.length : Int)
     ·
      simp only [if_pos h2]; exact this
     ·
      simp only [if_neg h2]; exact k2 _ _ (impl_delta.idx_ge _ _ _) this
   omega
  rw [hm]
  refine (first_of_none G n 0 (fun j _ hj => ?_)).symm
  cases hj2 : G (j : Int) with
  | false => rfl
  | true => have := (hall j (by omega) hj2).1; omega
theorem first_congr {G G' : Int → Bool} (h : ∀ q, 0 ≤ q → G q = G' q) (d : Nat) : ∀ i : Nat, spec_DeltaOf.first G d i = spec_DeltaOf.first G' d i := by
 induction d with
 | zero => intro i; rfl
 | succ d ih => intro i; simp only [spec_DeltaOf.first]; rw [h _ (Int.natCast_nonneg i), ih]
theorem long_eq (sz rs : Int) (n : Nat) (q : Int) : spec_DeltaOf.long sz rs n q = impl_delta.long sz rs n q := by
 unfold spec_DeltaOf.long impl_delta.long
 by_cases h1 : rs > 0
 ·
  rw [if_pos h1]
  by_cases h2 : q = wrap64 ((n : Int) - 1)
  ·
   rw [if_pos ⟨h2, h1⟩, if_pos h2]
  ·
   rw [if_neg (fun h => h2 h.1), if_neg h2]
 ·
  rw [if_neg h1, if_neg (fun h => h1 h.2)]
theorem drop_more (s : ByteArray) (i n : Nat) (h : i + n ≤ s.size) : (s.extract i s.size).extract n (s.extract i s.size).size = s.extract (i + n) s.size := by
 apply bytesOf_inj
 rw [extract_bytesOf, extract_bytesOf, extract_bytesOf, ← bytesOf_length (s.extract i s.size), extract_bytesOf, ← bytesOf_length s, List.take_length, List.take_length, List.drop_drop]
theorem first_byte (s : ByteArray) (i : Nat) (h : i + 1 ≤ s.size) : (s.extract i s.size).extract 0 1 = s.extract i (i + 1) := by rw [cut_cut, Nat.min_eq_left h]
theorem step_len (sz rs : Int) (wk : List Int) (st : List ByteArray) (sd : Int) (s : ByteArray) (A B : List Int) (i : Int) (l : List S94) : (impl_delta.step sz rs wk st sd s A B i l).2.length ≤ l.length + 1 := by
 have hset : ∀ x, (impl_delta.set l x).length ≤ l.length + 1 := fun x => by unfold impl_delta.set; rw [List.length_set]; omega
 simp only [impl_delta.step]
 split
 ·
  exact hset _
 ·
  split
  ·
   simp
  ·
   split
   ·
    exact hset _
   ·
    simp
theorem run_len (sz rs : Int) (wk : List Int) (st : List ByteArray) (sd : Int) (s : ByteArray) (A B : List Int) (d : Nat) : ∀ (i : Int) (l : List S94), (impl_delta.run sz rs wk st sd s A B d i l).length ≤ l.length + d := by
 induction d with
 | zero => intro i l; exact Nat.le_refl _
 | succ d ih =>
  intro i l
  simp only [impl_delta.run]
  split
  ·
   have h1 := ih (impl_delta.step sz rs wk st sd s A B i l).1 (impl_delta.step sz rs wk st sd s A B i l).2
   have h2 := step_len sz rs wk st sd s A B i l
   omega
  ·
   omega
section
variable (sz rs : Nat) (wk : List Int) (st : List ByteArray) (sd : Int) (s : ByteArray)
theorem fits_room (hz : 1 ≤ sz) (i : Nat) (q : Int) (h : F sz rs wk st sd s i q = true) : ∃ n : Nat, impl_delta.long sz rs wk.length q = (n : Int) ∧ 1 ≤ n ∧ n ≤ max sz rs ∧ i + n ≤ s.size := by
 have hlt := impl_delta.fits_lt h
 unfold F impl_delta.fits at h
 rw [if_neg (by omega)] at h
 have hL : ∃ n : Nat, impl_delta.long sz rs wk.length q = (n : Int) ∧ 1 ≤ n ∧ n ≤ max sz rs ∧ (if impl_delta.long sz rs wk.length q = (sz : Int) then sums s sz else sums s rs) = sums s n := by
  unfold impl_delta.long
  by_cases h1 : (rs : Int) > 0
  ·
   by_cases h2 : q = wrap64 ((wk.length : Int) - 1)
   ·
    rw [if_pos h1, if_pos h2]
    refine ⟨rs, rfl, by omega, Nat.le_max_right _ _, ?_⟩
    by_cases h3 : (rs : Int) = (sz : Int)
    ·
     rw [if_pos h3, show rs = sz by omega]
    ·
     rw [if_neg h3]
   ·
    rw [if_pos h1, if_neg h2, if_pos rfl]; exact ⟨sz, rfl, hz, Nat.le_max_left _ _, rfl⟩
  ·
   rw [if_neg h1, if_pos rfl]; exact ⟨sz, rfl, hz, Nat.le_max_left _ _, rfl⟩
 obtain ⟨n, e1, e2, e4, e3⟩ := hL
 refine ⟨n, e1, e2, e4, ?_⟩
 rw [e3] at h
 by_cases hl : (i : Int) < ((sums s n).length : Int)
 ·
  rw [sums_len] at hl
  split at hl <;> omega
 ·
  rw [if_neg hl] at h; cases h
theorem nl1 {a i n d : Nat} (h : a ≤ i + (d + 1)) (hn : 1 ≤ n) : a ≤ i + n + d := by omega
theorem nl2 {a i n z : Nat} (e : z = a - i) (h : i + n ≤ a) : (n : Int) ≤ (z : Int) := by omega
theorem nl3 {a i n : Nat} (h : i + n ≤ a) (ha : a ≤ 20000) : wrap64 ((i : Int) + (n : Int)) = ((i + n : Nat) : Int) := by rw [w64 (by omega) (by omega)]; omega
theorem nl4 {x y nx : Int} {n : Nat} (h : 0 ≤ x ∧ 0 ≤ y ∧ x + y ≤ (n : Int)) (hn : n ≤ 2500) (e : nx = x + y) (hl : nx < (n : Int)) : 0 ≤ x ∧ 0 ≤ wrap64 (y + 1) ∧ x + wrap64 (y + 1) ≤ (n : Int) := by
 rw [impl_delta.w2 (by omega)]; omega
theorem nl5 {x y nx : Int} {n : Nat} (h : 0 ≤ x ∧ 0 ≤ y ∧ x + y ≤ (n : Int)) (hn : n ≤ 2500) (e : nx = wrap64 (x + y)) : nx = x + y ∧ 0 ≤ nx := by
 rw [impl_delta.w2 (by omega)] at e; omega
theorem run_eq (hz : 1 ≤ sz) (hr : rs < sz) (hz2 : sz ≤ 256) (hwl : wk.length ≤ 2500) (hwe : wk.length = st.length) (h4 : ∀ t ∈ st, t.size = 4) (hs : s.size ≤ 20000) (hsd : 0 ≤ sd ∧ sd < 4294967296) (d : Nat) : ∀ (i : Nat) (l : List S94), i ≤ s.size → s.size ≤ i + d → impl_delta.Inv wk.length l →
 Ev (fun k => spec_DeltaOf.run k sz rs wk st sd d (s.extract i s.size) l) (impl_delta.run sz rs wk st sd s (sums s sz) (sums s rs) d i l) := by
 induction d with
 | zero => intro i l hi h2 hI; exact Ev.now _
 | succ d ih =>
  intro i l hi h2 hI
  have hsz : (s.extract i s.size).size = s.size - i := by rw [ByteArray.size_extract]; omega
  simp only [spec_DeltaOf.run, impl_delta.run]
  by_cases hlt : i < s.size
  ·
   simp only [if_pos (show ((s.extract i s.size).size : Int) > 0 by omega), if_pos (show (i : Int) < (s.size : Int) by omega)]
   refine Ev.bind (sums_ev sd s sz i hsd hi hs) (Ev.bind (sums_ev sd s rs i hsd hi hs) ?_)
   have hFH := fits_here sz rs wk st sd s hz hr hwe h4 hs hz2 i hi
   obtain ⟨HH, hHH⟩ : ∃ h : Int → Bool, h = spec_DeltaOf.here sz rs wk st (two sd s sz i).1 (two sd s sz i).2 (two sd s rs i).1 (two sd s rs i).2 := ⟨_, rfl⟩
   rw [← hHH]
   have hHF : ∀ q, 0 ≤ q → F sz rs wk st sd s i q = HH q := fun q hq => by rw [hHH]; exact hFH q hq
   obtain ⟨q, hq⟩ : ∃ q, q = impl_delta.seek (F sz rs wk st sd s i) wk (sums s sz) (sums s rs) i := ⟨_, rfl⟩
   have hseek : q = spec_DeltaOf.first HH wk.length 0 := by
    rw [hq, ← first_congr hHF]
    exact seek_first _ wk _ _ _ _ (fun x _ hx => impl_delta.fits_lt hx) (fun x hx0 hx => fits_idx sz rs wk st sd s i x hx0 hx)
   have hlt0 : i + 1 ≤ s.size := hlt
   have HQ := Aside0.mk hq
   have HSK := Aside0.mk hseek
   clear hq hseek
   obtain ⟨nx, hnx⟩ : ∃ z, z = wrap64 ((impl_delta.last l).f2 + (impl_delta.last l).f3) := ⟨_, rfl⟩
   have hw1 : wrap64 ((i : Int) + 1) = ((i + 1 : Nat) : Int) := w64s i (by omega)
   by_cases hx : l ≠ [] ∧ (impl_delta.last l).f0 = 1 ∧ F sz rs wk st sd s i nx = true
   ·
    have hinv := hI hx.1 hx.2.1
    obtain ⟨hnv, hn0⟩ := nl5 hinv hwl hnx
    have hw : spec_DeltaOf.which HH wk.length l = nx := by
     unfold spec_DeltaOf.which
     rw [← hnx]
     exact if_pos ⟨hx.1, hx.2.1, by rw [← hHF nx hn0]; exact hx.2.2⟩
    have hst := impl_delta.step_ext (sz := sz) (rs := rs) (wk := wk) (st := st) (sd := sd) (s := s) (full := sums s sz) (rest := sums s rs) (i := i) (l := l) (by rw [← hnx]; exact hx)
    have HST := Aside0.mk hst
    have HW := Aside0.mk hw
    clear hst hw
    obtain ⟨n, e1, e2, e3, e4⟩ := fits_room sz rs wk st sd s hz i nx hx.2.2
    have hlt2 := impl_delta.fits_lt hx.2.2
    have HE1 := Aside0.mk e1
    clear e1
    have htk : spec_DeltaOf.take l nx = impl_delta.set l ⟨(impl_delta.last l).f0, (impl_delta.last l).f1, (impl_delta.last l).f2, wrap64 ((impl_delta.last l).f3 + 1)⟩ := if_pos ⟨hx.1, hx.2.1, hnx.symm⟩
    have HTK := Aside0.mk htk
    clear htk
    obtain ⟨N, hN⟩ := ih (i + n) _ e4 (nl1 h2 e2) (impl_delta.Inv_set (n := wk.length) l ⟨(impl_delta.last l).f0, (impl_delta.last l).f1, (impl_delta.last l).f2, wrap64 ((impl_delta.last l).f3 + 1)⟩ hx.1 (fun _ => nl4 hinv hwl hnv hlt2))
    have hwr : wrap64 ((i : Int) + (n : Int)) = ((i + n : Nat) : Int) := nl3 e4 hs
    have hst := HST.out
    rw [← hnx, HE1.out, hwr] at hst
    have hle : (n : Int) ≤ ((s.extract i s.size).size : Int) := nl2 hsz e4
    have hln : spec_DeltaOf.long sz rs wk.length nx = (n : Int) := (long_eq _ _ _ _).trans HE1.out
    rw [hst, HW.out, hln, HTK.out]
    refine ⟨N, fun k hk => ?_⟩
    dsimp only
    have hk1 := hN k hk
    rw [if_pos (show nx ≥ 0 from hn0), if_pos hle, Int.toNat_natCast, drop_more s i n e4]
    exact hk1
   ·
    have hx' : ¬ (l ≠ [] ∧ (impl_delta.last l).f0 = 1 ∧ HH nx = true) := fun h => hx ⟨h.1, h.2.1, by
     have hinv := hI h.1 h.2.1
     rw [hHF nx (nl5 hinv hwl hnx).2]; exact h.2.2⟩
    have hw : spec_DeltaOf.which HH wk.length l = q := by
     unfold spec_DeltaOf.which
     rw [← hnx, HSK.out]
     exact if_neg hx'
    rw [hw]
    have hx2 := hx
    rw [hnx] at hx2
    by_cases hq0 : q ≥ 0
    ·
     have hst := impl_delta.step_copy (sz := sz) (rs := rs) (wk := wk) (st := st) (sd := sd) (s := s) (full := sums s sz) (rest := sums s rs) (i := i) (l := l) hx2 (by show impl_delta.seek (F sz rs wk st sd s i) wk (sums s sz) (sums s rs) i ≥ 0; rw [← HQ.out]; exact hq0)
     have hfq : F sz rs wk st sd s i q = true := by have h0 := hq0; rw [HQ.out] at h0 ⊢; exact impl_delta.seek_fits h0
     have hst2 : impl_delta.step sz rs wk st sd s (sums s sz) (sums s rs) i l = (wrap64 ((i : Int) + impl_delta.long sz rs wk.length q), l ++ [⟨1, (⟨#[]⟩ : ByteArray), q, 1⟩]) := by rw [HQ.out]; exact hst
     have HST := Aside0.mk hst2
     clear hst hst2
     obtain ⟨n, e1, e2, e3, e4⟩ := fits_room sz rs wk st sd s hz i q hfq
     have HE1 := Aside0.mk e1
     clear e1
     have hlt2 := impl_delta.fits_lt hfq
     have htk : spec_DeltaOf.take l q = l ++ [⟨1, (⟨#[]⟩ : ByteArray), q, 1⟩] := if_neg (fun h => hx ⟨h.1, h.2.1, by rw [hnx, h.2.2]; exact hfq⟩)
     have HTK := Aside0.mk htk
     clear htk
     obtain ⟨N, hN⟩ := ih (i + n) _ e4 (nl1 h2 e2) (impl_delta.Inv_snoc (n := wk.length) l ⟨1, (⟨#[]⟩ : ByteArray), q, 1⟩ (fun _ => ⟨hq0, show (0 : Int) ≤ 1 by decide, show q + 1 ≤ (wk.length : Int) from hlt2⟩))
     have hwr : wrap64 ((i : Int) + (n : Int)) = ((i + n : Nat) : Int) := nl3 e4 hs
     have hst2 := HST.out
     rw [HE1.out, hwr] at hst2
     have hle : (n : Int) ≤ ((s.extract i s.size).size : Int) := nl2 hsz e4
     have hln : spec_DeltaOf.long sz rs wk.length q = (n : Int) := (long_eq _ _ _ _).trans HE1.out
     rw [hst2, hln, HTK.out]
     refine ⟨N, fun k hk => ?_⟩
     dsimp only
     have hk1 := hN k hk
     rw [if_pos hq0, if_pos hle, Int.toNat_natCast, drop_more s i n e4]
     exact hk1
    ·
     have hqn : ¬ impl_delta.seek (F sz rs wk st sd s i) wk (sums s sz) (sums s rs) i ≥ 0 := by rw [← HQ.out]; exact hq0
     by_cases hg : l ≠ [] ∧ (impl_delta.last l).f0 = 0 ∧ (impl_delta.last l).f1.size < 100
     ·
      have hst := impl_delta.step_grow (sz := sz) (rs := rs) (wk := wk) (st := st) (sd := sd) (s := s) (full := sums s sz) (rest := sums s rs) (i := i) (l := l) hx2 hqn hg
      have hi0 : i + 1 ≤ s.size := hlt0
      have hlt : spec_DeltaOf.lit l (s.extract i s.size) = impl_delta.set l ⟨(impl_delta.last l).f0, (impl_delta.last l).f1 ++ s.extract i (i + 1), (impl_delta.last l).f2, (impl_delta.last l).f3⟩ := by
       rw [← first_byte s i hi0]; exact if_pos hg
      rw [hw1, Int.toNat_natCast, Int.toNat_natCast] at hst
      have HST := Aside0.mk hst
      have HLT := Aside0.mk hlt
      clear hst hlt hqn
      have hi2 : i + 1 ≤ s.size := hlt0
      have hi3 : s.size ≤ i + 1 + d := nl1 h2 (Nat.le_refl 1)
      obtain ⟨N, hN⟩ := ih (i + 1) _ hi2 hi3 (impl_delta.Inv_set (n := wk.length) l ⟨(impl_delta.last l).f0, (impl_delta.last l).f1 ++ s.extract i (i + 1), (impl_delta.last l).f2, (impl_delta.last l).f3⟩ hg.1 (fun h => absurd (hg.2.1.symm.trans h) (by decide)))
      rw [HST.out, HLT.out]
      refine ⟨N, fun k hk => ?_⟩
      dsimp only
      have hk1 := hN k hk
      rw [if_neg hq0, drop_more s i 1 hi2]
      exact hk1
     ·
      have hst := impl_delta.step_lit (sz := sz) (rs := rs) (wk := wk) (st := st) (sd := sd) (s := s) (full := sums s sz) (rest := sums s rs) (i := i) (l := l) hx2 hqn hg
      have hi0 : i + 1 ≤ s.size := hlt0
      have hlt : spec_DeltaOf.lit l (s.extract i s.size) = l ++ [⟨0, s.extract i (i + 1), 0, 0⟩] := by
       rw [← first_byte s i hi0]; exact if_neg hg
      rw [hw1, Int.toNat_natCast, Int.toNat_natCast] at hst
      have HST := Aside0.mk hst
      have HLT := Aside0.mk hlt
      clear hst hlt hqn
      have hi2 : i + 1 ≤ s.size := hlt0
      have hi3 : s.size ≤ i + 1 + d := nl1 h2 (Nat.le_refl 1)
      obtain ⟨N, hN⟩ := ih (i + 1) _ hi2 hi3 (impl_delta.Inv_snoc (n := wk.length) l ⟨0, s.extract i (i + 1), 0, 0⟩ (fun h => absurd (show (0 : Int) = 1 from h) (by decide)))
      rw [HST.out, HLT.out]
      refine ⟨N, fun k hk => ?_⟩
      dsimp only
      have hk1 := hN k hk
      rw [if_neg hq0, drop_more s i 1 hi2]
      exact hk1
  ·
   simp only [if_neg (show ¬ ((s.extract i s.size).size : Int) > 0 by omega), if_neg (show ¬ (i : Int) < (s.size : Int) by omega)]
   exact Ev.now _
end
end Go.Proofs.YtbkodnhnadkhdaaDoor.DlQ
end

section
/- The law on DeltaOf returns true at every signature, seed and text: its plain statement and its walk. No condition. -/
namespace Go.Proofs.YtbkodnhnadkhdaaDoor.DlL
open Go Go.RowKit Go.Proofs.YtbkodnhnadkhdaaDoor.PTr Go.Proofs.YtbkodnhnadkhdaaDoorW.PrintWords Go.Proofs.YtbkodnhnadkhdaaDoorW.PrintMore Go.Proofs.YtbkodnhnadkhdaaDoor.Arith Go.Proofs.YtbkodnhnadkhdaaDoor.Lib Go.Proofs.YtbkodnhnadkhdaaDoor.RecSig Go.Proofs.YtbkodnhnadkhdaaDoor.DlP
set_option linter.unusedVariables false
set_option linter.unusedSimpArgs false
def delta (a b : Int) (l : List Int) (m : List ByteArray) (sd : Int) (s : ByteArray) : List S94 := impl_delta.run a b l m sd s (sums s a.toNat) (sums s b.toNat) s.size 0 []
def deltaOf (a b : Int) (l : List Int) (m : List ByteArray) (sd : Int) (s : ByteArray) : List S94 := if SigOk.sigOk a b l m = true then (if s.size > 20000 then [] else delta a b l m sd s) else []
theorem delta_len (a b : Int) (l : List Int) (m : List ByteArray) (sd : Int) (s : ByteArray) (h : s.size ≤ 20000) : (delta a b l m sd s).length ≤ 20000 := by
 have := DlQ.run_len a b l m sd s (sums s a.toNat) (sums s b.toNat) s.size 0 []
 unfold delta
 simp at this
 omega
theorem len (a b : Int) (l : List Int) (m : List ByteArray) (sd : Int) (s : ByteArray) : (deltaOf a b l m sd s).length ≤ 20000 := by
 unfold deltaOf
 split
 ·
  split
  ·
   simp
  ·
   exact delta_len a b l m sd s (by omega)
 ·
  simp
theorem impl_delta_ev (a b : Int) (l : List Int) (m : List ByteArray) (sd : Int) (s : ByteArray) (h1 : 1 ≤ a ∧ a ≤ 256) (h2 : 0 ≤ b ∧ b < a) (h3 : l.length ≤ 2500) (h4 : l.length = m.length) (hsd : 0 ≤ sd ∧ sd < 4294967296) (hs : s.size ≤ 20000) (hw : ∀ y ∈ l, 0 ≤ y ∧ y < 4294967296) : Ev (fun k => impl_delta.f k a b l m sd s) (delta a b l m sd s) := by
 obtain ⟨x, rfl⟩ := Int.eq_ofNat_of_zero_le (show 0 ≤ a by omega)
 obtain ⟨y, rfl⟩ := Int.eq_ofNat_of_zero_le h2.1
 unfold impl_delta.f delta
 rw [Int.toNat_natCast, Int.toNat_natCast]
 refine Ev.bind (all_ev s x hs) (Ev.bind (all_ev s y hs) ?_)
 have hz : ∀ n : Nat, (sums s n = [] ∨ ((sums s n).length : Int) + (n : Int) ≤ s.size + 1) := fun n => by
  rw [sums_len]
  by_cases h : n = 0 ∨ s.size < n
  ·
   left; unfold sums; rw [if_pos h]
  ·
   right; rw [if_neg h]; omega
 have hok : impl_delta.ok x y l m sd s (sums s x) (sums s y) = true := by
  unfold impl_delta.ok
  rw [Bool.and_eq_true, decide_eq_true_eq, List.all_eq_true]
  refine ⟨⟨h1.1, h1.2, h2.1, h2.2, h3, h4, hsd, hs, hz x, hz y⟩, fun z hz => ?_⟩
  rw [decide_eq_true_eq]
  rcases List.mem_append.1 hz with h | h
  ·
   exact hw z h
  ·
   rcases List.mem_append.1 h with h | h
   ·
    exact sums_range s x z h
   ·
    exact sums_range s y z h
 simp only [hok, if_true]
 exact Ev.now _
theorem facts {a b : Int} {l : List Int} {m : List ByteArray} (h : SigOk.sigOk a b l m = true) : (1 ≤ a ∧ a ≤ 256) ∧ (0 ≤ b ∧ b < a) ∧ l.length ≤ 2500 ∧ l.length = m.length ∧ ∀ t ∈ m, t.size = 4 := by
 unfold SigOk.sigOk isCut at h
 simp only [Bool.and_eq_true, decide_eq_true_eq] at h
 obtain ⟨⟨⟨⟨⟨h1, h2, h3, h4, h5⟩, h6⟩, h7⟩, _⟩, _⟩ := h
 refine ⟨⟨h1, h2⟩, ⟨h3, by omega⟩, h5, h6, fun t ht => ?_⟩
 have := List.all_eq_true.1 h7 t ht
 unfold SigOk.four at this
 have := of_decide_eq_true this
 omega
theorem spec_ev (a b : Int) (l : List Int) (m : List ByteArray) (sd : Int) (s : ByteArray) (hm : m.length ≤ 2097152) (hsd : 0 ≤ sd ∧ sd < 4294967296) : Ev (fun k => spec_DeltaOf.f k a b l m sd s) (deltaOf a b l m sd s) := by
 unfold spec_DeltaOf.f deltaOf
 refine Ev.bind (SigOk.spec_ok a b l m hm) ?_
 cases h : SigOk.sigOk a b l m with
 | false => simp only [Bool.false_eq_true, if_false]; exact Ev.now _
 | true =>
  simp only [if_true]
  by_cases hb : s.size > 20000
  ·
   simp only [if_pos hb, if_pos (show (s.size : Int) > 20000 by omega)]; exact Ev.now _
  ·
   simp only [if_neg hb, if_neg (show ¬ (s.size : Int) > 20000 by omega)]
   obtain ⟨f1, f2, f3, f4, f5⟩ := facts h
   have hok : spec_DeltaOf.ok a b l m = true := by unfold spec_DeltaOf.ok; exact decide_eq_true ⟨f1.1, f1.2, f2.1, f2.2, f3, f4⟩
   simp only [hok, if_true]
   obtain ⟨x, rfl⟩ := Int.eq_ofNat_of_zero_le (show 0 ≤ a by omega)
   obtain ⟨y, rfl⟩ := Int.eq_ofNat_of_zero_le f2.1
   have := DlQ.run_eq x y l m sd s (by omega) (by omega) (by omega) f3 f4 f5 (by omega) hsd s.size 0 [] (Nat.zero_le _) (by omega) (fun h => absurd rfl h)
   rw [extract_whole] at this
   unfold delta
   rw [Int.toNat_natCast, Int.toNat_natCast]
   exact this
theorem u32 {a : Int} (ha : (Lit.int .u32 a).wf = true) : 0 ≤ a ∧ a < 4294967296 := by
 simp [Lit.wf, IntKind.min, IntKind.max, IntKind.signed, IntKind.bits] at ha; omega
end Go.Proofs.YtbkodnhnadkhdaaDoor.DlL
end
