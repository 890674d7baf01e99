/- What impl.weakAll makes of a text: the weak sum of every cut; both ways of looking for blocks give the same tokens. Condition: at most 20000 bytes; a right signature. -/
import Derived.Test.YtbkodnhnadkhdaaDoorPDlx1
import Derived.Test.YtbkodnhnadkhdaaDoorSumsDl
import Derived.Test.YtbkodnhnadkhdaaDoorWeakDl
import Derived.Test.YtbkodnhnadkhdaaDoorStrV
namespace Go.Proofs.YtbkodnhnadkhdaaDoor.DlP
open Go Go.RowKit Go.Proofs.YtbkodnhnadkhdaaDoor.PDl Go.Proofs.YtbkodnhnadkhdaaDoorW.PrintWords Go.Proofs.YtbkodnhnadkhdaaDoorW.PrintMore Go.Proofs.YtbkodnhnadkhdaaDoor.Arith Go.Proofs.YtbkodnhnadkhdaaDoor.Lib Go.Proofs.YtbkodnhnadkhdaaDoor.Sums
set_option linter.unusedVariables false
set_option linter.unusedSimpArgs false
theorem pair_lo (a b : Int) : pair a b % 65536 = a % 65536 := by unfold pair; omega
theorem pair_hi (a b : Int) : pair a b / 65536 = b % 65536 := by unfold pair; omega
theorem pair_mod {a b a' b' : Int} (ha : a % 65536 = a' % 65536) (hb : b % 65536 = b' % 65536) : pair a b = pair a' b' := by unfold pair; rw [ha, hb]
theorem roll_pair (A B n o i : Int) (h1 : 1 ≤ n ∧ n ≤ 20000) (h2 : 0 ≤ o ∧ o ≤ 255) (h3 : 0 ≤ i ∧ i ≤ 255) : impl_roll.f (pair A B) n o i = some (pair (A - o + i) (B - n * o + (A - o + i))) := by
  have hp := pair_range A B
  have hm0 : 0 ≤ n * o := Int.mul_nonneg (by omega) h2.1
  have hm1 : n * o ≤ 20000 * 255 := Int.mul_le_mul h1.2 h2.2 h2.1 (by omega)
  unfold impl_roll.f
  rw [halves_eq _ hp.1 hp.2, Option.bind_some, weak_eq, Option.bind_some, pair_lo, pair_hi]
  generalize n * o = p at hm0 hm1 ⊢
  rw [w64 (x := i - o) (by omega) (by omega), w64 (x := p) (by omega) (by omega), w64 (x := A % 65536 + (i - o)) (by omega) (by omega), w64 (x := B % 65536 - p) (by omega) (by omega), w64 (by omega) (by omega)]
  congr 1
  exact pair_mod (by omega) (by omega)
theorem wa_snoc (m : List Int) (y : Int) : Weak.wa (m ++ [y]) = Weak.wa m + y := by
  induction m with
  | nil => simp [Weak.wa]
  | cons x m ih => simp only [List.cons_append, Weak.wa, ih]; omega
theorem wb_snoc (m : List Int) (y : Int) : Weak.wb (m ++ [y]) = Weak.wb m + Weak.wa m + y := by
  induction m with
  | nil => simp [Weak.wb, Weak.wa]
  | cons x m ih =>
    simp only [List.cons_append, Weak.wb, Weak.wa, ih, List.length_append, List.length_singleton]
    rw [Int.natCast_add, Int.natCast_one, Int.add_mul, Int.add_mul, Int.one_mul]
    omega
theorem cut_bytes (s : ByteArray) (i n : Nat) (hn : 1 ≤ n) (h : i + n < s.size) : ∃ m : List Int, m.length + 1 = n ∧ bytesOf (s.extract i (i + n)) = bt s (i : Int) :: m ∧ bytesOf (s.extract (i + 1) (i + 1 + n)) = m ++ [bt s ((i + n : Nat) : Int)] := by
  have hl := bytesOf_length s
  refine ⟨((bytesOf s).take (i + n)).drop (i + 1), ?_, ?_, ?_⟩
  · rw [List.length_drop, List.length_take]; omega
  · rw [extract_bytesOf, List.drop_take, drop_bt s i (by omega), List.drop_take, show i + n - i = (n - 1) + 1 by omega, List.take_succ_cons, show i + n - (i + 1) = n - 1 by omega]
  · have hd := drop_bt s (i + n) (by omega)
    have he : (bytesOf s).take (i + n + 1) = (bytesOf s).take (i + n) ++ [bt s ((i + n : Nat) : Int)] := by
      rw [List.take_succ_eq_append_getElem (by omega)]
      congr 2
      rw [List.drop_eq_getElem_cons (by omega)] at hd
      injection hd
    rw [extract_bytesOf, show i + 1 + n = i + n + 1 by omega, he, List.drop_append_of_le_length (by rw [List.length_take]; omega)]
/-- The weak sum of a cut moved by one. -/
theorem roll_cut (s : ByteArray) (i n : Nat) (hn : 1 ≤ n) (hs : s.size ≤ 20000) (h : i + n < s.size) : impl_roll.f (Weak.weakOf (s.extract i (i + n))) n (bt s (i : Int)) (bt s ((i + n : Nat) : Int)) = some (Weak.weakOf (s.extract (i + 1) (i + 1 + n))) := by
  obtain ⟨m, hm, h1, h2⟩ := cut_bytes s i n hn h
  have b1 := bt_range s (i : Int)
  have b2 := bt_range s ((i + n : Nat) : Int)
  unfold Weak.weakOf
  rw [h1, h2, roll_pair _ _ _ _ _ (by omega) (by omega) (by omega), wa_snoc, wb_snoc]
  simp only [Weak.wa, Weak.wb]
  rw [show ((m.length : Int) + 1) = (n : Int) by omega]
  generalize (n : Int) * bt s (i : Int) = p
  congr 1
  exact pair_mod (by omega) (by omega)
/-- The weak sums of all cuts of n bytes. -/
def sums (s : ByteArray) (n : Nat) : List Int := if n = 0 ∨ s.size < n then [] else (List.range (s.size + 1 - n)).map fun i => Weak.weakOf (s.extract i (i + n))
def sumsTo (s : ByteArray) (n m : Nat) : List Int := (List.range m).map fun i => Weak.weakOf (s.extract i (i + n))
theorem sumsTo_len (s : ByteArray) (n m : Nat) : (sumsTo s n m).length = m := by simp [sumsTo]
theorem sumsTo_rd (s : ByteArray) (n m i : Nat) (h : i < m) : rd (sumsTo s n m) (i : Int) = Weak.weakOf (s.extract i (i + n)) := by
  rw [rd_lt _ _ (by rw [sumsTo_len]; exact h)]; simp [sumsTo]
theorem sumsTo_succ (s : ByteArray) (n m : Nat) : sumsTo s n (m + 1) = sumsTo s n m ++ [Weak.weakOf (s.extract m (m + n))] := by
  unfold sumsTo; rw [List.range_succ, List.map_append]; rfl
theorem all_loop (s : ByteArray) (n : Nat) (hn : 1 ≤ n) (hs : s.size ≤ 20000) (d : Nat) : ∀ i : Nat, i + d = s.size → n ≤ i → Ev (fun k => impl_weakAll.l0 k s n (sumsTo s n (i - n + 1)) i) (sumsTo s n (s.size + 1 - n)) := by
  induction d with
  | zero =>
    intro i h hi
    refine ev_at fun k => ?_
    simp only [impl_weakAll.l0]
    rw [if_neg (by omega), show i - n + 1 = s.size + 1 - n by omega]
  | succ d ih =>
    intro i h hi
    have e : wrap64 ((i : Int) - (n : Int)) = ((i - n : Nat) : Int) := by rw [w64 (by omega) (by omega)]; omega
    have hr := roll_cut s (i - n) n hn hs (by omega)
    rw [show i - n + n = i by omega] at hr
    have := ih (i + 1) (by omega) (by omega)
    refine Ev.step (f := fun k => impl_weakAll.l0 k s n (sumsTo s n (i + 1 - n + 1)) ((i + 1 : Nat) : Int)) (fun k => ?_) this
    simp only [impl_weakAll.l0]
    rw [e, if_pos (by omega), if_pos (by omega), sumsTo_len, if_pos (by omega), if_pos (by omega), if_pos (by omega), sumsTo_rd s n _ _ (by omega), show i - n + n = i by omega, w64b, w64b, hr, Option.bind_some, if_pos (by omega), w64s i (by omega), show i + 1 - n + 1 = (i - n + 1) + 1 by omega, sumsTo_succ s n (i - n + 1)]
theorem all_ev (s : ByteArray) (n : Nat) (hs : s.size ≤ 20000) : Ev (fun k => impl_weakAll.f k s n) (sums s n) := by
  unfold impl_weakAll.f sums
  by_cases h : n = 0
  · subst h
    simp only [if_pos (show ((0 : Nat) : Int) < 1 by omega)]
    simp only [true_or, if_true]
    exact ev_at fun k => by simp [impl_weakAll.j0]
  simp only [if_neg (show ¬ (n : Int) < 1 by omega)]
  by_cases h2 : s.size < n
  · rw [if_pos (Or.inr h2), decide_eq_true (show (s.size : Int) < (n : Int) by omega)]
    exact ev_at fun k => by simp [impl_weakAll.j0]
  rw [if_neg (by omega), decide_eq_false (show ¬ (s.size : Int) < (n : Int) by omega)]
  have him := Weak.impl_ev (s.extract 0 n) (by rw [ByteArray.size_extract]; omega)
  have hl := all_loop s n (by omega) hs (s.size - n) n (by omega) (by omega)
  rw [show n - n + 1 = 1 by omega, show sumsTo s n 1 = [Weak.weakOf (s.extract 0 (0 + n))] from rfl, Nat.zero_add] at hl
  refine Ev.step (f := fun k => (impl_weakOf.f k (s.extract 0 n)).bind fun t => impl_weakAll.l0 k s n [t] n) (fun k => ?_) (Ev.bind him hl)
  simp only [impl_weakAll.j0]
  rw [if_neg (by simp), if_pos (by omega), if_pos (by omega), Int.toNat_natCast]
theorem sums_len (s : ByteArray) (n : Nat) : (sums s n).length = if n = 0 ∨ s.size < n then 0 else s.size + 1 - n := by
  unfold sums
  by_cases h : n = 0 ∨ s.size < n
  · rw [if_pos h, if_pos h]; rfl
  · rw [if_neg h, if_neg h]; simp
theorem sums_rd (s : ByteArray) (n i : Nat) (hn : 1 ≤ n) (h : i + n ≤ s.size) : rd (sums s n) (i : Int) = Weak.weakOf (s.extract i (i + n)) := by
  unfold sums
  rw [if_neg (by omega)]
  exact sumsTo_rd s n _ i (by omega)
theorem weak_range (s : ByteArray) : 0 ≤ Weak.weakOf s ∧ Weak.weakOf s < 4294967296 := pair_range _ _
theorem sums_range (s : ByteArray) (n : Nat) : ∀ x ∈ sums s n, 0 ≤ x ∧ x < 4294967296 := fun x hx => by
  unfold sums at hx
  split at hx
  · cases hx
  · obtain ⟨i, _, rfl⟩ := List.mem_map.1 hx
    exact weak_range _
end Go.Proofs.YtbkodnhnadkhdaaDoor.DlP
