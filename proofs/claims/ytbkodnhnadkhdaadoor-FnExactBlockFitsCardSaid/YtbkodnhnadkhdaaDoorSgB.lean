/- What the weak sum's small functions come to, over plain numbers. Condition: the sums handed in are words. -/
import Derived.Test.YtbkodnhnadkhdaaDoorPBfx0
import Derived.Test.YtbkodnhnadkhdaaDoorPBfx7
import Derived.Test.YtbkodnhnadkhdaaDoorLib
import Derived.Test.YtbkodnhnadkhdaaDoorPBfx4
import Derived.Test.YtbkodnhnadkhdaaDoorPBfx8
import Derived.Test.YtbkodnhnadkhdaaDoorStrV
import Derived.Test.YtbkodnhnadkhdaaDoorOpen
import Derived.Test.YtbkodnhnadkhdaaDoorProg
import Derived.KernelRfl
import Derived.Test.YtbkodnhnadkhdaaDoorPBfx9
section
/- What the weak sum's small functions come to, over plain numbers. Condition: the sums handed in are words. -/
namespace Go.Proofs.YtbkodnhnadkhdaaDoor.Sums
open Go Go.RowKit Go.Proofs.YtbkodnhnadkhdaaDoor.PBf Go.Proofs.YtbkodnhnadkhdaaDoorW.PrintWords Go.Proofs.YtbkodnhnadkhdaaDoor.Arith Go.Proofs.YtbkodnhnadkhdaaDoor.Lib
set_option linter.unusedSimpArgs false
set_option linter.unusedVariables false

theorem in_eq (a b c : Int) : spec_l01In.f a b c = some (decide (b ≤ a ∧ a ≤ c)) := by
  unfold spec_l01In.f
  by_cases h : b ≤ a <;> by_cases h' : a ≤ c <;> simp [h, h']
theorem within_eq (a b c : Int) : impl_within.f a b c = some (decide (b ≤ a ∧ a ≤ c)) := by
  unfold impl_within.f
  by_cases h : b ≤ a <;> by_cases h' : a ≤ c <;> simp [h, h']
theorem pair_eq (a b : Int) : spec_l03Pair.f a b = some (pair a b) := by
  unfold spec_l03Pair.f; rw [pair_spec]
theorem weak_eq (a b : Int) : impl_weak.f a b = some (pair a b) := by
  unfold impl_weak.f; rw [pair_impl]
theorem u32_bounds {u : Int} (h : (Lit.int .u32 u).wf = true) : 0 ≤ u ∧ u < 4294967296 := by
  simp [Lit.wf, IntKind.min, IntKind.max, IntKind.signed, IntKind.bits] at h; omega


end Go.Proofs.YtbkodnhnadkhdaaDoor.Sums
end

section
/- What the two loops of the weak sum come to: the word of two sums over the bytes. Condition: at most 20000 bytes. -/
namespace Go.Proofs.YtbkodnhnadkhdaaDoor.Weak
open Go Go.RowKit Go.Proofs.YtbkodnhnadkhdaaDoor.PBf Go.Proofs.YtbkodnhnadkhdaaDoorW.PrintWords Go.Proofs.YtbkodnhnadkhdaaDoor.Arith Go.Proofs.YtbkodnhnadkhdaaDoor.Lib Go.Proofs.YtbkodnhnadkhdaaDoor.Sums
set_option linter.unusedSimpArgs false
set_option linter.unusedVariables false

def wa : List Int → Int
  | [] => 0
  | x :: l => x + wa l
def wb : List Int → Int
  | [] => 0
  | x :: l => ((l.length : Int) + 1) * x + wb l
theorem wa_range (s : ByteArray) (d i : Nat) (h : i + d = s.size) : 0 ≤ wa ((bytesOf s).drop i) ∧ wa ((bytesOf s).drop i) ≤ 255 * (d : Int) := by
  induction d generalizing i with
  | zero => rw [drop_end s i (by omega)]; simp [wa]
  | succ d ih =>
    rw [drop_bt s i (by omega)]
    have := ih (i + 1) (by omega)
    have hb := bt_range s i
    simp only [wa]; omega
theorem wb_range (s : ByteArray) (hs : s.size ≤ 20000) (d i : Nat) (h : i + d = s.size) : 0 ≤ wb ((bytesOf s).drop i) ∧ wb ((bytesOf s).drop i) ≤ 5100000 * (d : Int) := by
  induction d generalizing i with
  | zero => rw [drop_end s i (by omega)]; simp [wb]
  | succ d ih =>
    rw [drop_bt s i (by omega)]
    have := ih (i + 1) (by omega)
    have hb := bt_range s i
    simp only [wb]
    have hl : (((bytesOf s).drop (i + 1)).length : Int) + 1 = (d : Int) + 1 := by rw [List.length_drop, bytesOf_length]; omega
    rw [hl]
    have hm : 0 ≤ ((d : Int) + 1) * bt s i := Int.mul_nonneg (by omega) hb.1
    have hm2 : ((d : Int) + 1) * bt s i ≤ 20000 * 255 := Int.mul_le_mul (by omega) hb.2 hb.1 (by omega)
    omega

theorem spec_loop (s : ByteArray) (hs : s.size ≤ 20000) (d : Nat) : ∀ (i : Nat) (a b : Int), i + d = s.size → 0 ≤ a → a ≤ 255 * (i : Int) → 0 ≤ b → b ≤ 5100000 * (i : Int) →
    Ev (fun k => spec_WeakOf.l0 k s a b i) (pair (a + wa ((bytesOf s).drop i)) (b + wb ((bytesOf s).drop i))) := by
  induction d with
  | zero =>
    intro i a b h _ _ _ _
    refine ev_at fun k => ?_
    simp only [spec_WeakOf.l0]
    rw [if_neg (by omega), drop_end s i (by omega), pair_eq]
    simp [wa, wb]
  | succ d ih =>
    intro i a b h a0 a1 b0 b1
    have hb := bt_range s i
    have hm : 0 ≤ ((d : Int) + 1) * bt s i := Int.mul_nonneg (by omega) hb.1
    have hm2 : ((d : Int) + 1) * bt s i ≤ 20000 * 255 := Int.mul_le_mul (by omega) hb.2 hb.1 (by omega)
    have hl : (((bytesOf s).drop (i + 1)).length : Int) + 1 = (d : Int) + 1 := by rw [List.length_drop, bytesOf_length]; omega
    have e : ((s.size : Int) - i) = (d : Int) + 1 := by omega
    refine Ev.step (f := fun k => spec_WeakOf.l0 k s (a + bt s i) (b + ((d : Int) + 1) * bt s i) ((i + 1 : Nat) : Int)) (fun k => ?_) ?_
    · simp only [spec_WeakOf.l0]
      rw [if_pos (by omega), if_pos (by omega), w64b, e, w64 (x := (d : Int) + 1) (by omega) (by omega), w64 (x := ((d : Int) + 1) * bt s i) (by omega) (by omega), w64s i (by omega), w64 (x := a + bt s i) (by omega) (by omega), w64 (by omega) (by omega)]
    · have := ih (i + 1) (a + bt s i) (b + ((d : Int) + 1) * bt s i) (by omega) (by omega) (by omega) (by omega) (by omega)
      rw [drop_bt s i (by omega)]
      simp only [wa, wb, hl]
      rw [← Int.add_assoc, ← Int.add_assoc]
      exact this

theorem impl_loop (s : ByteArray) (hs : s.size ≤ 20000) (d : Nat) : ∀ (i : Nat) (a b : Int), i + d = s.size → 0 ≤ a → a ≤ 255 * (i : Int) → 0 ≤ b → b ≤ 5100000 * (i : Int) →
    Ev (fun k => impl_weakOf.l0 k s a b s.size i) (pair (a + wa ((bytesOf s).drop i)) (b + (d : Int) * a + wb ((bytesOf s).drop i))) := by
  induction d with
  | zero =>
    intro i a b h _ _ _ _
    refine ev_at fun k => ?_
    simp only [impl_weakOf.l0]
    rw [if_neg (by omega), drop_end s i (by omega), weak_eq]
    simp [wa, wb]
  | succ d ih =>
    intro i a b h a0 a1 b0 b1
    have hb := bt_range s i
    have hl : (((bytesOf s).drop (i + 1)).length : Int) + 1 = (d : Int) + 1 := by rw [List.length_drop, bytesOf_length]; omega
    refine Ev.step (f := fun k => impl_weakOf.l0 k s (a + bt s i) (b + (a + bt s i)) s.size ((i + 1 : Nat) : Int)) (fun k => ?_) ?_
    · simp only [impl_weakOf.l0]
      rw [if_pos (by omega), if_pos (by omega), if_pos (by omega), w64b, w64s i (by omega), w64 (x := a + bt s i) (by omega) (by omega), w64 (by omega) (by omega)]
    · have := ih (i + 1) (a + bt s i) (b + (a + bt s i)) (by omega) (by omega) (by omega) (by omega) (by omega)
      rw [drop_bt s i (by omega)]
      simp only [wa, wb, hl]
      have ea : a + (bt s i + wa ((bytesOf s).drop (i + 1))) = a + bt s i + wa ((bytesOf s).drop (i + 1)) := by omega
      have eb : b + ((d + 1 : Nat) : Int) * a + (((d : Int) + 1) * bt s i + wb ((bytesOf s).drop (i + 1))) = b + (a + bt s i) + (d : Int) * (a + bt s i) + wb ((bytesOf s).drop (i + 1)) := by
        rw [Int.natCast_add, Int.natCast_one, Int.add_mul, Int.add_mul, Int.mul_add, Int.one_mul, Int.one_mul]; omega
      rw [ea, eb]
      exact this

def weakOf (s : ByteArray) : Int := pair (wa (bytesOf s)) (wb (bytesOf s))
theorem spec_ev (s : ByteArray) (hs : s.size ≤ 20000) : Ev (fun k => spec_WeakOf.l0 k s 0 0 0) (weakOf s) := by
  have := spec_loop s hs s.size 0 0 0 (by omega) (by omega) (by omega) (by omega) (by omega)
  simpa [weakOf] using this
theorem impl_ev (s : ByteArray) (hs : s.size ≤ 20000) : Ev (fun k => impl_weakOf.f k s) (weakOf s) := by
  have := impl_loop s hs s.size 0 0 0 (by omega) (by omega) (by omega) (by omega) (by omega)
  simpa [weakOf, impl_weakOf.f] using this

end Go.Proofs.YtbkodnhnadkhdaaDoor.Weak
end

section
/- A signature handed in: copied into the program's own type it is equal again; its size is small or the law says true at once; what SigLen and SigOk give. No condition but the lengths. -/
namespace Go.Proofs.YtbkodnhnadkhdaaDoor.RecSig
open Go Go.RowKit Go.Proofs.YtbkodnhnadkhdaaDoor.PBf Go.Proofs.YtbkodnhnadkhdaaDoorW.PrintWords Go.Proofs.YtbkodnhnadkhdaaDoorW.PrintMore Go.Proofs.YtbkodnhnadkhdaaDoor.Arith Go.Proofs.YtbkodnhnadkhdaaDoor.Lib
set_option linter.unusedSimpArgs false
set_option linter.unusedVariables false

theorem getD_at {α : Type} (z : α) (l : List α) (i : Nat) (h : i < l.length) : l.getD i z = l[i] := by
  simp [List.getD_eq_getElem?_getD, List.getElem?_eq_getElem h]
theorem rdS (l : List ByteArray) (i : Nat) (h : i < l.length) : rdOf ByteArray.empty l (i : Int) = l[i] := by
  unfold rdOf; rw [Int.toNat_natCast]; exact getD_at _ _ _ h
theorem toW_loop (l : List Int) (hl : l.length ≤ 2097152) (d : Nat) : ∀ (i : Nat) (x : List Int), i + d = l.length → x.length = l.length → x.take i = l.take i → Ev (fun k => laws_toUint32S.l0 k l x i) l := by
  induction d with
  | zero =>
    intro i x h hx ht
    refine ev_at fun k => ?_
    simp only [laws_toUint32S.l0]
    rw [if_neg (by omega)]
    rw [List.take_of_length_le (by omega), List.take_of_length_le (by omega)] at ht
    rw [ht]
  | succ d ih =>
    intro i x h hx ht
    have hi : i < l.length := by omega
    refine Ev.step (f := fun k => laws_toUint32S.l0 k l (x.set i l[i]) ((i + 1 : Nat) : Int)) (fun k => ?_) (ih (i + 1) (x.set i l[i]) (by omega) (by rw [List.length_set]; exact hx) ?_)
    · simp only [laws_toUint32S.l0]
      rw [if_pos (by omega), if_pos (by omega), if_pos (by omega), w64s i (by omega), rd_lt l i hi, Int.toNat_natCast]
    · have h1 : i < (x.set i l[i]).length := by rw [List.length_set]; omega
      rw [List.take_succ_eq_append_getElem h1, List.getElem_set_self, List.take_set_of_le (Nat.le_refl i), ht, List.take_succ_eq_append_getElem hi]
theorem toW_ev (l : List Int) (hl : l.length ≤ 2097152) : Ev (fun k => laws_toUint32S.f k l) l := by
  unfold laws_toUint32S.f
  simp only [if_pos (show (0 : Int) ≤ (l.length : Int) by omega), Int.toNat_natCast, if_pos (show l.length ≤ 70368744177664 by omega)]
  exact toW_loop l hl l.length 0 _ (by omega) (by simp) (by simp)
theorem toS_loop (l : List ByteArray) (hl : l.length ≤ 2097152) (d : Nat) : ∀ (i : Nat) (x : List ByteArray), i + d = l.length → x.length = l.length → x.take i = l.take i → Ev (fun k => laws_toStringS.l0 k l x i) l := by
  induction d with
  | zero =>
    intro i x h hx ht
    refine ev_at fun k => ?_
    simp only [laws_toStringS.l0]
    rw [if_neg (by omega)]
    rw [List.take_of_length_le (by omega), List.take_of_length_le (by omega)] at ht
    rw [ht]
  | succ d ih =>
    intro i x h hx ht
    have hi : i < l.length := by omega
    refine Ev.step (f := fun k => laws_toStringS.l0 k l (x.set i l[i]) ((i + 1 : Nat) : Int)) (fun k => ?_) (ih (i + 1) (x.set i l[i]) (by omega) (by rw [List.length_set]; exact hx) ?_)
    · simp only [laws_toStringS.l0]
      rw [if_pos (by omega), if_pos (by omega), if_pos (by omega), w64s i (by omega), rdS l i hi, Int.toNat_natCast]
    · have h1 : i < (x.set i l[i]).length := by rw [List.length_set]; omega
      rw [List.take_succ_eq_append_getElem h1, List.getElem_set_self, List.take_set_of_le (Nat.le_refl i), ht, List.take_succ_eq_append_getElem hi]
theorem toS_ev (l : List ByteArray) (hl : l.length ≤ 2097152) : Ev (fun k => laws_toStringS.f k l) l := by
  unfold laws_toStringS.f
  simp only [if_pos (show (0 : Int) ≤ (l.length : Int) by omega), Int.toNat_natCast, if_pos (show l.length ≤ 17592186044416 by omega)]
  exact toS_loop l hl l.length 0 _ (by omega) (by simp) (by simp)
theorem to_ev (a b : Int) (l : List Int) (m : List ByteArray) (hl : l.length ≤ 2097152) (hm : m.length ≤ 2097152) : Ev (fun k => laws_toSig.f k a b l m) (a, b, l, m) := by
  unfold laws_toSig.f
  exact Ev.bind (toW_ev l hl) (Ev.bind (toS_ev m hm) (Ev.now _))
theorem szS_loop (l : List ByteArray) (hl : l.length ≤ 2097152) (d : Nat) : ∀ (i : Nat) (a : Int), i + d = l.length → ∃ t, Ev (fun k => laws_szStringS.l0 k l a i) t := by
  induction d with
  | zero =>
    intro i a h
    refine ⟨a, ev_at fun k => ?_⟩
    simp only [laws_szStringS.l0]
    rw [if_neg (by omega)]
  | succ d ih =>
    intro i a h
    by_cases h0 : wrap64 (a - ((rdOf ByteArray.empty l i).size : Int)) < 0
    · refine ⟨-1, ev_at fun k => ?_⟩
      simp only [laws_szStringS.l0]
      rw [if_pos (by omega), if_pos (by omega), if_pos h0]
    · obtain ⟨t, ht⟩ := ih (i + 1) (wrap64 (a - ((rdOf ByteArray.empty l i).size : Int))) (by omega)
      refine ⟨t, Ev.step (fun k => ?_) ht⟩
      simp only [laws_szStringS.l0]
      rw [if_pos (by omega), if_pos (by omega), if_neg h0, w64s i (by omega)]
theorem sz_ev (a b : Int) (l : List Int) (m : List ByteArray) (hl : l.length ≤ 9223372036854775807) (hm : m.length ≤ 9223372036854775807) : ∃ t, Ev (fun k => laws_szSig.f k a b l m 1048576) t ∧ (t < 0 ∨ l.length ≤ 1048576 ∧ m.length ≤ 1048576) := by
  unfold laws_szSig.f laws_szUint32S.f
  rw [w64 (x := 1048576 - (l.length : Int)) (by omega) (by omega)]
  by_cases h : (1048576 : Int) - (l.length : Int) < 0
  · rw [if_pos h]; exact ⟨-1, Ev.now _, Or.inl (by omega)⟩
  rw [if_neg h]
  simp only [Option.bind_some, if_neg h, laws_szStringS.f]
  rw [w64 (x := 1048576 - (l.length : Int) - (m.length : Int)) (by omega) (by omega)]
  by_cases h1 : (1048576 : Int) - (l.length : Int) - (m.length : Int) < 0
  · simp only [if_pos h1]; exact ⟨-1, Ev.now _, Or.inl (by omega)⟩
  simp only [if_neg h1]
  obtain ⟨t, ht⟩ := szS_loop m (by omega) m.length 0 (1048576 - (l.length : Int) - (m.length : Int)) (by omega)
  by_cases h2 : t < 0
  · exact ⟨-1, Ev.bind ht (by simp only [if_pos h2]; exact Ev.now _), Or.inl (by omega)⟩
  · exact ⟨t, Ev.bind ht (by simp only [if_neg h2]; exact Ev.now _), Or.inr (by omega)⟩
theorem eqW_loop (l : List Int) (hl : l.length ≤ 2097152) (d : Nat) : ∀ i : Nat, i + d = l.length → Ev (fun k => laws_eqUint32S.l0 k l l i) true := by
  induction d with
  | zero =>
    intro i h
    refine ev_at fun k => ?_
    simp only [laws_eqUint32S.l0]
    rw [if_neg (by omega)]
  | succ d ih =>
    intro i h
    refine Ev.step (f := fun k => laws_eqUint32S.l0 k l l ((i + 1 : Nat) : Int)) (fun k => ?_) (ih (i + 1) (by omega))
    simp only [laws_eqUint32S.l0, if_true]
    rw [if_pos (by omega), if_pos (by omega), if_pos (by omega), w64s i (by omega)]
theorem eqS_loop (l : List ByteArray) (hl : l.length ≤ 2097152) (d : Nat) : ∀ i : Nat, i + d = l.length → Ev (fun k => laws_eqStringS.l0 k l l i) true := by
  induction d with
  | zero =>
    intro i h
    refine ev_at fun k => ?_
    simp only [laws_eqStringS.l0]
    rw [if_neg (by omega)]
  | succ d ih =>
    intro i h
    refine Ev.step (f := fun k => laws_eqStringS.l0 k l l ((i + 1 : Nat) : Int)) (fun k => ?_) (ih (i + 1) (by omega))
    simp only [laws_eqStringS.l0, if_true]
    rw [if_pos (by omega), if_pos (by omega), if_pos (by omega), w64s i (by omega)]
theorem eq_ev (a b : Int) (l : List Int) (m : List ByteArray) (hl : l.length ≤ 2097152) (hm : m.length ≤ 2097152) : Ev (fun k => laws_eqSig.f k a b l m a b l m) true := by
  unfold laws_eqSig.f laws_eqUint32S.f laws_eqStringS.f
  simp only [if_true]
  refine Ev.bind (eqW_loop l hl l.length 0 (by omega)) ?_
  simp only [if_true]
  refine Ev.bind (eqS_loop m hm m.length 0 (by omega)) ?_
  simp only [if_true]
  exact Ev.now _

/-- The cut is one that a text can have. -/
def isCut (a b : Int) (n : Nat) : Bool := decide (1 ≤ a ∧ a ≤ 256 ∧ 0 ≤ b ∧ b ≤ a - 1 ∧ n ≤ 2500)
theorem in_ (x y z : Int) : spec_l01In.f x y z = some (decide (y ≤ x ∧ x ≤ z)) := by
  unfold spec_l01In.f
  by_cases h : y ≤ x <;> simp [h]
theorem within_ (x y z : Int) : impl_within.f x y z = some (decide (y ≤ x ∧ x ≤ z)) := by
  unfold impl_within.f
  by_cases h : y ≤ x <;> simp [h]
/-- A signature's length. -/
def slen (a b : Int) (n : Nat) : Int := if isCut a b n then (if n = 0 then 0 else if b > 0 then a * n + b - a else a * n) else 0
theorem mul_bound {a : Int} {n : Nat} (h0 : 1 ≤ a) (h1 : a ≤ 256) (h2 : n ≤ 2500) : 0 ≤ a * (n : Int) ∧ a * (n : Int) ≤ 640000 :=
  ⟨Int.mul_nonneg (by omega) (by omega), Int.le_trans (Int.mul_le_mul h1 (show (n : Int) ≤ 2500 by omega) (by omega) (by omega)) (by omega)⟩
theorem mul_pos {a : Int} {n : Nat} (h0 : 1 ≤ a) (h2 : n ≠ 0) : a ≤ a * (n : Int) := by
  have := Int.mul_le_mul_of_nonneg_left (show (1 : Int) ≤ (n : Int) by omega) (show 0 ≤ a by omega)
  omega
theorem wa {a : Int} (h0 : 1 ≤ a) (h1 : a ≤ 256) : wrap64 (a - 1) = a - 1 := w64 (by omega) (by omega)
theorem spec_len (a b : Int) (l : List Int) (m : List ByteArray) : Ev (fun k => spec_SigLen.f k a b l m) (slen a b l.length) := by
  unfold spec_SigLen.f
  simp only [in_, Option.bind_some]
  by_cases h : 1 ≤ a ∧ a ≤ 256
  · simp only [h, and_self, decide_true, if_true, wa h.1 h.2]
    by_cases h1 : 0 ≤ b ∧ b ≤ a - 1
    · simp only [h1, and_self, decide_true, if_true]
      by_cases h2 : (l.length : Int) > 2500
      · have : slen a b l.length = 0 := by unfold slen isCut; rw [if_neg]; simp; omega
        rw [this]
        exact ev_at fun k => by simp [spec_SigLen.j0, h2]
      · have hb := mul_bound (n := l.length) h.1 h.2 (by omega)
        have : slen a b l.length = if l.length = 0 then 0 else if b > 0 then a * l.length + b - a else a * l.length := by unfold slen isCut; rw [if_pos]; simp; omega
        rw [this]
        refine ev_at fun k => ?_
        simp only [spec_SigLen.j0, h2, decide_false, Bool.false_eq_true, if_false]
        rw [w64 (x := a * (l.length : Int)) (by omega) (by omega)]
        by_cases h3 : l.length = 0
        · simp [h3]
        · have := mul_pos (n := l.length) h.1 h3
          rw [if_neg h3, if_pos (show a * (l.length : Int) > 0 by omega), w64 (x := a * (l.length : Int) - a) (by omega) (by omega), w64 (by omega) (by omega)]
          by_cases h4 : b > 0
          · rw [if_pos h4, if_pos h4]; congr 1; omega
          · rw [if_neg h4, if_neg h4]
    · have : slen a b l.length = 0 := by unfold slen isCut; rw [if_neg]; simp; omega
      rw [this]
      simp only [h1, decide_false, Bool.false_eq_true, if_false]
      exact ev_at fun k => by simp [spec_SigLen.j0]
  · have : slen a b l.length = 0 := by unfold slen isCut; rw [if_neg]; simp; omega
    rw [this]
    simp only [h, decide_false, Bool.false_eq_true, if_false]
    exact ev_at fun k => by simp [spec_SigLen.j0]
theorem cut_impl (a b : Int) (l : List Int) (m : List ByteArray) : impl_Sig_isCut.f a b l m = some (isCut a b l.length) := by
  unfold impl_Sig_isCut.f isCut
  simp only [within_, Option.bind_some]
  by_cases h : 1 ≤ a ∧ a ≤ 256
  · simp only [h, and_self, decide_true, if_true, wa h.1 h.2, true_and]
    by_cases h1 : 0 ≤ b ∧ b ≤ a - 1
    · simp only [h1, and_self, decide_true, if_true, true_and, Option.some.injEq, decide_eq_decide]; omega
    · simp only [h1, decide_false, Bool.false_eq_true, if_false, Option.some.injEq]
      symm; rw [decide_eq_false_iff_not]; omega
  · simp only [h, decide_false, Bool.false_eq_true, if_false, Option.some.injEq]
    symm; rw [decide_eq_false_iff_not]; omega
theorem impl_len (a b : Int) (l : List Int) (m : List ByteArray) : Ev (fun k => impl_SigLen.f k a b l m) (slen a b l.length) := by
  unfold impl_SigLen.f
  simp only [cut_impl, Option.bind_some]
  cases hc : isCut a b l.length with
  | false =>
    have : slen a b l.length = 0 := by unfold slen; rw [hc]; rfl
    rw [this]
    simp only [Bool.false_eq_true, if_false]
    exact ev_at fun k => by simp [impl_SigLen.j0]
  | true =>
    have h : 1 ≤ a ∧ a ≤ 256 ∧ 0 ≤ b ∧ b ≤ a - 1 ∧ l.length ≤ 2500 := by unfold isCut at hc; exact of_decide_eq_true hc
    have : slen a b l.length = if l.length = 0 then 0 else if b > 0 then a * l.length + b - a else a * l.length := by unfold slen; rw [hc]; rfl
    rw [this]
    simp only [if_true]
    have hb := mul_bound (n := l.length) h.1 h.2.1 h.2.2.2.2
    refine ev_at fun k => ?_
    by_cases h3 : l.length = 0
    · simp [impl_SigLen.j0, h3]
    · have := mul_pos (n := l.length) h.1 h3
      have h3' : ((l.length : Int) == 0) = false := by simp; intro e; simp [e] at h3
      simp only [impl_SigLen.j0, h3', Bool.false_eq_true, if_false]
      rw [if_neg h3, w64 (x := a * (l.length : Int)) (by omega) (by omega), w64 (x := b - a) (by omega) (by omega), w64 (by omega) (by omega)]
      by_cases h4 : b > 0
      · rw [if_pos h4, if_pos h4]; congr 1; omega
      · rw [if_neg h4, if_neg h4]

end Go.Proofs.YtbkodnhnadkhdaaDoor.RecSig
end

section
/- What SigOk gives, in the program and in the reference. Condition: at most 2^21 texts. -/
namespace Go.Proofs.YtbkodnhnadkhdaaDoor.SigOk
open Go Go.RowKit Go.Proofs.YtbkodnhnadkhdaaDoor.PBf Go.Proofs.YtbkodnhnadkhdaaDoorW.PrintWords Go.Proofs.YtbkodnhnadkhdaaDoorW.PrintMore Go.Proofs.YtbkodnhnadkhdaaDoor.Arith Go.Proofs.YtbkodnhnadkhdaaDoor.Lib Go.Proofs.YtbkodnhnadkhdaaDoor.RecSig
set_option linter.unusedSimpArgs false
set_option linter.unusedVariables false

def four (s : ByteArray) : Bool := decide ((s.size : Int) = 4)
theorem all_step (l : List ByteArray) (i : Nat) (h : i < l.length) : (l.drop i).all four = (four l[i] && (l.drop (i + 1)).all four) := by
  rw [List.drop_eq_getElem_cons h]; rfl
theorem any_loop (l : List ByteArray) (hl : l.length ≤ 2097152) (d : Nat) : ∀ (i : Nat), i + d = l.length → ∃ t, any_impl_SigOk_1.l0 (d + 1) l i = some t ∧ decide (t ≥ 0) = !(l.drop i).all four := by
  induction d with
  | zero =>
    intro i h
    refine ⟨-1, ?_, ?_⟩
    · simp only [any_impl_SigOk_1.l0]
      rw [if_neg (by omega)]
    · rw [List.drop_eq_nil_of_le (by omega)]; rfl
  | succ d ih =>
    intro i h
    have hi : i < l.length := by omega
    rw [all_step l i hi]
    have hr : any_impl_SigOk_1.l0 (d + 1 + 1) l i = if four l[i] = false then some (i : Int) else any_impl_SigOk_1.l0 (d + 1) l ((i + 1 : Nat) : Int) := by
      rw [any_impl_SigOk_1.l0, if_pos (by omega), if_pos (by omega), rdS l i hi, impl_SigOk_1.f, w64s i (by omega)]
      by_cases h4 : ((l[i]).size : Int) = 4
      · have : four l[i] = true := by unfold four; exact decide_eq_true h4
        rw [this]; simp [h4]
      · have : four l[i] = false := by unfold four; exact decide_eq_false h4
        rw [this]; simp [h4]
    cases ho : four l[i] with
    | false =>
      refine ⟨i, by rw [hr, ho]; rfl, ?_⟩
      simp
    | true =>
      obtain ⟨t, h1, h2⟩ := ih (i + 1) (by omega)
      refine ⟨t, by rw [hr, ho]; exact h1, ?_⟩
      rw [h2]; simp
theorem any_f (l : List ByteArray) (hl : l.length ≤ 2097152) : any_impl_SigOk_1.f l = some (!l.all four) := by
  unfold any_impl_SigOk_1.f
  obtain ⟨t, h1, h2⟩ := any_loop l hl l.length 0 (by omega)
  rw [show ((0 : Nat) : Int) = 0 from rfl] at h1
  rw [h1, Option.bind_some, h2, List.drop_zero]
/-- A signature that can be one. -/
def sigOk (a b : Int) (l : List Int) (m : List ByteArray) : Bool := isCut a b l.length && decide (l.length = m.length) && m.all four && decide (b = 0 ∨ 0 < l.length) && decide (slen a b l.length ≤ 20000)
theorem impl_ok (a b : Int) (l : List Int) (m : List ByteArray) (hm : m.length ≤ 2097152) : Ev (fun k => impl_SigOk.f k a b l m) (sigOk a b l m) := by
  unfold impl_SigOk.f sigOk
  simp only [cut_impl, Option.bind_some, any_f m hm]
  cases hc : isCut a b l.length with
  | false => simp only [Bool.false_eq_true, if_false, Bool.false_and]; exact Ev.now _
  | true =>
    simp only [if_true, Bool.true_and]
    by_cases h : l.length = m.length
    · have h' : (l.length : Int) = (m.length : Int) := by omega
      simp only [if_pos h', decide_eq_true h, Bool.true_and]
      cases hf : m.all four with
      | false =>
        simp only [Bool.not_false, if_true, Bool.false_and]
        by_cases hb : b = 0
        · simp only [if_pos hb]; exact Ev.now _
        · simp only [if_neg hb]
          by_cases h0 : (l.length : Int) > 0
          · simp only [if_pos h0]; exact Ev.now _
          · simp only [if_neg h0]; exact Ev.now _
      | true =>
        simp only [Bool.not_true, Bool.false_eq_true, if_false, Bool.true_and]
        by_cases hb : b = 0
        · simp only [if_pos hb]
          rw [decide_eq_true (show b = 0 ∨ 0 < l.length from Or.inl hb), Bool.true_and]
          exact Ev.bind (impl_len a b l m) (Ev.now _)
        · simp only [if_neg hb]
          by_cases h0 : (l.length : Int) > 0
          · simp only [if_pos h0]
            rw [decide_eq_true (show b = 0 ∨ 0 < l.length from Or.inr (by omega)), Bool.true_and]
            exact Ev.bind (impl_len a b l m) (Ev.now _)
          · simp only [if_neg h0]
            rw [decide_eq_false (show ¬ (b = 0 ∨ 0 < l.length) by omega), Bool.false_and]
            exact Ev.now _
    · have h' : ¬ (l.length : Int) = (m.length : Int) := by omega
      simp only [if_neg h', decide_eq_false h, Bool.false_and]; exact Ev.now _
theorem spec_loop (a b : Int) (l : List Int) (m : List ByteArray) (hm : m.length ≤ 2097152) (d : Nat) : ∀ (i : Nat), i + d = m.length → Ev (fun k => spec_SigOk.l0 k i a b l m) ((m.drop i).all four && decide (b = 0 ∨ 0 < l.length) && decide (slen a b l.length ≤ 20000)) := by
  induction d with
  | zero =>
    intro i h
    rw [List.drop_eq_nil_of_le (by omega), List.all_nil, Bool.true_and]
    by_cases hb : b = 0
    · rw [decide_eq_true (show b = 0 ∨ 0 < l.length from Or.inl hb), Bool.true_and]
      refine Ev.step (f := fun k => (spec_SigLen.f k a b l m).bind fun t => some (decide (t ≤ 20000))) (fun k => ?_) (Ev.bind (spec_len a b l m) (Ev.now _))
      simp only [spec_SigOk.l0]
      rw [if_neg (by omega), if_pos hb]
    · by_cases h0 : (l.length : Int) > 0
      · rw [decide_eq_true (show b = 0 ∨ 0 < l.length from Or.inr (by omega)), Bool.true_and]
        refine Ev.step (f := fun k => (spec_SigLen.f k a b l m).bind fun t => some (decide (t ≤ 20000))) (fun k => ?_) (Ev.bind (spec_len a b l m) (Ev.now _))
        simp only [spec_SigOk.l0]
        rw [if_neg (by omega), if_neg hb, if_pos h0]
      · rw [decide_eq_false (show ¬ (b = 0 ∨ 0 < l.length) by omega), Bool.false_and]
        refine ev_at fun k => ?_
        simp only [spec_SigOk.l0]
        rw [if_neg (by omega), if_neg hb, if_neg h0]
  | succ d ih =>
    intro i h
    have hi : i < m.length := by omega
    rw [all_step m i hi]
    by_cases h4 : ((m[i]).size : Int) = 4
    · rw [show four m[i] = true from decide_eq_true h4, Bool.true_and]
      refine Ev.step (fun k => ?_) (ih (i + 1) (by omega))
      simp only [spec_SigOk.l0]
      rw [if_pos (by omega), if_pos (by omega), rdS m i hi, if_pos h4, w64s i (by omega)]
    · rw [show four m[i] = false from decide_eq_false h4]
      simp only [Bool.false_and]
      refine ev_at fun k => ?_
      simp only [spec_SigOk.l0]
      rw [if_pos (by omega), if_pos (by omega), rdS m i hi, if_neg h4]
theorem spec_j (a b : Int) (l : List Int) (m : List ByteArray) : Ev (fun k => spec_SigOk.j0 k true a b l m) false := ev_at fun k => by simp [spec_SigOk.j0]
theorem spec_ok (a b : Int) (l : List Int) (m : List ByteArray) (hm : m.length ≤ 2097152) : Ev (fun k => spec_SigOk.f k a b l m) (sigOk a b l m) := by
  unfold spec_SigOk.f
  simp only [in_, Option.bind_some]
  by_cases h : 1 ≤ a ∧ a ≤ 256
  · simp only [h, and_self, decide_true, if_true, wa h.1 h.2]
    by_cases h1 : 0 ≤ b ∧ b ≤ a - 1
    · simp only [h1, and_self, decide_true, if_true]
      by_cases h2 : (l.length : Int) > 2500
      · have : sigOk a b l m = false := by
          have : isCut a b l.length = false := by unfold isCut; rw [decide_eq_false_iff_not]; omega
          unfold sigOk; rw [this]; rfl
        rw [this]
        simp only [if_pos h2]
        exact spec_j _ _ _ _
      · have hc : isCut a b l.length = true := by unfold isCut; rw [decide_eq_true_iff]; omega
        simp only [if_neg h2]
        unfold sigOk
        rw [hc, Bool.true_and]
        by_cases h3 : l.length = m.length
        · have h3' : ((l.length : Int) != (m.length : Int)) = false := by simp [h3]
          rw [h3', decide_eq_true h3, Bool.true_and]
          refine Ev.step (f := fun k => spec_SigOk.l0 k 0 a b l m) (fun k => by simp [spec_SigOk.j0]) ?_
          have := spec_loop a b l m hm m.length 0 (by omega)
          rw [List.drop_zero] at this
          exact this
        · have h3' : ((l.length : Int) != (m.length : Int)) = true := by simp; omega
          rw [h3', decide_eq_false h3]
          simp only [Bool.false_and]
          exact spec_j _ _ _ _
    · have : sigOk a b l m = false := by
        have : isCut a b l.length = false := by unfold isCut; rw [decide_eq_false_iff_not]; omega
        unfold sigOk; rw [this]; rfl
      rw [this]
      simp only [h1, decide_false, Bool.false_eq_true, if_false]
      exact spec_j _ _ _ _
  · have : sigOk a b l m = false := by
      have : isCut a b l.length = false := by unfold isCut; rw [decide_eq_false_iff_not]; omega
      unfold sigOk; rw [this]; rfl
    rw [this]
    simp only [h, decide_false, Bool.false_eq_true, if_false]
    exact spec_j _ _ _ _

end Go.Proofs.YtbkodnhnadkhdaaDoor.SigOk
end

section
/- ShortSum: the program's and the reference's are the same bytes. Condition: a seed is a word; at most 2^20 bytes. -/
namespace Go.Proofs.YtbkodnhnadkhdaaDoor.ShortP
open Go Go.RowKit Go.Proofs.YtbkodnhnadkhdaaDoor.PBf Go.Proofs.YtbkodnhnadkhdaaDoorW.PrintWords Go.Proofs.YtbkodnhnadkhdaaDoorW.PrintMore Go.Proofs.YtbkodnhnadkhdaaDoor.Arith Go.Proofs.YtbkodnhnadkhdaaDoor.Lib
set_option linter.unusedVariables false
set_option linter.unusedSimpArgs false
theorem word_text (a : Int) : impl_wordText.f a = some (strOfNums (Word.word a)) := rfl
theorem strong_some (s : ByteArray) (h : s.size ≤ 1000000) : impl_strong.f s = some (strOfNums (Str.md5 s)) := by unfold impl_strong.f; rw [if_pos h]
theorem short_eq (a : Int) (s : ByteArray) (n : Int) (h1 : 1 ≤ n) (h2 : n ≤ 16) (hs : s.size ≤ 999000) : impl_short.f a s n = some (strOfNums ((Str.md5 (Str.seeded a s)).take n.toNat)) := by
  unfold impl_short.f
  have hw : (strOfNums (Word.word a)).size = 4 := by rw [strOfNums_size]; rfl
  have hz := Str.seeded_size a s
  unfold Str.seeded at hz ⊢
  rw [word_text, Option.bind_some, if_pos (by omega), strong_some _ (by omega), Option.bind_some, if_pos (by omega), if_pos (by rw [strOfNums_size, Str.md5_length]; omega), extract_strOfNums, List.drop_zero]
theorem u32 {a : Int} (ha : (Lit.int .u32 a).wf = true) : 0 ≤ a ∧ a < 4294967296 := by
  simp [Lit.wf, IntKind.min, IntKind.max, IntKind.signed, IntKind.bits] at ha; omega
theorem short_spec (a : Int) (s : ByteArray) (n : Int) (ha : 0 ≤ a ∧ a < 4294967296) (hs : s.size ≤ 1048576) : spec_ShortSum.f a s n = some (Str.shortOf a s n) := by
  unfold spec_ShortSum.f
  rw [if_pos ⟨ha, hs⟩]
end Go.Proofs.YtbkodnhnadkhdaaDoor.ShortP
end

section
/- How a signature of the laws' own type, handed in by value, reads. No condition. -/
namespace Go.Proofs.YtbkodnhnadkhdaaDoor.Opens
open Go Go.RowKit Go.Proofs.YtbkodnhnadkhdaaDoorW.PrintWords
set_option linter.unusedSimpArgs false
set_option linter.unusedVariables false

abbrev Sg := Int × Int × List Int × List ByteArray
def kSig : Kd Sg := Kd.pair (Kd.int .i64) (Kd.pair (Kd.int .i64) (Kd.pair (Kd.slice 22 (Kd.int .u32)) (Kd.slice 9 Kd.string)))
def okSig (x : Sg) : Prop := (Lit.int .i64 x.1).wf = true ∧ (Lit.int .i64 x.2.1).wf = true ∧ x.2.2.1.length ≤ maxLen ∧ x.2.2.2.length ≤ maxLen
theorem kSig_open {w : World} {x : Sg} {cs : List Value} (h : kSig.K w x cs) : ∃ A c B d, cs = [.int .i64 x.1, .int .i64 x.2.1, .slice A x.2.2.1.length c, .slice B x.2.2.2.length d] ∧ x.2.2.1.length ≤ c ∧ Kd.C (Kd.int .u32) w A x.2.2.1.length x.2.2.1 ∧ x.2.2.2.length ≤ d ∧ Kd.C Kd.string w B x.2.2.2.length x.2.2.2 := by
  obtain ⟨_, _, rfl, rfl, ⟨_, _, rfl, rfl, ⟨_, _, rfl, ⟨A, c, rfl, h1, h2⟩, ⟨B, d, rfl, h3, h4⟩⟩⟩⟩ := h
  exact ⟨A, c, B, d, rfl, h1, h2, h3, h4⟩
set_option maxRecDepth 100000 in
theorem op_sig {H : Type} {enc : TypeId × Value → H} : Op enc Tryd.prog 45 kSig okSig :=
  op_of Tryd.underlying45 (fun w spare held n cs hl hf => by
    have c0 : Tryd.prog.cellsOf 45 = 4 := by kernel_rfl
    have c1 : Tryd.prog.cellsOf 3 = 1 := by kernel_rfl
    have c2 : Tryd.prog.cellsOf 36 = 1 := by kernel_rfl
    have c3 : Tryd.prog.cellsOf 37 = 1 := by kernel_rfl
    rw [c0] at hl
    match cs, hl with
    | [u0, u1, u2, u3], _ =>
      obtain ⟨y0, h0⟩ := hf 0 _ rfl
      obtain ⟨y1, h1⟩ := hf 1 _ rfl
      obtain ⟨y2, h2⟩ := hf 2 _ rfl
      obtain ⟨y3, h3⟩ := hf 3 _ rfl
      obtain ⟨a, e0, _, wa⟩ := DataW.trod_int Tryd.underlying3 (show DataW.trod enc Tryd.prog w 0 spare held n 3 [u0] = some y0 by simpa [c1] using h0)
      obtain ⟨b, e1, _, wb⟩ := DataW.trod_int Tryd.underlying3 (show DataW.trod enc Tryd.prog w 0 spare held n 3 [u1] = some y1 by simpa [c1] using h1)
      obtain ⟨l2, k2, g2, _⟩ := op_slice (0 : Int) Tryd.underlying36 (by kernel_rfl) (op_int (enc := enc) Tryd.underlying22) w _ _ _ _ _ (show DataW.trod enc Tryd.prog w 0 spare held n 36 [u2] = some y2 by simpa [c2] using h2)
      obtain ⟨l3, k3, g3, _⟩ := op_slice ByteArray.empty Tryd.underlying37 (by kernel_rfl) (op_string (enc := enc) Tryd.underlying9) w _ _ _ _ _ (show DataW.trod enc Tryd.prog w 0 spare held n 37 [u3] = some y3 by simpa [c3] using h3)
      cases e0; cases e1
      exact ⟨(a, b, l2, l3), ⟨[_], [_, _, _], rfl, rfl, ⟨[_], [_, _], rfl, rfl, ⟨[_], [_], rfl, k2, k3⟩⟩⟩, wa, wb, g2, g3⟩)

end Go.Proofs.YtbkodnhnadkhdaaDoor.Opens
end

section
/- The law on BlockFits returns true at every signature, seed, number and text: its plain statement and its walk. No condition. -/
namespace Go.Proofs.YtbkodnhnadkhdaaDoor.SgB
open Go Go.RowKit Go.Proofs.YtbkodnhnadkhdaaDoor.PBf Go.Proofs.YtbkodnhnadkhdaaDoorW.PrintWords Go.Proofs.YtbkodnhnadkhdaaDoorW.PrintMore Go.Proofs.YtbkodnhnadkhdaaDoor.Arith Go.Proofs.YtbkodnhnadkhdaaDoor.Lib Go.Proofs.YtbkodnhnadkhdaaDoor.ShortP Go.Proofs.YtbkodnhnadkhdaaDoor.RecSig
set_option linter.unusedVariables false
set_option linter.unusedSimpArgs false
theorem weakS (s : ByteArray) (h : s.size ≤ 20000) : Ev (fun k => spec_WeakOf.f k s) (Weak.weakOf s) := by
  unfold spec_WeakOf.f
  simp only [if_neg (show ¬ (s.size : Int) > 20000 by omega)]
  exact Weak.spec_ev s h
theorem short4 (a : Int) (s : ByteArray) (h : s.size ≤ 19996) : impl_short.f a s 4 = some (Str.shortOf a s 4) := by
  rw [short_eq a s 4 (by omega) (by omega) (by omega)]
  unfold Str.shortOf Str.fits16
  rw [if_pos (by simp; omega)]
def isB (a b : Int) (l : List Int) (m : List ByteArray) (q : Int) : Bool := SigOk.sigOk a b l m && decide (0 ≤ q ∧ q ≤ wrap64 ((l.length : Int) - 1))
def lng (a b : Int) (l : List Int) (q : Int) : Int := if b > 0 then (if q = wrap64 ((l.length : Int) - 1) then b else a) else a
theorem isB_facts {a b : Int} {l : List Int} {m : List ByteArray} {q : Int} (h : isB a b l m q = true) : 1 ≤ lng a b l q ∧ lng a b l q ≤ 256 ∧ 0 ≤ q ∧ q < (l.length : Int) ∧ l.length = m.length := by
  unfold isB SigOk.sigOk isCut at h
  simp only [Bool.and_eq_true, decide_eq_true_eq] at h
  obtain ⟨⟨⟨⟨⟨⟨h1, h2, h3, h4, h5⟩, h6⟩, _⟩, _⟩, _⟩, h7, h8⟩ := h
  rw [w64 (by omega) (by omega)] at h8
  refine ⟨?_, ?_, h7, by omega, h6⟩
  · unfold lng; split
    · split <;> omega
    · omega
  · unfold lng; split
    · split <;> omega
    · omega
theorem spec_at (a b : Int) (l : List Int) (m : List ByteArray) (q : Int) (h2 : m.length ≤ 2097152) : Ev (fun k => spec_BlockAt.f k a b l m q) (if isB a b l m q = true then (wrap64 (q * a), lng a b l q) else (0, 0)) := by
  unfold spec_BlockAt.f isB lng
  refine Ev.bind (SigOk.spec_ok a b l m h2) ?_
  cases SigOk.sigOk a b l m with
  | false => simp only [Bool.false_eq_true, if_false, Bool.false_and]; exact ev_at fun k => by simp [spec_BlockAt.j0]
  | true =>
    simp only [if_true, in_, Option.bind_some, Bool.true_and]
    refine ev_at fun k => ?_
    by_cases h : 0 ≤ q ∧ q ≤ wrap64 ((l.length : Int) - 1)
    · rw [decide_eq_true h]
      simp only [spec_BlockAt.j0, Bool.not_true, Bool.false_eq_true, if_false, if_true]
      by_cases h3 : q = wrap64 ((l.length : Int) - 1) <;> by_cases h4 : b > 0 <;> simp [h3, h4]
    · rw [decide_eq_false h]
      simp [spec_BlockAt.j0]
theorem impl_is (a b : Int) (l : List Int) (m : List ByteArray) (q : Int) (h2 : m.length ≤ 2097152) : Ev (fun k => impl_isBlock.f k a b l m q) (isB a b l m q) := by
  unfold impl_isBlock.f isB
  refine Ev.bind (SigOk.impl_ok a b l m h2) ?_
  cases SigOk.sigOk a b l m with
  | false => simp only [Bool.false_eq_true, if_false, Bool.false_and]; exact Ev.now _
  | true => simp only [if_true, within_, Option.bind_some, Bool.true_and]; exact Ev.now _
theorem long_some (a b : Int) (l : List Int) (m : List ByteArray) (q : Int) : impl_Sig_long.f a b l m q = some (lng a b l q) := by
  unfold impl_Sig_long.f lng
  by_cases h4 : b > 0
  · simp only [if_pos h4]
    by_cases h3 : q = wrap64 ((l.length : Int) - 1)
    · simp only [if_pos h3]
    · simp only [if_neg h3]
  · simp only [if_neg h4]
def fits (a b : Int) (l : List Int) (m : List ByteArray) (sd q : Int) (s : ByteArray) : Bool :=
  if isB a b l m q = true then (if (s.size : Int) = lng a b l q then (if Weak.weakOf s = rd l q then ((Str.shortOf sd s 4).toList == (rdOf ByteArray.empty m q).toList) else false) else false) else false
theorem spec_fits (a b : Int) (l : List Int) (m : List ByteArray) (sd q : Int) (s : ByteArray) (h2 : m.length ≤ 2097152) (hsd : 0 ≤ sd ∧ sd < 4294967296) : Ev (fun k => spec_BlockFits.f k a b l m sd q s) (fits a b l m sd q s) := by
  unfold spec_BlockFits.f fits
  refine Ev.bind (spec_at a b l m q h2) ?_
  cases hB : isB a b l m q with
  | false => simp only [Bool.false_eq_true, if_false, if_neg (show ¬ (0 : Int) > 0 by omega)]; exact Ev.now _
  | true =>
    obtain ⟨f1, f2, f3, f4, f5⟩ := isB_facts hB
    simp only [if_true, if_pos (show lng a b l q > 0 by omega)]
    by_cases hs : (s.size : Int) = lng a b l q
    · simp only [if_pos hs]
      refine Ev.bind (weakS s (by omega)) ?_
      simp only [if_pos f3, if_pos f4, short_spec sd s 4 hsd (by omega), Option.bind_some, if_pos (show q < (m.length : Int) by omega)]
      by_cases hw : Weak.weakOf s = rd l q
      · simp only [if_pos hw]; exact Ev.now _
      · simp only [if_neg hw]; exact Ev.now _
    · simp only [if_neg hs]; exact Ev.now _
theorem impl_fits (a b : Int) (l : List Int) (m : List ByteArray) (sd q : Int) (s : ByteArray) (h2 : m.length ≤ 2097152) : Ev (fun k => impl_BlockFits.f k a b l m sd q s) (fits a b l m sd q s) := by
  unfold impl_BlockFits.f fits
  refine Ev.bind (impl_is a b l m q h2) ?_
  cases hB : isB a b l m q with
  | false => simp only [Bool.false_eq_true, if_false]; exact Ev.now _
  | true =>
    obtain ⟨f1, f2, f3, f4, f5⟩ := isB_facts hB
    simp only [if_true, long_some, Option.bind_some]
    by_cases hs : (s.size : Int) = lng a b l q
    · simp only [if_pos hs]
      refine Ev.bind (Weak.impl_ev s (by omega)) ?_
      simp only [if_pos f3, if_pos f4, short4 sd s (by omega), Option.bind_some, if_pos (show q < (m.length : Int) by omega)]
      by_cases hw : Weak.weakOf s = rd l q
      · simp only [if_pos hw]; exact Ev.now _
      · simp only [if_neg hw]; exact Ev.now _
    · simp only [if_neg hs]; exact Ev.now _
theorem pure_ (a b : Int) (l : List Int) (m : List ByteArray) (sd q : Int) (s : ByteArray) (hsd : 0 ≤ sd ∧ sd < 4294967296) (hl : l.length ≤ 9223372036854775807) (hm : m.length ≤ 9223372036854775807) : Ev (fun k => laws_FnExactBlockFits.f k a b l m sd q s) true := by
  unfold laws_FnExactBlockFits.f
  by_cases hz : (s.size : Int) > 1048576
  · simp only [if_pos hz]; exact Ev.now _
  simp only [if_neg hz]
  obtain ⟨t, ht, h⟩ := sz_ev a b l m hl hm
  refine Ev.bind ht ?_
  by_cases h0 : t < 0
  · simp only [if_pos h0]; exact Ev.now _
  simp only [if_neg h0]
  have h1 : l.length ≤ 2097152 := by omega
  have h2 : m.length ≤ 2097152 := by omega
  refine Ev.bind (to_ev a b l m h1 h2) (Ev.bind (spec_fits a b l m sd q s h2 hsd) (Ev.bind (to_ev a b l m h1 h2) (Ev.bind (impl_fits a b l m sd q s h2) ?_)))
  simp only [bne_self_eq_false, Bool.false_eq_true, if_false]
  refine Ev.bind (to_ev a b l m h1 h2) (Ev.bind (eq_ev a b l m h1 h2) ?_)
  simp only [if_true]
  exact Ev.now _
theorem walk {P : Prop} {H : Type} {enc : TypeId × Value → H} (W : World) (hL : laidMetH Tryd.prog Rows.fnExactBlockFitsRow.laid W) (_ : P) (cs : Array Value) {fuel : Nat} {x : DataW H × List MemPlace} (f : DataW.trod enc Tryd.prog W 0 (fun _ => true) true fuel 45 cs.toList = some x) (sd : Int) (hsd : (Lit.int .u32 sd).wf = true) (q : Int) (hq : (Lit.int .i64 q).wf = true) (s : ByteArray) (hs : s.size ≤ 140737488351232) :
    Calls Tryd.prog 8 #[.agg cs, .int .u32 sd, .int .i64 q, .string s] W fun e w' => e = .returned (.bool true) ∧ Below W.heap.size W w' := by
  obtain ⟨⟨a, b, l, m⟩, hK, _, _, hl, hm⟩ := Opens.op_sig W _ _ _ _ _ f
  obtain ⟨A, c, B, d, hc, g1, g2, g3, g4⟩ := Opens.kSig_open hK
  obtain rfl : cs = #[.int .i64 a, .int .i64 b, .slice A l.length c, .slice B m.length d] := by
    obtain ⟨q⟩ := cs
    simp at hc ⊢
    exact hc
  obtain ⟨k, hk⟩ := pure_ a b l m sd q s (u32 hsd) (by unfold maxLen at hl; exact hl) (by unfold maxLen at hm; exact hm)
  exact laws_FnExactBlockFits.calls k a b A c l B d m sd q s true W (Tab.of_laid hL) g2 g1 g4 g3 (hk k (Nat.le_refl k))
end Go.Proofs.YtbkodnhnadkhdaaDoor.SgB
end
