/- What the two loops of the weak sum come to: the word of two sums over the bytes. Condition: at most 20000 bytes. -/
import Derived.Test.YtbkodnhnadkhdaaDoorPFtx2
import Derived.Test.YtbkodnhnadkhdaaDoorSumsFt
namespace Go.Proofs.YtbkodnhnadkhdaaDoor.Weak
open Go Go.RowKit Go.Proofs.YtbkodnhnadkhdaaDoor.PFt Go.Proofs.YtbkodnhnadkhdaaDoorW.PrintWords Go.Proofs.YtbkodnhnadkhdaaDoor.Arith Go.Proofs.YtbkodnhnadkhdaaDoor.Lib Go.Proofs.YtbkodnhnadkhdaaDoor.Sums
set_option linter.unusedSimpArgs false
set_option linter.unusedVariables false

def wa : List Int → Int
  | [] => 0
  | x :: l => x + wa l
def wb : List Int → Int
  | [] => 0
  | x :: l => ((l.length : Int) + 1) * x + wb l
theorem wa_range (s : ByteArray) (d i : Nat) (h : i + d = s.size) : 0 ≤ wa ((bytesOf s).drop i) ∧ wa ((bytesOf s).drop i) ≤ 255 * (d : Int) := by
  induction d generalizing i with
  | zero => rw [drop_end s i (by omega)]; simp [wa]
  | succ d ih =>
    rw [drop_bt s i (by omega)]
    have := ih (i + 1) (by omega)
    have hb := bt_range s i
    simp only [wa]; omega
theorem wb_range (s : ByteArray) (hs : s.size ≤ 20000) (d i : Nat) (h : i + d = s.size) : 0 ≤ wb ((bytesOf s).drop i) ∧ wb ((bytesOf s).drop i) ≤ 5100000 * (d : Int) := by
  induction d generalizing i with
  | zero => rw [drop_end s i (by omega)]; simp [wb]
  | succ d ih =>
    rw [drop_bt s i (by omega)]
    have := ih (i + 1) (by omega)
    have hb := bt_range s i
    simp only [wb]
    have hl : (((bytesOf s).drop (i + 1)).length : Int) + 1 = (d : Int) + 1 := by rw [List.length_drop, bytesOf_length]; omega
    rw [hl]
    have hm : 0 ≤ ((d : Int) + 1) * bt s i := Int.mul_nonneg (by omega) hb.1
    have hm2 : ((d : Int) + 1) * bt s i ≤ 20000 * 255 := Int.mul_le_mul (by omega) hb.2 hb.1 (by omega)
    omega

theorem impl_loop (s : ByteArray) (hs : s.size ≤ 20000) (d : Nat) : ∀ (i : Nat) (a b : Int), i + d = s.size → 0 ≤ a → a ≤ 255 * (i : Int) → 0 ≤ b → b ≤ 5100000 * (i : Int) →
    Ev (fun k => impl_weakOf.l0 k s a b s.size i) (pair (a + wa ((bytesOf s).drop i)) (b + (d : Int) * a + wb ((bytesOf s).drop i))) := by
  induction d with
  | zero =>
    intro i a b h _ _ _ _
    refine ev_at fun k => ?_
    simp only [impl_weakOf.l0]
    rw [if_neg (by omega), drop_end s i (by omega), weak_eq]
    simp [wa, wb]
  | succ d ih =>
    intro i a b h a0 a1 b0 b1
    have hb := bt_range s i
    have hl : (((bytesOf s).drop (i + 1)).length : Int) + 1 = (d : Int) + 1 := by rw [List.length_drop, bytesOf_length]; omega
    refine Ev.step (f := fun k => impl_weakOf.l0 k s (a + bt s i) (b + (a + bt s i)) s.size ((i + 1 : Nat) : Int)) (fun k => ?_) ?_
    · simp only [impl_weakOf.l0]
      rw [if_pos (by omega), if_pos (by omega), if_pos (by omega), w64b, w64s i (by omega), w64 (x := a + bt s i) (by omega) (by omega), w64 (by omega) (by omega)]
    · have := ih (i + 1) (a + bt s i) (b + (a + bt s i)) (by omega) (by omega) (by omega) (by omega) (by omega)
      rw [drop_bt s i (by omega)]
      simp only [wa, wb, hl]
      have ea : a + (bt s i + wa ((bytesOf s).drop (i + 1))) = a + bt s i + wa ((bytesOf s).drop (i + 1)) := by omega
      have eb : b + ((d + 1 : Nat) : Int) * a + (((d : Int) + 1) * bt s i + wb ((bytesOf s).drop (i + 1))) = b + (a + bt s i) + (d : Int) * (a + bt s i) + wb ((bytesOf s).drop (i + 1)) := by
        rw [Int.natCast_add, Int.natCast_one, Int.add_mul, Int.add_mul, Int.mul_add, Int.one_mul, Int.one_mul]; omega
      rw [ea, eb]
      exact this

def weakOf (s : ByteArray) : Int := pair (wa (bytesOf s)) (wb (bytesOf s))
theorem impl_ev (s : ByteArray) (hs : s.size ≤ 20000) : Ev (fun k => impl_weakOf.f k s) (weakOf s) := by
  have := impl_loop s hs s.size 0 0 0 (by omega) (by omega) (by omega) (by omega) (by omega)
  simpa [weakOf, impl_weakOf.f] using this

end Go.Proofs.YtbkodnhnadkhdaaDoor.Weak
