/- Cutting a text into blocks: the reference's way and the program's give the same list. Condition: a block's size is at least 1; the text has at most 2^20 bytes. -/
import Derived.Test.YtbkodnhnadkhdaaDoorPFtx0
import Derived.Test.YtbkodnhnadkhdaaDoorPFtx4
import Derived.Test.YtbkodnhnadkhdaaDoorPFtx5
import Derived.Test.YtbkodnhnadkhdaaDoorLib
namespace Go.Proofs.YtbkodnhnadkhdaaDoor.Blocks
open Go Go.RowKit Go.Proofs.YtbkodnhnadkhdaaDoor.PFt Go.Proofs.YtbkodnhnadkhdaaDoorW.PrintWords Go.Proofs.YtbkodnhnadkhdaaDoorW.PrintMore Go.Proofs.YtbkodnhnadkhdaaDoor.Arith Go.Proofs.YtbkodnhnadkhdaaDoor.Lib
set_option linter.unusedSimpArgs false
set_option linter.unusedVariables false

/-- The blocks of a text. -/
def cut (n : Nat) : Nat → ByteArray → List ByteArray
  | 0, _ => []
  | d + 1, s => if s.size = 0 then [] else if s.size ≤ n then [s] else s.extract 0 n :: cut n d (s.extract n s.size)
theorem cut_length (n : Nat) (hn : 1 ≤ n) (d : Nat) : ∀ s : ByteArray, (cut n d s).length ≤ s.size := by
  induction d with
  | zero => intro s; simp [cut]
  | succ d ih =>
    intro s
    simp only [cut]
    split
    · simp
    · split
      · simp; omega
      · have := ih (s.extract n s.size)
        rw [ByteArray.size_extract] at this
        simp only [List.length_cons]; omega
theorem cut_sizes (n : Nat) (hn : 1 ≤ n) (d : Nat) : ∀ s : ByteArray, s.size ≤ d → ∀ b ∈ cut n d s, 1 ≤ b.size ∧ b.size ≤ n := by
  induction d with
  | zero => intro s hs b hb; simp [cut] at hb
  | succ d ih =>
    intro s hs b hb
    simp only [cut] at hb
    split at hb
    · simp at hb
    · split at hb
      · simp at hb; subst hb; omega
      · rcases List.mem_cons.1 hb with h | h
        · subst h; rw [ByteArray.size_extract]; omega
        · exact ih _ (by rw [ByteArray.size_extract]; omega) b h
theorem impl_loop (n : Nat) (hn : 1 ≤ n) (d : Nat) : ∀ (s : ByteArray) (acc : List ByteArray), s.size ≤ d → acc.length + s.size ≤ 2097152 → Ev (fun k => impl_blocksOf.l0 k s n acc) (acc ++ cut n d s) := by
  have hend : ∀ (s : ByteArray) (acc : List ByteArray), s.size = 0 → Ev (fun k => impl_blocksOf.l0 k s n acc) acc := by
    intro s acc h
    refine ev_at fun k => ?_
    simp only [impl_blocksOf.l0]
    rw [if_pos ((toList_nil s).2 h)]
  induction d with
  | zero =>
    intro s acc hs ha
    simpa [cut] using hend s acc (by omega)
  | succ d ih =>
    intro s acc hs ha
    simp only [cut]
    by_cases h0 : s.size = 0
    · rw [if_pos h0]
      simpa using hend s acc h0
    rw [if_neg h0]
    have hne : ¬ s.toList = ([] : List UInt8) := fun h => h0 ((toList_nil s).1 h)
    by_cases h1 : s.size ≤ n
    · rw [if_pos h1]
      have hm : mn (n : Int) (s.size : Int) = s.size := by unfold mn; split <;> omega
      refine Ev.step (f := fun k => impl_blocksOf.l0 k (s.extract s.size s.size) n (acc ++ [s])) (fun k => ?_) (hend _ _ (by rw [ByteArray.size_extract]; omega))
      simp only [impl_blocksOf.l0]
      rw [if_neg hne, hm, if_pos (by omega), if_pos (by omega), if_pos (by omega), Int.toNat_natCast, extract_whole]
    · rw [if_neg h1]
      have hm : mn (n : Int) (s.size : Int) = n := by unfold mn; split <;> omega
      refine Ev.step (f := fun k => impl_blocksOf.l0 k (s.extract n s.size) n (acc ++ [s.extract 0 n])) (fun k => ?_) ?_
      · simp only [impl_blocksOf.l0]
        rw [if_neg hne, hm, if_pos (by omega), if_pos (by omega), if_pos (by omega), Int.toNat_natCast]
      · have hz : (s.extract n s.size).size ≤ s.size - n := by rw [ByteArray.size_extract]; omega
        have := ih (s.extract n s.size) (acc ++ [s.extract 0 n]) (by omega) (by simp; omega)
        simpa using this
theorem impl_ev (n : Nat) (hn : 1 ≤ n) (s : ByteArray) (hs : s.size ≤ 1048576) : Ev (fun k => impl_blocksOf.f k s n) (cut n s.size s) := by
  have := impl_loop n hn s.size s [] (Nat.le_refl _) (by simp; omega)
  simpa [impl_blocksOf.f] using this

/-- The literals of blocks. -/
def lits (bs : List ByteArray) : List S94 := bs.map fun b => (⟨0, b, 0, 0⟩ : S94)
theorem rdOf_lt (l : List ByteArray) (i : Nat) (h : i < l.length) : rdOf ByteArray.empty l (i : Int) = l[i] := by
  unfold rdOf; simp [List.getD_eq_getElem?_getD, List.getElem?_eq_getElem h]
theorem lits_impl (bs : List ByteArray) (hb : bs.length ≤ 2097152) (d : Nat) : ∀ (i : Nat) (acc : List S94), i + d = bs.length → acc.length = i → Ev (fun k => impl_OnlyLiterals.l0 k acc bs bs.length i) (acc ++ lits (bs.drop i)) := by
  induction d with
  | zero =>
    intro i acc h ha
    refine ev_at fun k => ?_
    simp only [impl_OnlyLiterals.l0]
    rw [if_neg (by omega), List.drop_eq_nil_of_le (by omega)]
    simp [lits]
  | succ d ih =>
    intro i acc h ha
    have hi : i < bs.length := by omega
    refine Ev.step (f := fun k => impl_OnlyLiterals.l0 k (acc ++ [(⟨0, bs[i], 0, 0⟩ : S94)]) bs bs.length ((i + 1 : Nat) : Int)) (fun k => ?_) ?_
    · simp only [impl_OnlyLiterals.l0]
      rw [if_pos (by omega), if_pos (by omega), if_pos (by omega), if_pos (by omega), rdOf_lt bs i hi, w64s i (by omega)]
    · have := ih (i + 1) (acc ++ [(⟨0, bs[i], 0, 0⟩ : S94)]) (by omega) (by simp; omega)
      have hL : lits (bs.drop i) = (⟨0, bs[i], 0, 0⟩ : S94) :: lits (bs.drop (i + 1)) := by rw [List.drop_eq_getElem_cons hi]; rfl
      rw [hL]
      rw [List.append_assoc] at this
      exact this
/-- What both OnlyLiterals give. -/
def only (s : ByteArray) : List S94 := if s.size > 20000 then [] else lits (cut 100 s.size s)
theorem only_length (s : ByteArray) : (only s).length ≤ 20000 := by
  unfold only
  split
  · simp
  · have := cut_length 100 (by omega) s.size s
    simp only [lits, List.length_map]; omega
theorem only_impl (s : ByteArray) : Ev (fun k => impl_OnlyLiterals.f k s) (only s) := by
  unfold impl_OnlyLiterals.f only
  by_cases h : s.size > 20000
  · simp only [if_pos h, if_pos (show (s.size : Int) > 20000 by omega)]; exact Ev.now _
  · simp only [if_neg h, if_neg (show ¬ (s.size : Int) > 20000 by omega)]
    have hl := cut_length 100 (by omega) s.size s
    refine Ev.bind (impl_ev 100 (by omega) s (by omega)) ?_
    have := lits_impl (cut 100 s.size s) (by omega) _ 0 [] (Nat.zero_add _) rfl
    simpa using this

end Go.Proofs.YtbkodnhnadkhdaaDoor.Blocks
