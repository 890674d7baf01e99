/- Cutting a text into blocks: the reference's way and the program's give the same list. Condition: a block's size is at least 1; the text has at most 2^20 bytes. -/
import Derived.Test.YtbkodnhnadkhdaaDoorPSgx4
import Derived.Test.YtbkodnhnadkhdaaDoorLib
import Derived.Test.YtbkodnhnadkhdaaDoorPSgx0
import Derived.Test.YtbkodnhnadkhdaaDoorPSgx5
import Derived.Test.YtbkodnhnadkhdaaDoorPSgx6
import Derived.Test.YtbkodnhnadkhdaaDoorShortP
section
/- Cutting a text into blocks: the reference's way and the program's give the same list. Condition: a block's size is at least 1; the text has at most 2^20 bytes. -/
namespace Go.Proofs.YtbkodnhnadkhdaaDoor.Blocks
open Go Go.RowKit Go.Proofs.YtbkodnhnadkhdaaDoor.PSg Go.Proofs.YtbkodnhnadkhdaaDoorW.PrintWords Go.Proofs.YtbkodnhnadkhdaaDoorW.PrintMore Go.Proofs.YtbkodnhnadkhdaaDoor.Arith Go.Proofs.YtbkodnhnadkhdaaDoor.Lib
set_option linter.unusedSimpArgs false
set_option linter.unusedVariables false

/-- The blocks of a text. -/
def cut (n : Nat) : Nat → ByteArray → List ByteArray
  | 0, _ => []
  | d + 1, s => if s.size = 0 then [] else if s.size ≤ n then [s] else s.extract 0 n :: cut n d (s.extract n s.size)
theorem cut_length (n : Nat) (hn : 1 ≤ n) (d : Nat) : ∀ s : ByteArray, (cut n d s).length ≤ s.size := by
  induction d with
  | zero => intro s; simp [cut]
  | succ d ih =>
    intro s
    simp only [cut]
    split
    · simp
    · split
      · simp; omega
      · have := ih (s.extract n s.size)
        rw [ByteArray.size_extract] at this
        simp only [List.length_cons]; omega
theorem cut_sizes (n : Nat) (hn : 1 ≤ n) (d : Nat) : ∀ s : ByteArray, s.size ≤ d → ∀ b ∈ cut n d s, 1 ≤ b.size ∧ b.size ≤ n := by
  induction d with
  | zero => intro s hs b hb; simp [cut] at hb
  | succ d ih =>
    intro s hs b hb
    simp only [cut] at hb
    split at hb
    · simp at hb
    · split at hb
      · simp at hb; subst hb; omega
      · rcases List.mem_cons.1 hb with h | h
        · subst h; rw [ByteArray.size_extract]; omega
        · exact ih _ (by rw [ByteArray.size_extract]; omega) b h
theorem spec_loop (n : Nat) (hn : 1 ≤ n) (d : Nat) : ∀ (s : ByteArray) (acc : List ByteArray), s.size ≤ d → acc.length + s.size ≤ 2097152 → Ev (fun k => spec_l05Blocks.l0 k s n acc) (acc ++ cut n d s) := by
  induction d with
  | zero =>
    intro s acc hs ha
    refine ev_at fun k => ?_
    simp only [spec_l05Blocks.l0]
    rw [if_neg (by omega), if_neg (by omega)]
    simp [cut]
  | succ d ih =>
    intro s acc hs ha
    simp only [cut]
    by_cases h0 : s.size = 0
    · rw [if_pos h0]
      refine ev_at fun k => ?_
      simp only [spec_l05Blocks.l0]
      rw [if_neg (by omega), if_neg (by omega)]
      simp
    rw [if_neg h0]
    by_cases h1 : s.size ≤ n
    · rw [if_pos h1]
      refine ev_at fun k => ?_
      simp only [spec_l05Blocks.l0]
      rw [if_neg (by omega), if_pos (by omega), if_pos (by omega)]
    · rw [if_neg h1]
      refine Ev.step (f := fun k => spec_l05Blocks.l0 k (s.extract n s.size) n (acc ++ [s.extract 0 n])) (fun k => ?_) ?_
      · simp only [spec_l05Blocks.l0]
        rw [if_pos (by omega), if_pos (by omega), if_pos (by omega), if_pos (by omega), Int.toNat_natCast]
      · have hz : (s.extract n s.size).size ≤ s.size - n := by rw [ByteArray.size_extract]; omega
        have := ih (s.extract n s.size) (acc ++ [s.extract 0 n]) (by omega) (by simp; omega)
        simpa using this
theorem spec_ev (n : Nat) (hn : 1 ≤ n) (s : ByteArray) (hs : s.size ≤ 1048576) : Ev (fun k => spec_l05Blocks.f k s n) (cut n s.size s) := by
  have := spec_loop n hn s.size s [] (Nat.le_refl _) (by simp; omega)
  simpa [spec_l05Blocks.f] using this
theorem impl_loop (n : Nat) (hn : 1 ≤ n) (d : Nat) : ∀ (s : ByteArray) (acc : List ByteArray), s.size ≤ d → acc.length + s.size ≤ 2097152 → Ev (fun k => impl_blocksOf.l0 k s n acc) (acc ++ cut n d s) := by
  have hend : ∀ (s : ByteArray) (acc : List ByteArray), s.size = 0 → Ev (fun k => impl_blocksOf.l0 k s n acc) acc := by
    intro s acc h
    refine ev_at fun k => ?_
    simp only [impl_blocksOf.l0]
    rw [if_pos ((toList_nil s).2 h)]
  induction d with
  | zero =>
    intro s acc hs ha
    simpa [cut] using hend s acc (by omega)
  | succ d ih =>
    intro s acc hs ha
    simp only [cut]
    by_cases h0 : s.size = 0
    · rw [if_pos h0]
      simpa using hend s acc h0
    rw [if_neg h0]
    have hne : ¬ s.toList = ([] : List UInt8) := fun h => h0 ((toList_nil s).1 h)
    by_cases h1 : s.size ≤ n
    · rw [if_pos h1]
      have hm : mn (n : Int) (s.size : Int) = s.size := by unfold mn; split <;> omega
      refine Ev.step (f := fun k => impl_blocksOf.l0 k (s.extract s.size s.size) n (acc ++ [s])) (fun k => ?_) (hend _ _ (by rw [ByteArray.size_extract]; omega))
      simp only [impl_blocksOf.l0]
      rw [if_neg hne, hm, if_pos (by omega), if_pos (by omega), if_pos (by omega), Int.toNat_natCast, extract_whole]
    · rw [if_neg h1]
      have hm : mn (n : Int) (s.size : Int) = n := by unfold mn; split <;> omega
      refine Ev.step (f := fun k => impl_blocksOf.l0 k (s.extract n s.size) n (acc ++ [s.extract 0 n])) (fun k => ?_) ?_
      · simp only [impl_blocksOf.l0]
        rw [if_neg hne, hm, if_pos (by omega), if_pos (by omega), if_pos (by omega), Int.toNat_natCast]
      · have hz : (s.extract n s.size).size ≤ s.size - n := by rw [ByteArray.size_extract]; omega
        have := ih (s.extract n s.size) (acc ++ [s.extract 0 n]) (by omega) (by simp; omega)
        simpa using this
theorem impl_ev (n : Nat) (hn : 1 ≤ n) (s : ByteArray) (hs : s.size ≤ 1048576) : Ev (fun k => impl_blocksOf.f k s n) (cut n s.size s) := by
  have := impl_loop n hn s.size s [] (Nat.le_refl _) (by simp; omega)
  simpa [impl_blocksOf.f] using this


end Go.Proofs.YtbkodnhnadkhdaaDoor.Blocks
end

section
/- What the weak sum's small functions come to, over plain numbers. Condition: the sums handed in are words. -/
namespace Go.Proofs.YtbkodnhnadkhdaaDoor.Sums
open Go Go.RowKit Go.Proofs.YtbkodnhnadkhdaaDoor.PSg Go.Proofs.YtbkodnhnadkhdaaDoorW.PrintWords Go.Proofs.YtbkodnhnadkhdaaDoor.Arith Go.Proofs.YtbkodnhnadkhdaaDoor.Lib
set_option linter.unusedSimpArgs false
set_option linter.unusedVariables false

theorem in_eq (a b c : Int) : spec_l01In.f a b c = some (decide (b ≤ a ∧ a ≤ c)) := by
  unfold spec_l01In.f
  by_cases h : b ≤ a <;> by_cases h' : a ≤ c <;> simp [h, h']
theorem within_eq (a b c : Int) : impl_within.f a b c = some (decide (b ≤ a ∧ a ≤ c)) := by
  unfold impl_within.f
  by_cases h : b ≤ a <;> by_cases h' : a ≤ c <;> simp [h, h']
theorem pair_eq (a b : Int) : spec_l03Pair.f a b = some (pair a b) := by
  unfold spec_l03Pair.f; rw [pair_spec]
theorem weak_eq (a b : Int) : impl_weak.f a b = some (pair a b) := by
  unfold impl_weak.f; rw [pair_impl]
theorem u32_bounds {u : Int} (h : (Lit.int .u32 u).wf = true) : 0 ≤ u ∧ u < 4294967296 := by
  simp [Lit.wf, IntKind.min, IntKind.max, IntKind.signed, IntKind.bits] at h; omega


end Go.Proofs.YtbkodnhnadkhdaaDoor.Sums
end

section
/- What the two loops of the weak sum come to: the word of two sums over the bytes. Condition: at most 20000 bytes. -/
namespace Go.Proofs.YtbkodnhnadkhdaaDoor.Weak
open Go Go.RowKit Go.Proofs.YtbkodnhnadkhdaaDoor.PSg Go.Proofs.YtbkodnhnadkhdaaDoorW.PrintWords Go.Proofs.YtbkodnhnadkhdaaDoor.Arith Go.Proofs.YtbkodnhnadkhdaaDoor.Lib Go.Proofs.YtbkodnhnadkhdaaDoor.Sums
set_option linter.unusedSimpArgs false
set_option linter.unusedVariables false

def wa : List Int → Int
  | [] => 0
  | x :: l => x + wa l
def wb : List Int → Int
  | [] => 0
  | x :: l => ((l.length : Int) + 1) * x + wb l
theorem wa_range (s : ByteArray) (d i : Nat) (h : i + d = s.size) : 0 ≤ wa ((bytesOf s).drop i) ∧ wa ((bytesOf s).drop i) ≤ 255 * (d : Int) := by
  induction d generalizing i with
  | zero => rw [drop_end s i (by omega)]; simp [wa]
  | succ d ih =>
    rw [drop_bt s i (by omega)]
    have := ih (i + 1) (by omega)
    have hb := bt_range s i
    simp only [wa]; omega
theorem wb_range (s : ByteArray) (hs : s.size ≤ 20000) (d i : Nat) (h : i + d = s.size) : 0 ≤ wb ((bytesOf s).drop i) ∧ wb ((bytesOf s).drop i) ≤ 5100000 * (d : Int) := by
  induction d generalizing i with
  | zero => rw [drop_end s i (by omega)]; simp [wb]
  | succ d ih =>
    rw [drop_bt s i (by omega)]
    have := ih (i + 1) (by omega)
    have hb := bt_range s i
    simp only [wb]
    have hl : (((bytesOf s).drop (i + 1)).length : Int) + 1 = (d : Int) + 1 := by rw [List.length_drop, bytesOf_length]; omega
    rw [hl]
    have hm : 0 ≤ ((d : Int) + 1) * bt s i := Int.mul_nonneg (by omega) hb.1
    have hm2 : ((d : Int) + 1) * bt s i ≤ 20000 * 255 := Int.mul_le_mul (by omega) hb.2 hb.1 (by omega)
    omega

theorem spec_loop (s : ByteArray) (hs : s.size ≤ 20000) (d : Nat) : ∀ (i : Nat) (a b : Int), i + d = s.size → 0 ≤ a → a ≤ 255 * (i : Int) → 0 ≤ b → b ≤ 5100000 * (i : Int) →
    Ev (fun k => spec_WeakOf.l0 k s a b i) (pair (a + wa ((bytesOf s).drop i)) (b + wb ((bytesOf s).drop i))) := by
  induction d with
  | zero =>
    intro i a b h _ _ _ _
    refine ev_at fun k => ?_
    simp only [spec_WeakOf.l0]
    rw [if_neg (by omega), drop_end s i (by omega), pair_eq]
    simp [wa, wb]
  | succ d ih =>
    intro i a b h a0 a1 b0 b1
    have hb := bt_range s i
    have hm : 0 ≤ ((d : Int) + 1) * bt s i := Int.mul_nonneg (by omega) hb.1
    have hm2 : ((d : Int) + 1) * bt s i ≤ 20000 * 255 := Int.mul_le_mul (by omega) hb.2 hb.1 (by omega)
    have hl : (((bytesOf s).drop (i + 1)).length : Int) + 1 = (d : Int) + 1 := by rw [List.length_drop, bytesOf_length]; omega
    have e : ((s.size : Int) - i) = (d : Int) + 1 := by omega
    refine Ev.step (f := fun k => spec_WeakOf.l0 k s (a + bt s i) (b + ((d : Int) + 1) * bt s i) ((i + 1 : Nat) : Int)) (fun k => ?_) ?_
    · simp only [spec_WeakOf.l0]
      rw [if_pos (by omega), if_pos (by omega), w64b, e, w64 (x := (d : Int) + 1) (by omega) (by omega), w64 (x := ((d : Int) + 1) * bt s i) (by omega) (by omega), w64s i (by omega), w64 (x := a + bt s i) (by omega) (by omega), w64 (by omega) (by omega)]
    · have := ih (i + 1) (a + bt s i) (b + ((d : Int) + 1) * bt s i) (by omega) (by omega) (by omega) (by omega) (by omega)
      rw [drop_bt s i (by omega)]
      simp only [wa, wb, hl]
      rw [← Int.add_assoc, ← Int.add_assoc]
      exact this

theorem impl_loop (s : ByteArray) (hs : s.size ≤ 20000) (d : Nat) : ∀ (i : Nat) (a b : Int), i + d = s.size → 0 ≤ a → a ≤ 255 * (i : Int) → 0 ≤ b → b ≤ 5100000 * (i : Int) →
    Ev (fun k => impl_weakOf.l0 k s a b s.size i) (pair (a + wa ((bytesOf s).drop i)) (b + (d : Int) * a + wb ((bytesOf s).drop i))) := by
  induction d with
  | zero =>
    intro i a b h _ _ _ _
    refine ev_at fun k => ?_
    simp only [impl_weakOf.l0]
    rw [if_neg (by omega), drop_end s i (by omega), weak_eq]
    simp [wa, wb]
  | succ d ih =>
    intro i a b h a0 a1 b0 b1
    have hb := bt_range s i
    have hl : (((bytesOf s).drop (i + 1)).length : Int) + 1 = (d : Int) + 1 := by rw [List.length_drop, bytesOf_length]; omega
    refine Ev.step (f := fun k => impl_weakOf.l0 k s (a + bt s i) (b + (a + bt s i)) s.size ((i + 1 : Nat) : Int)) (fun k => ?_) ?_
    · simp only [impl_weakOf.l0]
      rw [if_pos (by omega), if_pos (by omega), if_pos (by omega), w64b, w64s i (by omega), w64 (x := a + bt s i) (by omega) (by omega), w64 (by omega) (by omega)]
    · have := ih (i + 1) (a + bt s i) (b + (a + bt s i)) (by omega) (by omega) (by omega) (by omega) (by omega)
      rw [drop_bt s i (by omega)]
      simp only [wa, wb, hl]
      have ea : a + (bt s i + wa ((bytesOf s).drop (i + 1))) = a + bt s i + wa ((bytesOf s).drop (i + 1)) := by omega
      have eb : b + ((d + 1 : Nat) : Int) * a + (((d : Int) + 1) * bt s i + wb ((bytesOf s).drop (i + 1))) = b + (a + bt s i) + (d : Int) * (a + bt s i) + wb ((bytesOf s).drop (i + 1)) := by
        rw [Int.natCast_add, Int.natCast_one, Int.add_mul, Int.add_mul, Int.mul_add, Int.one_mul, Int.one_mul]; omega
      rw [ea, eb]
      exact this

def weakOf (s : ByteArray) : Int := pair (wa (bytesOf s)) (wb (bytesOf s))
theorem spec_ev (s : ByteArray) (hs : s.size ≤ 20000) : Ev (fun k => spec_WeakOf.l0 k s 0 0 0) (weakOf s) := by
  have := spec_loop s hs s.size 0 0 0 (by omega) (by omega) (by omega) (by omega) (by omega)
  simpa [weakOf] using this
theorem impl_ev (s : ByteArray) (hs : s.size ≤ 20000) : Ev (fun k => impl_weakOf.f k s) (weakOf s) := by
  have := impl_loop s hs s.size 0 0 0 (by omega) (by omega) (by omega) (by omega) (by omega)
  simpa [weakOf, impl_weakOf.f] using this

end Go.Proofs.YtbkodnhnadkhdaaDoor.Weak
end

section
/- The law's own marks on tokens: what marking them makes of them, and that the marks are found again. Condition: at most 2^21 tokens. -/
namespace Go.Proofs.YtbkodnhnadkhdaaDoor.MarkTok
open Go Go.RowKit Go.Proofs.YtbkodnhnadkhdaaDoor.PSg Go.Proofs.YtbkodnhnadkhdaaDoorW.PrintWords Go.Proofs.YtbkodnhnadkhdaaDoorW.PrintMore Go.Proofs.YtbkodnhnadkhdaaDoor.Arith Go.Proofs.YtbkodnhnadkhdaaDoor.Lib
set_option linter.unusedSimpArgs false
set_option linter.unusedVariables false

theorem text_loop (d : Nat) : ∀ (k : Int) (x : ByteArray), 0 ≤ k → k < 10 ^ d → k < 9223372036854775808 → x.size + d ≤ 1000 → ∃ t, Ev (fun n => laws_markText.l0 n k x) t := by
  induction d with
  | zero =>
    intro k x h0 h1 _ hx
    refine ⟨(⟨#[109]⟩ : ByteArray) ++ x, ev_at fun n => ?_⟩
    simp only [laws_markText.l0]
    rw [if_neg (by omega), if_pos (by omega)]
  | succ d ih =>
    intro k x h0 h1 hk hx
    by_cases h : k > 0
    · rw [Int.pow_succ] at h1
      have e : Int.tdiv k 10 = k / 10 := Int.tdiv_eq_ediv_of_nonneg h0
      have hz : (strOfNums [(wrap64 (48 + (Int.tmod k 10))) % 256]).size = 1 := by rw [strOfNums_size]; rfl
      obtain ⟨t, ht⟩ := ih (k / 10) (strOfNums [(wrap64 (48 + (Int.tmod k 10))) % 256] ++ x) (by omega) (by omega) (by omega) (by rw [ByteArray.size_append, hz]; omega)
      refine ⟨t, Ev.step (fun n => ?_) ht⟩
      simp only [laws_markText.l0, Option.bind_some]
      rw [if_pos h, hz, if_pos (by omega), e, w64 (x := k / 10) (by omega) (by omega)]
    · refine ⟨(⟨#[109]⟩ : ByteArray) ++ x, ev_at fun n => ?_⟩
      simp only [laws_markText.l0]
      rw [if_neg h, if_pos (by omega)]
theorem text_ex (k : Int) (h0 : 0 ≤ k) (h1 : k < 9223372036854775808) : ∃ t, Ev (fun n => laws_markText.f n k) t := by
  unfold laws_markText.f
  by_cases h : k ≤ 0
  · simp only [if_pos h]; exact ⟨_, Ev.now _⟩
  · simp only [if_neg h]
    exact text_loop 20 k _ h0 (by omega) h1 (by decide)
noncomputable def mt (k : Int) : ByteArray := Classical.epsilon fun t => Ev (fun n => laws_markText.f n k) t
theorem mt_ev (k : Int) (h0 : 0 ≤ k) (h1 : k < 9223372036854775808) : Ev (fun n => laws_markText.f n k) (mt k) := Classical.epsilon_spec (text_ex k h0 h1)

noncomputable def mks (n : Nat) : List ByteArray := (List.range n).map fun j => mt ((j + 1 : Nat) : Int)
theorem mks_length (n : Nat) : (mks n).length = n := by simp [mks]
theorem rdT_lt {α : Type} (z : α) (l : List α) (i : Nat) (h : i < l.length) : l.getD i z = l[i] := by
  simp [List.getD_eq_getElem?_getD, List.getElem?_eq_getElem h]


end Go.Proofs.YtbkodnhnadkhdaaDoor.MarkTok
end

section
/- The law's own marks: what marking a row makes of it, and that the marks are found again. Condition: at most 2^21 elements. -/
namespace Go.Proofs.YtbkodnhnadkhdaaDoor.Mark
open Go Go.RowKit Go.Proofs.YtbkodnhnadkhdaaDoor.PSg Go.Proofs.YtbkodnhnadkhdaaDoorW.PrintWords Go.Proofs.YtbkodnhnadkhdaaDoorW.PrintMore Go.Proofs.YtbkodnhnadkhdaaDoor.Arith Go.Proofs.YtbkodnhnadkhdaaDoor.Lib
set_option linter.unusedSimpArgs false
set_option linter.unusedVariables false

def mk (M : Int) (n : Nat) : List Int := (List.range n).map fun j => (((j + 1 : Nat) : Int)) % M
theorem mk_length (M : Int) (n : Nat) : (mk M n).length = n := by simp [mk]
theorem mk_rd (M : Int) (n i : Nat) (h : i < n) : rd (mk M n) (i : Int) = ((i + 1 : Nat) : Int) % M := by
  rw [rd_lt _ _ (by rw [mk_length]; exact h)]; simp [mk]
theorem mk_take (M : Int) (n i : Nat) (h : i ≤ n) : (mk M n).take i = mk M i := by
  unfold mk
  rw [← List.map_take, List.take_range, Nat.min_eq_left h]
theorem mk_succ (M : Int) (i : Nat) : mk M (i + 1) = mk M i ++ [((i + 1 : Nat) : Int) % M] := by
  unfold mk; rw [List.range_succ, List.map_append]; rfl
theorem set_mark (M : Int) (x : List Int) (i : Nat) (hi : i < x.length) (ht : x.take i = mk M i) : (x.set i (((i + 1 : Nat) : Int) % M)).take (i + 1) = mk M (i + 1) := by
  rw [List.take_succ_eq_append_getElem (by rw [List.length_set]; exact hi), List.getElem_set_self, List.take_set_of_le (Nat.le_refl i), ht, mk_succ]
theorem mark_loopUint32S (n : Nat) (hn : n ≤ 2097152) (d : Nat) : ∀ (i : Nat) (x : List Int), i + d = n → x.length = n → x.take i = mk 4294967296 i → Ev (fun k => laws_markUint32S.l0 k x ((i + 1 : Nat) : Int) i) (((n + 1 : Nat) : Int), mk 4294967296 n) := by
  induction d with
  | zero =>
    intro i x h hx ht
    refine ev_at fun k => ?_
    simp only [laws_markUint32S.l0]
    rw [if_neg (by omega)]
    rw [List.take_of_length_le (by omega)] at ht
    obtain rfl : i = n := by omega
    rw [ht]
  | succ d ih =>
    intro i x h hx ht
    refine Ev.step (f := fun k => laws_markUint32S.l0 k (x.set i (((i + 1 : Nat) : Int) % 4294967296)) ((i + 1 + 1 : Nat) : Int) ((i + 1 : Nat) : Int)) (fun k => ?_) (ih (i + 1) _ (by omega) (by rw [List.length_set]; exact hx) (set_mark 4294967296 x i (by omega) ht))
    simp only [laws_markUint32S.l0]
    rw [if_pos (by omega), if_pos (by omega), w64s i (by omega), w64s (i + 1) (by omega), Int.toNat_natCast]
theorem mark_evUint32S (l : List Int) (hn : l.length ≤ 2097152) : Ev (fun k => laws_markUint32S.f k l 1) (((l.length + 1 : Nat) : Int), mk 4294967296 l.length) :=
  mark_loopUint32S l.length hn l.length 0 l (by omega) rfl (by simp [mk])
theorem held_loopUint32S (n : Nat) (hn : n ≤ 2097152) (d : Nat) : ∀ (i : Nat), i + d = n → Ev (fun k => laws_heldUint32S.l0 k (mk 4294967296 n) ((i + 1 : Nat) : Int) i) ((n + 1 : Nat) : Int) := by
  induction d with
  | zero =>
    intro i h
    refine ev_at fun k => ?_
    simp only [laws_heldUint32S.l0]
    rw [if_neg (by rw [mk_length]; omega), show i = n by omega]
  | succ d ih =>
    intro i h
    refine Ev.step (f := fun k => laws_heldUint32S.l0 k (mk 4294967296 n) ((i + 1 + 1 : Nat) : Int) ((i + 1 : Nat) : Int)) (fun k => ?_) (ih (i + 1) (by omega))
    simp only [laws_heldUint32S.l0]
    rw [if_pos (by rw [mk_length]; omega), if_pos (by omega), if_pos (mk_rd 4294967296 n i (by omega)), w64s i (by omega), w64s (i + 1) (by omega)]
theorem held_evUint32S (n : Nat) (hn : n ≤ 2097152) : Ev (fun k => laws_heldUint32S.f k (mk 4294967296 n) 1) ((n + 1 : Nat) : Int) := held_loopUint32S n hn n 0 (by omega)
theorem eq_loopUint32S (l : List Int) (hl : l.length < 9223372036854775807) (d : Nat) : ∀ i : Nat, i + d = l.length → Ev (fun k => laws_eqUint32S.l0 k l l i) true := by
  induction d with
  | zero =>
    intro i h
    refine ev_at fun k => ?_
    simp only [laws_eqUint32S.l0]
    rw [if_neg (by omega)]
  | succ d ih =>
    intro i h
    refine Ev.step (f := fun k => laws_eqUint32S.l0 k l l ((i + 1 : Nat) : Int)) (fun k => ?_) (ih (i + 1) (by omega))
    simp only [laws_eqUint32S.l0]
    rw [if_pos (by omega), if_pos (by omega), if_pos (by omega), w64s i (by omega)]; simp
theorem eq_evUint32S (l : List Int) (hl : l.length < 9223372036854775807) : Ev (fun k => laws_eqUint32S.f k l l) true := by
  unfold laws_eqUint32S.f
  simp only [if_true]
  exact eq_loopUint32S l hl l.length 0 (by omega)

end Go.Proofs.YtbkodnhnadkhdaaDoor.Mark
end

section
/- The law's own marks on texts: what marking a list of them makes of it, and that the marks are found again. Condition: at most 2^21 texts. -/
namespace Go.Proofs.YtbkodnhnadkhdaaDoor.MarkStr
open Go Go.RowKit Go.Proofs.YtbkodnhnadkhdaaDoor.PSg Go.Proofs.YtbkodnhnadkhdaaDoorW.PrintWords Go.Proofs.YtbkodnhnadkhdaaDoorW.PrintMore Go.Proofs.YtbkodnhnadkhdaaDoor.Arith Go.Proofs.YtbkodnhnadkhdaaDoor.Lib Go.Proofs.YtbkodnhnadkhdaaDoor.MarkTok
set_option linter.unusedSimpArgs false
set_option linter.unusedVariables false

theorem rdB (l : List ByteArray) (i : Nat) (h : i < l.length) : rdOf ByteArray.empty l (i : Int) = l[i] := by
  unfold rdOf; rw [Int.toNat_natCast, List.getD_eq_getElem?_getD, List.getElem?_eq_getElem h]; rfl
theorem mks_succ (i : Nat) : mks (i + 1) = mks i ++ [mt ((i + 1 : Nat) : Int)] := by
  unfold mks; rw [List.range_succ, List.map_append]; rfl
theorem mks_at (n i : Nat) (h : i < (mks n).length) : (mks n)[i] = mt ((i + 1 : Nat) : Int) := by simp [mks]
theorem mark_loop (n : Nat) (hn : n ≤ 2097152) (d : Nat) : ∀ (i : Nat) (x : List ByteArray), i + d = n → x.length = n → x.take i = mks i → Ev (fun k => laws_markStringS.l0 k x ((i + 1 : Nat) : Int) i) (((n + 1 : Nat) : Int), mks n) := by
  induction d with
  | zero =>
    intro i x h hx ht
    refine ev_at fun k => ?_
    simp only [laws_markStringS.l0]
    rw [if_neg (by omega)]
    rw [List.take_of_length_le (by omega)] at ht
    obtain rfl : i = n := by omega
    rw [ht]
  | succ d ih =>
    intro i x h hx ht
    have hi : i < x.length := by omega
    refine Ev.step (f := fun k => (laws_markText.f k ((i + 1 : Nat) : Int)).bind fun t => laws_markStringS.l0 k (x.set i t) ((i + 1 + 1 : Nat) : Int) ((i + 1 : Nat) : Int)) (fun k => ?_) (Ev.bind (mt_ev _ (by omega) (by omega)) (ih (i + 1) _ (by omega) (by rw [List.length_set]; exact hx) ?_))
    · simp only [laws_markStringS.l0]
      rw [if_pos (by omega), w64s i (by omega), w64s (i + 1) (by omega), Int.toNat_natCast]
      simp only [if_pos (show (0 : Int) ≤ (i : Int) by omega)]
    · rw [List.take_succ_eq_append_getElem (by rw [List.length_set]; exact hi), List.getElem_set_self, List.take_set_of_le (Nat.le_refl i), ht, mks_succ]
theorem mark_ev (l : List ByteArray) (hn : l.length ≤ 2097152) : Ev (fun k => laws_markStringS.f k l 1) (((l.length + 1 : Nat) : Int), mks l.length) :=
  mark_loop l.length hn l.length 0 l (by omega) rfl (by simp [mks])
theorem held_loop (n : Nat) (hn : n ≤ 2097152) (d : Nat) : ∀ (i : Nat), i + d = n → Ev (fun k => laws_heldStringS.l0 k (mks n) ((i + 1 : Nat) : Int) i) ((n + 1 : Nat) : Int) := by
  induction d with
  | zero =>
    intro i h
    refine ev_at fun k => ?_
    simp only [laws_heldStringS.l0]
    rw [if_neg (by rw [mks_length]; omega), show i = n by omega]
  | succ d ih =>
    intro i h
    have hi : i < (mks n).length := by rw [mks_length]; omega
    refine Ev.step (f := fun k => (laws_markText.f k ((i + 1 : Nat) : Int)).bind fun t => if (mt ((i + 1 : Nat) : Int)).toList = t.toList then laws_heldStringS.l0 k (mks n) ((i + 1 + 1 : Nat) : Int) ((i + 1 : Nat) : Int) else some (-1)) (fun k => ?_) (Ev.bind (mt_ev _ (by omega) (by omega)) ?_)
    · simp only [laws_heldStringS.l0]
      rw [if_pos (by omega), if_pos (by omega), rdB _ i hi, mks_at, w64s i (by omega), w64s (i + 1) (by omega)]
    · simp only [if_true]
      exact ih (i + 1) (by omega)
theorem held_ev (n : Nat) (hn : n ≤ 2097152) : Ev (fun k => laws_heldStringS.f k (mks n) 1) ((n + 1 : Nat) : Int) := held_loop n hn n 0 (by omega)
theorem eq_loop (l : List ByteArray) (hl : l.length < 9223372036854775807) (d : Nat) : ∀ i : Nat, i + d = l.length → Ev (fun k => laws_eqStringS.l0 k l l i) true := by
  induction d with
  | zero =>
    intro i h
    refine ev_at fun k => ?_
    simp only [laws_eqStringS.l0]
    rw [if_neg (by omega)]
  | succ d ih =>
    intro i h
    refine Ev.step (f := fun k => laws_eqStringS.l0 k l l ((i + 1 : Nat) : Int)) (fun k => ?_) (ih (i + 1) (by omega))
    simp only [laws_eqStringS.l0]
    rw [if_pos (by omega), if_pos (by omega), if_pos (by omega), w64s i (by omega)]; simp
theorem eq_ev (l : List ByteArray) (hl : l.length < 9223372036854775807) : Ev (fun k => laws_eqStringS.f k l l) true := by
  unfold laws_eqStringS.f
  simp only [if_true]
  exact eq_loop l hl l.length 0 (by omega)

end Go.Proofs.YtbkodnhnadkhdaaDoor.MarkStr
end

section
/- Signatures: what both SigOf make of a text, and both BlockFits of a block; the law's marks. Condition: a seed is a word. -/
namespace Go.Proofs.YtbkodnhnadkhdaaDoor.SgP
open Go Go.RowKit Go.Proofs.YtbkodnhnadkhdaaDoor.PSg Go.Proofs.YtbkodnhnadkhdaaDoorW.PrintWords Go.Proofs.YtbkodnhnadkhdaaDoorW.PrintMore Go.Proofs.YtbkodnhnadkhdaaDoor.Arith Go.Proofs.YtbkodnhnadkhdaaDoor.Lib Go.Proofs.YtbkodnhnadkhdaaDoor.ShortP
set_option linter.unusedVariables false
set_option linter.unusedSimpArgs false
theorem weakS (s : ByteArray) (h : s.size ≤ 20000) : Ev (fun k => spec_WeakOf.f k s) (Weak.weakOf s) := by
  unfold spec_WeakOf.f
  simp only [if_neg (show ¬ (s.size : Int) > 20000 by omega)]
  exact Weak.spec_ev s h
theorem short4 (a : Int) (s : ByteArray) (h : s.size ≤ 19996) : impl_short.f a s 4 = some (Str.shortOf a s 4) := by
  rw [short_eq a s 4 (by omega) (by omega) (by omega)]
  unfold Str.shortOf Str.fits16
  rw [if_pos (by simp; omega)]
def wk (bs : List ByteArray) : List Int := bs.map Weak.weakOf
def sh (a : Int) (bs : List ByteArray) : List ByteArray := bs.map fun b => Str.shortOf a b 4
theorem spec_loop (a n r : Int) (ha : 0 ≤ a ∧ a < 4294967296) (bs : List ByteArray) (hb : bs.length ≤ 1000000) (hz : ∀ b ∈ bs, b.size ≤ 19996) (d : Nat) : ∀ (i : Nat) (ws : List Int) (ss : List ByteArray), i + d = bs.length → ws.length = i → ss.length = i →
    Ev (fun k => spec_SigOf.l0 k a bs i n r ws ss) (n, r, ws ++ wk (bs.drop i), ss ++ sh a (bs.drop i), true) := by
  induction d with
  | zero =>
    intro i ws ss h hw hs
    refine ev_at fun k => ?_
    simp only [spec_SigOf.l0]
    rw [if_neg (by omega), List.drop_eq_nil_of_le (by omega)]
    simp [wk, sh]
  | succ d ih =>
    intro i ws ss h hw hs
    have hi : i < bs.length := by omega
    have hbz := hz _ (List.getElem_mem hi)
    refine Ev.step (f := fun k => (spec_WeakOf.f k bs[i]).bind fun t => (spec_ShortSum.f a bs[i] 4).bind fun u => spec_SigOf.l0 k a bs ((i + 1 : Nat) : Int) n r (ws ++ [t]) (ss ++ [u])) (fun k => ?_) ?_
    · simp only [spec_SigOf.l0]
      rw [if_pos (by omega), if_pos (by omega), MarkStr.rdB bs i hi, w64s i (by omega)]
      simp only [if_pos (show ws.length < 35184372088832 by omega), if_pos (show ss.length < 8796093022208 by omega)]
    · refine Ev.bind (weakS _ (by omega)) ?_
      simp only [short_spec a bs[i] 4 ha (by omega), Option.bind_some]
      have := ih (i + 1) (ws ++ [Weak.weakOf bs[i]]) (ss ++ [Str.shortOf a bs[i] 4]) (by omega) (by simp; omega) (by simp; omega)
      rw [List.drop_eq_getElem_cons hi, show wk (bs[i] :: bs.drop (i + 1)) = Weak.weakOf bs[i] :: wk (bs.drop (i + 1)) from rfl, show sh a (bs[i] :: bs.drop (i + 1)) = Str.shortOf a bs[i] 4 :: sh a (bs.drop (i + 1)) from rfl]
      simp only [List.append_assoc, List.singleton_append] at this
      exact this
theorem impl_loop (a n r : Int) (bs : List ByteArray) (hb : bs.length ≤ 1000000) (hz : ∀ b ∈ bs, b.size ≤ 19996) (d : Nat) : ∀ (i : Nat) (ws : List Int) (ss : List ByteArray), i + d = bs.length → ws.length = i → ss.length = i →
    Ev (fun k => impl_SigOf.l0 k a bs bs.length i n r ws ss) (n, r, ws ++ wk (bs.drop i), ss ++ sh a (bs.drop i), true) := by
  induction d with
  | zero =>
    intro i ws ss h hw hs
    refine ev_at fun k => ?_
    simp only [impl_SigOf.l0]
    rw [if_neg (by omega), List.drop_eq_nil_of_le (by omega)]
    simp [wk, sh]
  | succ d ih =>
    intro i ws ss h hw hs
    have hi : i < bs.length := by omega
    have hbz := hz _ (List.getElem_mem hi)
    refine Ev.step (f := fun k => (impl_weakOf.f k bs[i]).bind fun t => (impl_short.f a bs[i] 4).bind fun u => impl_SigOf.l0 k a bs bs.length ((i + 1 : Nat) : Int) n r (ws ++ [t]) (ss ++ [u])) (fun k => ?_) ?_
    · simp only [impl_SigOf.l0]
      rw [if_pos (by omega), if_pos (by omega), if_pos (by omega), MarkStr.rdB bs i hi, w64s i (by omega)]
      simp only [if_pos (show ws.length < 35184372088832 by omega), if_pos (show ss.length < 8796093022208 by omega)]
    · refine Ev.bind (Weak.impl_ev _ (by omega)) ?_
      simp only [short4 a bs[i] (by omega), Option.bind_some]
      have := ih (i + 1) (ws ++ [Weak.weakOf bs[i]]) (ss ++ [Str.shortOf a bs[i] 4]) (by omega) (by simp; omega) (by simp; omega)
      rw [List.drop_eq_getElem_cons hi, show wk (bs[i] :: bs.drop (i + 1)) = Weak.weakOf bs[i] :: wk (bs.drop (i + 1)) from rfl, show sh a (bs[i] :: bs.drop (i + 1)) = Str.shortOf a bs[i] 4 :: sh a (bs.drop (i + 1)) from rfl]
      simp only [List.append_assoc, List.singleton_append] at this
      exact this
abbrev Sg5 := Int × Int × List Int × List ByteArray × Bool
def bad (s : ByteArray) (n : Int) : Bool := !(decide ((1 ≤ n ∧ n ≤ 256) ∧ (s.size : Int) ≤ 20000 ∧ (s.size : Int) ≤ 2500 * n))
def cutOf (s : ByteArray) (n : Int) : List ByteArray := Blocks.cut n.toNat s.size s
def sigOf (s : ByteArray) (n a : Int) : Sg5 := if bad s n = true then (0, 0, [], [], false) else (n, (s.size : Int) % n, wk (cutOf s n), sh a (cutOf s n), true)
theorem cut_facts (s : ByteArray) (n : Int) (h : bad s n = false) : (cutOf s n).length ≤ 20000 ∧ ∀ b ∈ cutOf s n, b.size ≤ 19996 := by
  unfold bad at h
  simp at h
  unfold cutOf
  constructor
  · have := Blocks.cut_length n.toNat (by omega) s.size s; omega
  · intro b hb
    have := (Blocks.cut_sizes n.toNat (by omega) s.size s (Nat.le_refl _) b hb).2; omega
theorem spec_sig (s : ByteArray) (n a : Int) (hs : s.size ≤ 1048576) (ha : 0 ≤ a ∧ a < 4294967296) (hn : -9223372036854775808 ≤ n ∧ n < 9223372036854775808) : Ev (fun k => spec_SigOf.f k s n a) (sigOf s n a) := by
  unfold spec_SigOf.f
  simp only [Sums.in_eq, Option.bind_some]
  have hj : ∀ b : Bool, b = bad s n → Ev (fun k => spec_SigOf.j0 k s n a b) (sigOf s n a) := fun b hb => by
    subst hb
    unfold sigOf
    cases hbd : bad s n with
    | true => exact ev_at fun k => by simp [spec_SigOf.j0]
    | false =>
      have hf := cut_facts s n hbd
      unfold bad at hbd
      simp at hbd
      refine Ev.step (f := fun k => (spec_l05Blocks.f k s n).bind fun t => spec_SigOf.l0 k a t 0 n ((s.size : Int) % n) [] []) (fun k => ?_) ?_
      · simp only [spec_SigOf.j0, Bool.false_eq_true, if_false]
        rw [if_neg (by omega)]
      · have h1 := Blocks.spec_ev n.toNat (by omega) s (by omega)
        rw [show ((n.toNat : Nat) : Int) = n by omega] at h1
        refine Ev.bind h1 ?_
        have := spec_loop a n ((s.size : Int) % n) ha (cutOf s n) (by omega) hf.2 (cutOf s n).length 0 [] [] (by omega) rfl rfl
        simp only [List.drop_zero, List.nil_append] at this
        rw [if_neg (by simp)]
        exact this
  by_cases h1 : 1 ≤ n ∧ n ≤ 256
  · rw [decide_eq_true h1]
    simp only [if_true]
    by_cases h2 : (s.size : Int) > 20000
    · simp only [if_pos h2]
      exact hj true (by unfold bad; simp; omega)
    · simp only [if_neg h2, if_neg (show ¬ n = 0 by omega)]
      refine hj _ ?_
      rw [w64 (x := (s.size : Int) + n) (by omega) (by omega), w64 (x := (s.size : Int) + n - 1) (by omega) (by omega), Int.tdiv_eq_ediv_of_nonneg (by omega)]
      have hq0 : 0 ≤ ((s.size : Int) + n - 1) / n := Int.ediv_nonneg (by omega) (by omega)
      have hq1 : ((s.size : Int) + n - 1) / n ≤ (s.size : Int) + n - 1 := Int.ediv_le_self _ (by omega)
      rw [w64 (by omega) (by omega)]
      have hd : (2501 ≤ ((s.size : Int) + n - 1) / n) ↔ 2501 * n ≤ (s.size : Int) + n - 1 := Int.le_ediv_iff_mul_le (by omega)
      unfold bad
      by_cases h3 : (s.size : Int) ≤ 2500 * n
      · rw [decide_eq_true (show (1 ≤ n ∧ n ≤ 256) ∧ (s.size : Int) ≤ 20000 ∧ (s.size : Int) ≤ 2500 * n by omega), decide_eq_false (by omega)]
        rfl
      · rw [decide_eq_false (show ¬ ((1 ≤ n ∧ n ≤ 256) ∧ (s.size : Int) ≤ 20000 ∧ (s.size : Int) ≤ 2500 * n) by omega), decide_eq_true (by omega)]
        rfl
  · rw [decide_eq_false h1]
    simp only [Bool.false_eq_true, if_false]
    exact hj true (by unfold bad; simp; omega)
theorem impl_sig (s : ByteArray) (n a : Int) (hs : s.size ≤ 1048576) (hn : -9223372036854775808 ≤ n ∧ n < 9223372036854775808) : Ev (fun k => impl_SigOf.f k s n a) (sigOf s n a) := by
  unfold impl_SigOf.f
  simp only [Sums.within_eq, Option.bind_some]
  have hj : ∀ b : Bool, b = bad s n → Ev (fun k => impl_SigOf.j0 k s n a b) (sigOf s n a) := fun b hb => by
    subst hb
    unfold sigOf
    cases hbd : bad s n with
    | true => exact ev_at fun k => by simp [impl_SigOf.j0]
    | false =>
      have hf := cut_facts s n hbd
      unfold bad at hbd
      simp at hbd
      refine Ev.step (f := fun k => (impl_blocksOf.f k s n).bind fun t => impl_SigOf.l0 k a t t.length 0 n ((s.size : Int) % n) [] []) (fun k => ?_) ?_
      · simp only [impl_SigOf.j0, Bool.false_eq_true, if_false]
        rw [if_neg (by omega)]
      · have h1 := Blocks.impl_ev n.toNat (by omega) s (by omega)
        rw [show ((n.toNat : Nat) : Int) = n by omega] at h1
        refine Ev.bind h1 ?_
        have := impl_loop a n ((s.size : Int) % n) (cutOf s n) (by omega) hf.2 (cutOf s n).length 0 [] [] (by omega) rfl rfl
        simp only [List.drop_zero, List.nil_append] at this
        rw [if_neg (by simp)]
        exact this
  by_cases h1 : 1 ≤ n ∧ n ≤ 256
  · rw [decide_eq_true h1]
    simp only [if_true]
    by_cases h2 : (s.size : Int) > 20000
    · simp only [if_pos h2]
      exact hj true (by unfold bad; simp; omega)
    · simp only [if_neg h2]
      refine hj _ ?_
      rw [w64 (by omega) (by omega)]
      unfold bad
      by_cases h3 : (s.size : Int) ≤ 2500 * n
      · rw [decide_eq_true (show (1 ≤ n ∧ n ≤ 256) ∧ (s.size : Int) ≤ 20000 ∧ (s.size : Int) ≤ 2500 * n by omega), decide_eq_false (by omega)]
        rfl
      · rw [decide_eq_false (show ¬ ((1 ≤ n ∧ n ≤ 256) ∧ (s.size : Int) ≤ 20000 ∧ (s.size : Int) ≤ 2500 * n) by omega), decide_eq_true (by omega)]
        rfl
  · rw [decide_eq_false h1]
    simp only [Bool.false_eq_true, if_false]
    exact hj true (by unfold bad; simp; omega)
end Go.Proofs.YtbkodnhnadkhdaaDoor.SgP
end

section
/- The law on SigOf returns true: its plain statement and its walk. Condition: none but the arguments' sizes. -/
namespace Go.Proofs.YtbkodnhnadkhdaaDoor.SgP
open Go Go.RowKit Go.Proofs.YtbkodnhnadkhdaaDoor.PSg Go.Proofs.YtbkodnhnadkhdaaDoorW.PrintWords Go.Proofs.YtbkodnhnadkhdaaDoorW.PrintMore Go.Proofs.YtbkodnhnadkhdaaDoor.Arith Go.Proofs.YtbkodnhnadkhdaaDoor.Lib Go.Proofs.YtbkodnhnadkhdaaDoor.ShortP Go.Proofs.YtbkodnhnadkhdaaDoor.MarkTok
set_option linter.unusedVariables false
set_option linter.unusedSimpArgs false
noncomputable def mksQ (q n : Nat) : List ByteArray := (List.range n).map fun j => mt ((q + j : Nat) : Int)
theorem mksQ_length (q n : Nat) : (mksQ q n).length = n := by simp [mksQ]
theorem mksQ_succ (q i : Nat) : mksQ q (i + 1) = mksQ q i ++ [mt ((q + i : Nat) : Int)] := by unfold mksQ; rw [List.range_succ, List.map_append]; rfl
theorem mksQ_at (q n i : Nat) (h : i < (mksQ q n).length) : (mksQ q n)[i] = mt ((q + i : Nat) : Int) := by simp [mksQ]
theorem markQ (q n : Nat) (hn : q + n ≤ 8388608) (d : Nat) : ∀ (i : Nat) (x : List ByteArray), i + d = n → x.length = n → x.take i = mksQ q i → Ev (fun k => laws_markStringS.l0 k x ((q + i : Nat) : Int) i) (((q + n : Nat) : Int), mksQ q n) := by
  induction d with
  | zero =>
    intro i x h hx ht
    refine ev_at fun k => ?_
    simp only [laws_markStringS.l0]
    rw [if_neg (by omega)]
    rw [List.take_of_length_le (by omega)] at ht
    obtain rfl : i = n := by omega
    rw [ht]
  | succ d ih =>
    intro i x h hx ht
    have hi : i < x.length := by omega
    refine Ev.step (f := fun k => (laws_markText.f k ((q + i : Nat) : Int)).bind fun t => laws_markStringS.l0 k (x.set i t) ((q + (i + 1) : Nat) : Int) ((i + 1 : Nat) : Int)) (fun k => ?_) (Ev.bind (mt_ev _ (by omega) (by omega)) (ih (i + 1) _ (by omega) (by rw [List.length_set]; exact hx) ?_))
    · simp only [laws_markStringS.l0]
      rw [if_pos (by omega), w64s i (by omega), w64s (q + i) (by omega), Int.toNat_natCast]
      simp only [if_pos (show (0 : Int) ≤ (i : Int) by omega)]
      rfl
    · rw [List.take_succ_eq_append_getElem (by rw [List.length_set]; exact hi), List.getElem_set_self, List.take_set_of_le (Nat.le_refl i), ht, mksQ_succ]
theorem heldQ (q n : Nat) (hn : q + n ≤ 8388608) (d : Nat) : ∀ (i : Nat), i + d = n → Ev (fun k => laws_heldStringS.l0 k (mksQ q n) ((q + i : Nat) : Int) i) ((q + n : Nat) : Int) := by
  induction d with
  | zero =>
    intro i h
    refine ev_at fun k => ?_
    simp only [laws_heldStringS.l0]
    rw [if_neg (by rw [mksQ_length]; omega), show i = n by omega]
  | succ d ih =>
    intro i h
    have hi : i < (mksQ q n).length := by rw [mksQ_length]; omega
    refine Ev.step (f := fun k => (laws_markText.f k ((q + i : Nat) : Int)).bind fun t => if (mt ((q + i : Nat) : Int)).toList = t.toList then laws_heldStringS.l0 k (mksQ q n) ((q + (i + 1) : Nat) : Int) ((i + 1 : Nat) : Int) else some (-1)) (fun k => ?_) (Ev.bind (mt_ev _ (by omega) (by omega)) ?_)
    · simp only [laws_heldStringS.l0]
      rw [if_pos (by omega), if_pos (by omega), MarkStr.rdB _ i hi, mksQ_at, w64s i (by omega), w64s (q + i) (by omega)]
      rfl
    · simp only [if_true]
      exact ih (i + 1) (by omega)
noncomputable abbrev mW (l : List Int) : List Int := Mark.mk 4294967296 l.length
noncomputable abbrev mT (l : List Int) (m : List ByteArray) : List ByteArray := mksQ (l.length + 1) m.length
theorem mark_sig (a b : Int) (l : List Int) (m : List ByteArray) (hl : l.length ≤ 2097152) (hm : m.length ≤ 2097152) : Ev (fun k => laws_markSig.f k a b l m 1) (((l.length + 1 + m.length : Nat) : Int), mW l, mT l m) := by
  unfold laws_markSig.f
  refine Ev.bind (Mark.mark_evUint32S l hl) ?_
  refine Ev.bind (g := fun k => laws_markStringS.f k m ((l.length + 1 : Nat) : Int)) (markQ (l.length + 1) m.length (by omega) m.length 0 m (by omega) rfl (by simp [mksQ])) ?_
  exact Ev.now _
theorem held_sig (a b : Int) (l : List Int) (m : List ByteArray) (hl : l.length ≤ 2097152) (hm : m.length ≤ 2097152) : Ev (fun k => laws_heldSig.f k a b (mW l) (mT l m) 1) ((l.length + 1 + m.length : Nat) : Int) := by
  unfold laws_heldSig.f
  refine Ev.bind (Mark.held_evUint32S l.length hl) ?_
  simp only [if_neg (show ¬ ((l.length + 1 : Nat) : Int) < 0 by omega)]
  refine Ev.bind (g := fun k => laws_heldStringS.f k (mT l m) ((l.length + 1 : Nat) : Int)) (heldQ (l.length + 1) m.length (by omega) m.length 0 (by omega)) ?_
  simp only [if_neg (show ¬ ((l.length + 1 + m.length : Nat) : Int) < 0 by omega)]
  exact Ev.now _
theorem sig_lengths (s : ByteArray) (n a : Int) : (sigOf s n a).2.2.1.length ≤ 20000 ∧ (sigOf s n a).2.2.2.1.length ≤ 20000 := by
  unfold sigOf
  cases hb : bad s n with
  | true => simp
  | false =>
    have := (cut_facts s n hb).1
    simp [wk, sh]
    omega
theorem eq_ev (a b : Int) (l : List Int) (m : List ByteArray) (hl : l.length ≤ 2097152) (hm : m.length ≤ 2097152) : Ev (fun k => laws_eqSig.f k a b l m a b l m) true := by
  unfold laws_eqSig.f
  simp only [if_true]
  refine Ev.bind (Mark.eq_evUint32S l (by omega)) ?_
  simp only [if_true]
  refine Ev.bind (MarkStr.eq_ev m (by omega)) ?_
  simp only [if_true]
  exact Ev.now _
theorem FnExactSigOf : laws_FnExactSigOf.Pure := by
  intro s n a hs hn ha
  have ha' := u32 ha
  have hn' : -9223372036854775808 ≤ n ∧ n < 9223372036854775808 := by
    simp [Lit.wf, IntKind.min, IntKind.max, IntKind.signed, IntKind.bits] at hn; omega
  apply Ev.rounds
  unfold laws_FnExactSigOf.f
  by_cases h : (s.size : Int) > 1048576
  · simp only [if_pos h]; exact Ev.now _
  simp only [if_neg h]
  have hS := spec_sig s n a (by omega) ha' hn'
  have hI := impl_sig s n a (by omega) hn'
  have hlen := sig_lengths s n a
  generalize sigOf s n a = g at hS hI hlen
  obtain ⟨g0, g1, l, m, f⟩ := g
  have hq := eq_ev g0 g1 l m (by simp at hlen; omega) (by simp at hlen; omega)
  have hk := mark_sig g0 g1 l m (by simp at hlen; omega) (by simp at hlen; omega)
  have hh := held_sig g0 g1 l m (by simp at hlen; omega) (by simp at hlen; omega)
  refine Ev.bind hS (Ev.bind hI (Ev.bind hq ?_))
  simp only [if_true, bne_self_eq_false]
  refine Ev.step (f := fun k => (laws_markSig.f k g0 g1 l m 1).bind fun bt201 => (laws_heldSig.f k g0 g1 bt201.2.1 bt201.2.2 1).bind fun t204 => (if t204 < 0 then some false else (if t204 = bt201.1 then (impl_SigOf.f k s n a).bind fun bt205 => (laws_eqSig.f k bt205.1 bt205.2.1 bt205.2.2.1 bt205.2.2.2.1 g0 g1 l m).bind fun t215 => (if t215 = true then laws_FnExactSigOf.j1 k bt201.1 (bt205.2.2.2.2 != f) g0 g1 bt201.2.1 bt201.2.2 else laws_FnExactSigOf.j1 k bt201.1 true g0 g1 bt201.2.1 bt201.2.2) else some false))) (fun k => by simp only [laws_FnExactSigOf.j0, Bool.false_eq_true, if_false]) ?_
  refine Ev.bind hk (Ev.bind hh ?_)
  simp only [if_neg (show ¬ ((l.length + 1 + m.length : Nat) : Int) < 0 by omega), if_true]
  refine Ev.bind hI (Ev.bind hq ?_)
  simp only [if_true, bne_self_eq_false]
  refine Ev.step (f := fun k => (laws_heldSig.f k g0 g1 (mW l) (mT l m) 1).bind fun t => if t < 0 then some false else (if t = ((l.length + 1 + m.length : Nat) : Int) then some true else some false)) (fun k => by simp only [laws_FnExactSigOf.j1, Bool.false_eq_true, if_false]) ?_
  refine Ev.bind hh ?_
  simp only [if_neg (show ¬ ((l.length + 1 + m.length : Nat) : Int) < 0 by omega), if_true]
  exact Ev.now _
theorem walkSigOf {P : Prop} (W : World) (hL : laidMetH Tryd.prog Rows.fnExactSigOfRow.laid W) (_ : P) (a0 : ByteArray) (w0 : a0.size ≤ 140737488351232) (a1 : Int) (w1 : (Lit.int .i64 a1).wf = true) (a2 : Int) (w2 : (Lit.int .u32 a2).wf = true) :
    Calls Tryd.prog 7 #[.string a0, .int .i64 a1, .int .u32 a2] W fun e W' => e = .returned (.bool true) ∧ Below W.heap.size W W' := by
  obtain ⟨k, hk⟩ := FnExactSigOf a0 a1 a2 w0 w1 w2
  exact laws_FnExactSigOf.calls k a0 a1 a2 true W (Tab.of_laid hL) hk
end Go.Proofs.YtbkodnhnadkhdaaDoor.SgP
end
