/- ShortSum: the program's and the reference's are the same bytes. Condition: a seed is a word; at most 2^20 bytes. -/
import Derived.Test.YtbkodnhnadkhdaaDoorPFtx3
import Derived.Test.YtbkodnhnadkhdaaDoorPFtx4
import Derived.Test.YtbkodnhnadkhdaaDoorStrV
import Derived.Test.YtbkodnhnadkhdaaDoorPFtx2
import Derived.Test.YtbkodnhnadkhdaaDoorPFtx5
import Derived.Test.YtbkodnhnadkhdaaDoorRecSigFt
import Derived.Test.YtbkodnhnadkhdaaDoorBlocksFt
import Derived.Test.YtbkodnhnadkhdaaDoorWeakFt
section
/- ShortSum: the program's and the reference's are the same bytes. Condition: a seed is a word; at most 2^20 bytes. -/
namespace Go.Proofs.YtbkodnhnadkhdaaDoor.ShortP
open Go Go.RowKit Go.Proofs.YtbkodnhnadkhdaaDoor.PFt Go.Proofs.YtbkodnhnadkhdaaDoorW.PrintWords Go.Proofs.YtbkodnhnadkhdaaDoorW.PrintMore Go.Proofs.YtbkodnhnadkhdaaDoor.Arith Go.Proofs.YtbkodnhnadkhdaaDoor.Lib
set_option linter.unusedVariables false
set_option linter.unusedSimpArgs false
theorem word_text (a : Int) : impl_wordText.f a = some (strOfNums (Word.word a)) := rfl
theorem strong_some (s : ByteArray) (h : s.size ≤ 1000000) : impl_strong.f s = some (strOfNums (Str.md5 s)) := by unfold impl_strong.f; rw [if_pos h]
theorem short_eq (a : Int) (s : ByteArray) (n : Int) (h1 : 1 ≤ n) (h2 : n ≤ 16) (hs : s.size ≤ 999000) : impl_short.f a s n = some (strOfNums ((Str.md5 (Str.seeded a s)).take n.toNat)) := by
  unfold impl_short.f
  have hw : (strOfNums (Word.word a)).size = 4 := by rw [strOfNums_size]; rfl
  have hz := Str.seeded_size a s
  unfold Str.seeded at hz ⊢
  rw [word_text, Option.bind_some, if_pos (by omega), strong_some _ (by omega), Option.bind_some, if_pos (by omega), if_pos (by rw [strOfNums_size, Str.md5_length]; omega), extract_strOfNums, List.drop_zero]
theorem u32 {a : Int} (ha : (Lit.int .u32 a).wf = true) : 0 ≤ a ∧ a < 4294967296 := by
  simp [Lit.wf, IntKind.min, IntKind.max, IntKind.signed, IntKind.bits] at ha; omega
end Go.Proofs.YtbkodnhnadkhdaaDoor.ShortP
end

section
/- Signatures: what both SigOf make of a text, and both BlockFits of a block; the law's marks. Condition: a seed is a word. -/
namespace Go.Proofs.YtbkodnhnadkhdaaDoor.SgP
open Go Go.RowKit Go.Proofs.YtbkodnhnadkhdaaDoor.PFt Go.Proofs.YtbkodnhnadkhdaaDoorW.PrintWords Go.Proofs.YtbkodnhnadkhdaaDoorW.PrintMore Go.Proofs.YtbkodnhnadkhdaaDoor.Arith Go.Proofs.YtbkodnhnadkhdaaDoor.Lib Go.Proofs.YtbkodnhnadkhdaaDoor.ShortP
set_option linter.unusedVariables false
set_option linter.unusedSimpArgs false
theorem short4 (a : Int) (s : ByteArray) (h : s.size ≤ 19996) : impl_short.f a s 4 = some (Str.shortOf a s 4) := by
  rw [short_eq a s 4 (by omega) (by omega) (by omega)]
  unfold Str.shortOf Str.fits16
  rw [if_pos (by simp; omega)]
def wk (bs : List ByteArray) : List Int := bs.map Weak.weakOf
def sh (a : Int) (bs : List ByteArray) : List ByteArray := bs.map fun b => Str.shortOf a b 4
theorem impl_loop (a n r : Int) (bs : List ByteArray) (hb : bs.length ≤ 1000000) (hz : ∀ b ∈ bs, b.size ≤ 19996) (d : Nat) : ∀ (i : Nat) (ws : List Int) (ss : List ByteArray), i + d = bs.length → ws.length = i → ss.length = i →
    Ev (fun k => impl_SigOf.l0 k a bs bs.length i n r ws ss) (n, r, ws ++ wk (bs.drop i), ss ++ sh a (bs.drop i), true) := by
  induction d with
  | zero =>
    intro i ws ss h hw hs
    refine ev_at fun k => ?_
    simp only [impl_SigOf.l0]
    rw [if_neg (by omega), List.drop_eq_nil_of_le (by omega)]
    simp [wk, sh]
  | succ d ih =>
    intro i ws ss h hw hs
    have hi : i < bs.length := by omega
    have hbz := hz _ (List.getElem_mem hi)
    refine Ev.step (f := fun k => (impl_weakOf.f k bs[i]).bind fun t => (impl_short.f a bs[i] 4).bind fun u => impl_SigOf.l0 k a bs bs.length ((i + 1 : Nat) : Int) n r (ws ++ [t]) (ss ++ [u])) (fun k => ?_) ?_
    · simp only [impl_SigOf.l0]
      rw [if_pos (by omega), if_pos (by omega), if_pos (by omega), RecSig.rdS bs i hi, w64s i (by omega)]
      simp only [if_pos (show ws.length < 35184372088832 by omega), if_pos (show ss.length < 8796093022208 by omega)]
    · refine Ev.bind (Weak.impl_ev _ (by omega)) ?_
      simp only [short4 a bs[i] (by omega), Option.bind_some]
      have := ih (i + 1) (ws ++ [Weak.weakOf bs[i]]) (ss ++ [Str.shortOf a bs[i] 4]) (by omega) (by simp; omega) (by simp; omega)
      rw [List.drop_eq_getElem_cons hi, show wk (bs[i] :: bs.drop (i + 1)) = Weak.weakOf bs[i] :: wk (bs.drop (i + 1)) from rfl, show sh a (bs[i] :: bs.drop (i + 1)) = Str.shortOf a bs[i] 4 :: sh a (bs.drop (i + 1)) from rfl]
      simp only [List.append_assoc, List.singleton_append] at this
      exact this
abbrev Sg5 := Int × Int × List Int × List ByteArray × Bool
def bad (s : ByteArray) (n : Int) : Bool := !(decide ((1 ≤ n ∧ n ≤ 256) ∧ (s.size : Int) ≤ 20000 ∧ (s.size : Int) ≤ 2500 * n))
def cutOf (s : ByteArray) (n : Int) : List ByteArray := Blocks.cut n.toNat s.size s
def sigOf (s : ByteArray) (n a : Int) : Sg5 := if bad s n = true then (0, 0, [], [], false) else (n, (s.size : Int) % n, wk (cutOf s n), sh a (cutOf s n), true)
theorem cut_facts (s : ByteArray) (n : Int) (h : bad s n = false) : (cutOf s n).length ≤ 20000 ∧ ∀ b ∈ cutOf s n, b.size ≤ 19996 := by
  unfold bad at h
  simp at h
  unfold cutOf
  constructor
  · have := Blocks.cut_length n.toNat (by omega) s.size s; omega
  · intro b hb
    have := (Blocks.cut_sizes n.toNat (by omega) s.size s (Nat.le_refl _) b hb).2; omega
theorem impl_sig (s : ByteArray) (n a : Int) (hs : s.size ≤ 1048576) (hn : -9223372036854775808 ≤ n ∧ n < 9223372036854775808) : Ev (fun k => impl_SigOf.f k s n a) (sigOf s n a) := by
  unfold impl_SigOf.f
  simp only [Sums.within_eq, Option.bind_some]
  have hj : ∀ b : Bool, b = bad s n → Ev (fun k => impl_SigOf.j0 k s n a b) (sigOf s n a) := fun b hb => by
    subst hb
    unfold sigOf
    cases hbd : bad s n with
    | true => exact ev_at fun k => by simp [impl_SigOf.j0]
    | false =>
      have hf := cut_facts s n hbd
      unfold bad at hbd
      simp at hbd
      refine Ev.step (f := fun k => (impl_blocksOf.f k s n).bind fun t => impl_SigOf.l0 k a t t.length 0 n ((s.size : Int) % n) [] []) (fun k => ?_) ?_
      · simp only [impl_SigOf.j0, Bool.false_eq_true, if_false]
        rw [if_neg (by omega)]
      · have h1 := Blocks.impl_ev n.toNat (by omega) s (by omega)
        rw [show ((n.toNat : Nat) : Int) = n by omega] at h1
        refine Ev.bind h1 ?_
        have := impl_loop a n ((s.size : Int) % n) (cutOf s n) (by omega) hf.2 (cutOf s n).length 0 [] [] (by omega) rfl rfl
        simp only [List.drop_zero, List.nil_append] at this
        rw [if_neg (by simp)]
        exact this
  by_cases h1 : 1 ≤ n ∧ n ≤ 256
  · rw [decide_eq_true h1]
    simp only [if_true]
    by_cases h2 : (s.size : Int) > 20000
    · simp only [if_pos h2]
      exact hj true (by unfold bad; simp; omega)
    · simp only [if_neg h2]
      refine hj _ ?_
      rw [w64 (by omega) (by omega)]
      unfold bad
      by_cases h3 : (s.size : Int) ≤ 2500 * n
      · rw [decide_eq_true (show (1 ≤ n ∧ n ≤ 256) ∧ (s.size : Int) ≤ 20000 ∧ (s.size : Int) ≤ 2500 * n by omega), decide_eq_false (by omega)]
        rfl
      · rw [decide_eq_false (show ¬ ((1 ≤ n ∧ n ≤ 256) ∧ (s.size : Int) ≤ 20000 ∧ (s.size : Int) ≤ 2500 * n) by omega), decide_eq_true (by omega)]
        rfl
  · rw [decide_eq_false h1]
    simp only [Bool.false_eq_true, if_false]
    exact hj true (by unfold bad; simp; omega)
end Go.Proofs.YtbkodnhnadkhdaaDoor.SgP
end
