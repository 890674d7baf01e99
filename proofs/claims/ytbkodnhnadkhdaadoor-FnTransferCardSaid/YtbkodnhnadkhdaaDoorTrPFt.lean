/- Both Transfer find the same size, signature, tokens and text. Condition: at most 20000 bytes each; a seed is a word. -/
import Derived.Test.YtbkodnhnadkhdaaDoorPFtx0
import Derived.Test.YtbkodnhnadkhdaaDoorPFtx3
import Derived.Test.YtbkodnhnadkhdaaDoorPFtx5
import Derived.Test.YtbkodnhnadkhdaaDoorPFtx6
import Derived.Test.YtbkodnhnadkhdaaDoorPFtx7
import Derived.Test.YtbkodnhnadkhdaaDoorSgPFt
import Derived.Test.YtbkodnhnadkhdaaDoorDlLFt
import Derived.Test.YtbkodnhnadkhdaaDoorWalkFnExactPatchFt
import Derived.Test.YtbkodnhnadkhdaaDoorBlocksFt
import Derived.Test.YtbkodnhnadkhdaaDoorStrV
namespace Go.Proofs.YtbkodnhnadkhdaaDoor.TrP
open Go Go.RowKit Go.Proofs.YtbkodnhnadkhdaaDoor.PFt Go.Proofs.YtbkodnhnadkhdaaDoorW.PrintWords Go.Proofs.YtbkodnhnadkhdaaDoorW.PrintMore Go.Proofs.YtbkodnhnadkhdaaDoor.Arith Go.Proofs.YtbkodnhnadkhdaaDoor.Lib
set_option linter.unusedVariables false
set_option linter.unusedSimpArgs false
theorem cut_same (n : Nat) (d : Nat) : ∀ s : ByteArray, Blocks.cut n d s = Patch.cut n d s := by
  induction d with
  | zero => intro s; rfl
  | succ d ih => intro s; simp only [Blocks.cut, Patch.cut, ih]
theorem cut_count (n : Nat) (hn : 1 ≤ n) (s : ByteArray) : (Blocks.cut n s.size s).length = (s.size + n - 1) / n := by
  rw [cut_same]; exact Patch.cut_len n hn s.size s (Nat.le_refl _)
theorem four_ok (sd : Int) (b : ByteArray) (h : b.size ≤ 19996) : SigOk.four (Str.shortOf sd b 4) = true := by
  unfold SigOk.four Str.shortOf Str.fits16
  rw [if_pos (by simp; omega)]
  refine decide_eq_true ?_
  rw [strOfNums_size, List.length_take, Str.md5_length]
  rfl
theorem sig_ok (s : ByteArray) (n : Nat) (sd : Int) (h1 : 8 ≤ n) (h2 : n ≤ 256) (hs : s.size ≤ 20000) :
    SgP.bad s n = false ∧ SigOk.sigOk n ((s.size : Int) % n) (SgP.wk (SgP.cutOf s n)) (SgP.sh sd (SgP.cutOf s n)) = true := by
  have hb : SgP.bad s n = false := by
    unfold SgP.bad
    rw [decide_eq_true (show (1 ≤ (n : Int) ∧ (n : Int) ≤ 256) ∧ (s.size : Int) ≤ 20000 ∧ (s.size : Int) ≤ 2500 * (n : Int) by omega)]; rfl
  refine ⟨hb, ?_⟩
  have hf := SgP.cut_facts s n hb
  have hc : (SgP.cutOf s n).length = (s.size + n - 1) / n := by
    unfold SgP.cutOf; rw [Int.toNat_natCast]; exact cut_count n (by omega) s
  obtain ⟨q, r, hq, hr, hm⟩ : ∃ q r, s.size = n * q + r ∧ r < n ∧ s.size % n = r := ⟨s.size / n, s.size % n, (Nat.div_add_mod _ _).symm, Nat.mod_lt _ (by omega), rfl⟩
  have hmod : (s.size : Int) % (n : Int) = (r : Int) := by rw [← hm]; exact (Int.natCast_emod _ _).symm
  have hL : (SgP.cutOf s n).length = if r = 0 then q else q + 1 := by
    rw [hc]
    by_cases h : r = 0
    · rw [if_pos h]
      refine Nat.div_eq_of_lt_le ?_ ?_
      · rw [Nat.mul_comm]; omega
      · rw [Nat.add_mul, Nat.one_mul, Nat.mul_comm q n]; omega
    · rw [if_neg h]
      refine Nat.div_eq_of_lt_le ?_ ?_
      · rw [Nat.add_mul, Nat.one_mul, Nat.mul_comm q n]; omega
      · rw [Nat.add_mul, Nat.add_mul, Nat.one_mul, Nat.mul_comm q n]; omega
  have h8 : 8 * q ≤ n * q := Nat.mul_le_mul_right q h1
  obtain ⟨C, hC⟩ : ∃ C, C = SgP.cutOf s n := ⟨_, rfl⟩
  rw [← hC] at hL hf ⊢
  have hwl : (SgP.wk C).length = C.length := by simp [SgP.wk]
  have hsl : (SgP.sh sd C).length = C.length := by simp [SgP.sh]
  have hcut : RecSig.isCut n (r : Int) C.length = true := by
    unfold RecSig.isCut
    refine decide_eq_true ⟨by omega, by omega, by omega, by omega, ?_⟩
    rw [hL]; split <;> omega
  have hall : (SgP.sh sd C).all SigOk.four = true := by
    rw [List.all_eq_true]
    intro x hx
    obtain ⟨b, hb, rfl⟩ := List.mem_map.1 hx
    exact four_ok sd b (hf.2 b hb)
  have hlen : RecSig.slen n (r : Int) C.length ≤ 20000 := by
    have hnq : (n : Int) * (q : Int) = ((n * q : Nat) : Int) := by simp
    unfold RecSig.slen
    rw [hcut, if_pos rfl, hL]
    by_cases h : r = 0
    · simp only [if_pos h]
      rw [if_neg (show ¬ (r : Int) > 0 by omega), hnq]
      split <;> omega
    · simp only [if_neg h]
      rw [if_neg (by omega), if_pos (show (r : Int) > 0 by omega), Int.natCast_add, Int.natCast_one, Int.mul_add, hnq]
      omega
  unfold SigOk.sigOk
  rw [hmod, hwl, hsl, hcut, hall, decide_eq_true rfl, decide_eq_true (show (r : Int) = 0 ∨ 0 < C.length by rw [hL]; split <;> omega), decide_eq_true hlen]
  rfl
theorem run_size (s : ByteArray) (n nb : Nat) : ∀ (l : List S94) (acc : List Int), acc.length ≤ 20000 → (Patch.run s n nb acc l).1.size ≤ 20000
  | [], acc, h => by show (strOfNums acc).size ≤ 20000; rw [strOfNums_size]; exact h
  | x :: l, acc, h => by
    simp only [Patch.run]
    split
    · exact Nat.zero_le _
    · rename_i a ha
      exact run_size s n nb l a (Patch.step_length ha)
theorem val_size (s : ByteArray) (a : Int) (l : List S94) : (WalkFnExactPatch.val s a l).1.size ≤ 20000 := by
  unfold WalkFnExactPatch.val
  split
  · split
    · exact Nat.zero_le _
    · split
      · exact Nat.zero_le _
      · exact run_size _ _ _ _ _ (by simp)
  · exact Nat.zero_le _
theorem wk_range (bs : List ByteArray) : ∀ y ∈ SgP.wk bs, 0 ≤ y ∧ y < 4294967296 := fun y hy => by
  obtain ⟨b, _, rfl⟩ := List.mem_map.1 hy
  exact DlP.weak_range b
theorem sum_eq (x y : ByteArray) (hx : x.size ≤ 20000) (hy : y.size ≤ 20000) : (strOfNums (Str.md5 x)).toList = (strOfNums (Str.md5 y)).toList ↔ Str.sumOf x = Str.sumOf y := by
  unfold Str.sumOf
  rw [if_pos hx, if_pos hy]
  constructor
  · intro h
    have := congrArg bytesOf (toList_inj h)
    rwa [bytesOf_strOfNums (Str.md5_bytes x), bytesOf_strOfNums (Str.md5_bytes y)] at this
  · intro h; rw [h]
theorem impl_ev (old data : ByteArray) (sd size a b : Int) (wk : List Int) (st : List ByteArray) (L : List S94) (out : ByteArray) (ok same : Bool) (ho : old.size ≤ 20000) (hd : data.size ≤ 20000) (hz : out.size ≤ 20000)
    (hB : Ev (fun k => impl_BlockSize.f k old.size) size) (hG : Ev (fun k => impl_SigOf.f k old size sd) (a, b, wk, st, true)) (hD : Ev (fun k => impl_delta.f k a b wk st sd data) L) (hP : Ev (fun k => impl_Patch.f k old size L) (out, ok))
    (hs : same = (ok && decide (Str.sumOf out = Str.sumOf data))) :
    Ev (fun k => impl_Transfer.f k old data sd) (if same = true then out else data, if same = true then L else Blocks.only data, !same) := by
  unfold impl_Transfer.f
  simp only [if_neg (show ¬ (old.size : Int) > 20000 by omega), decide_eq_false (show ¬ (data.size : Int) > 20000 by omega)]
  refine Ev.step (f := fun k => (impl_BlockSize.f k (old.size : Int)).bind fun t145 => ((impl_SigOf.f k old t145 sd).bind fun bt146 => ((impl_delta.f k bt146.1 bt146.2.1 bt146.2.2.1 bt146.2.2.2.1 sd data).bind fun t156 => ((impl_Patch.f k old t145 t156).bind fun bt159 => (if bt159.2 = true then ((impl_strong.f bt159.1).bind fun t161 => ((impl_strong.f data).bind fun t162 => (if t161.toList = t162.toList then (some (bt159.1, t156, false)) else ((impl_OnlyLiterals.f k data).bind fun t163 => (some (data, t163, true)))))) else ((impl_OnlyLiterals.f k data).bind fun t166 => (some (data, t166, true)))))))) (fun k => ?_) ?_
  · simp only [impl_Transfer.j0, Bool.false_eq_true, if_false]
  refine Ev.bind hB (Ev.bind hG (Ev.bind hD (Ev.bind hP ?_)))
  have hl := Blocks.only_impl data
  cases ok with
  | false =>
    obtain rfl : same = false := by rw [hs]; rfl
    simp only [Bool.false_eq_true, if_false, Bool.not_false]
    exact Ev.bind hl (Ev.now _)
  | true =>
    simp only [if_true, ShortP.strong_some out (by omega), ShortP.strong_some data (by omega), Option.bind_some]
    by_cases h : Str.sumOf out = Str.sumOf data
    · obtain rfl : same = true := by rw [hs, decide_eq_true h]; rfl
      simp only [if_pos ((sum_eq out data hz hd).2 h), if_true, Bool.not_true]
      exact Ev.now _
    · obtain rfl : same = false := by rw [hs, decide_eq_false h]; rfl
      simp only [if_neg (fun e => h ((sum_eq out data hz hd).1 e)), Bool.false_eq_true, if_false, Bool.not_false]
      exact Ev.bind hl (Ev.now _)
theorem impl_big (old data : ByteArray) (sd : Int) (h : (old.size : Int) > 20000 ∨ (data.size : Int) > 20000) : Ev (fun k => impl_Transfer.f k old data sd) ((⟨#[]⟩ : ByteArray), ([] : List S94), false) := by
  unfold impl_Transfer.f
  have hj : Ev (fun k => impl_Transfer.j0 k old data sd true) ((⟨#[]⟩ : ByteArray), ([] : List S94), false) := ev_at fun k => by simp only [impl_Transfer.j0, if_true]
  by_cases ho : (old.size : Int) > 20000
  · simp only [if_pos ho]; exact hj
  · simp only [if_neg ho, decide_eq_true (h.resolve_left ho)]; exact hj
end Go.Proofs.YtbkodnhnadkhdaaDoor.TrP
