/- The law on DeltaOf returns true at every signature, seed and text: its plain statement and its walk. No condition. -/
import Derived.Test.YtbkodnhnadkhdaaDoorPDlx0
import Derived.Test.YtbkodnhnadkhdaaDoorPDlx4
import Derived.Test.YtbkodnhnadkhdaaDoorPDlx8
import Derived.Test.YtbkodnhnadkhdaaDoorPDlx11
import Derived.Test.YtbkodnhnadkhdaaDoorDlQDl
import Derived.Test.YtbkodnhnadkhdaaDoorDlWDl
import Derived.Test.YtbkodnhnadkhdaaDoorMarkSigDl
import Derived.Test.YtbkodnhnadkhdaaDoorOpSigW
namespace Go.Proofs.YtbkodnhnadkhdaaDoor.DlL
open Go Go.RowKit Go.Proofs.YtbkodnhnadkhdaaDoor.PDl Go.Proofs.YtbkodnhnadkhdaaDoorW.PrintWords Go.Proofs.YtbkodnhnadkhdaaDoorW.PrintMore Go.Proofs.YtbkodnhnadkhdaaDoor.Arith Go.Proofs.YtbkodnhnadkhdaaDoor.Lib Go.Proofs.YtbkodnhnadkhdaaDoor.RecSig Go.Proofs.YtbkodnhnadkhdaaDoor.DlP
set_option linter.unusedVariables false
set_option linter.unusedSimpArgs false
def delta (a b : Int) (l : List Int) (m : List ByteArray) (sd : Int) (s : ByteArray) : List S94 := impl_delta.run a b l m sd s (sums s a.toNat) (sums s b.toNat) s.size 0 []
def deltaOf (a b : Int) (l : List Int) (m : List ByteArray) (sd : Int) (s : ByteArray) : List S94 := if SigOk.sigOk a b l m = true then (if s.size > 20000 then [] else delta a b l m sd s) else []
theorem delta_len (a b : Int) (l : List Int) (m : List ByteArray) (sd : Int) (s : ByteArray) (h : s.size ≤ 20000) : (delta a b l m sd s).length ≤ 20000 := by
  have := DlQ.run_len a b l m sd s (sums s a.toNat) (sums s b.toNat) s.size 0 []
  unfold delta
  simp at this
  omega
theorem len (a b : Int) (l : List Int) (m : List ByteArray) (sd : Int) (s : ByteArray) : (deltaOf a b l m sd s).length ≤ 20000 := by
  unfold deltaOf
  split
  · split
    · simp
    · exact delta_len a b l m sd s (by omega)
  · simp
theorem impl_delta_ev (a b : Int) (l : List Int) (m : List ByteArray) (sd : Int) (s : ByteArray) (h1 : 1 ≤ a ∧ a ≤ 256) (h2 : 0 ≤ b ∧ b < a) (h3 : l.length ≤ 2500) (h4 : l.length = m.length) (hsd : 0 ≤ sd ∧ sd < 4294967296) (hs : s.size ≤ 20000) (hw : ∀ y ∈ l, 0 ≤ y ∧ y < 4294967296) : Ev (fun k => impl_delta.f k a b l m sd s) (delta a b l m sd s) := by
  obtain ⟨x, rfl⟩ := Int.eq_ofNat_of_zero_le (show 0 ≤ a by omega)
  obtain ⟨y, rfl⟩ := Int.eq_ofNat_of_zero_le h2.1
  unfold impl_delta.f delta
  rw [Int.toNat_natCast, Int.toNat_natCast]
  refine Ev.bind (all_ev s x hs) (Ev.bind (all_ev s y hs) ?_)
  have hz : ∀ n : Nat, (sums s n = [] ∨ ((sums s n).length : Int) + (n : Int) ≤ s.size + 1) := fun n => by
    rw [sums_len]
    by_cases h : n = 0 ∨ s.size < n
    · left; unfold sums; rw [if_pos h]
    · right; rw [if_neg h]; omega
  have hok : impl_delta.ok x y l m sd s (sums s x) (sums s y) = true := by
    unfold impl_delta.ok
    rw [Bool.and_eq_true, decide_eq_true_eq, List.all_eq_true]
    refine ⟨⟨h1.1, h1.2, h2.1, h2.2, h3, h4, hsd, hs, hz x, hz y⟩, fun z hz => ?_⟩
    rw [decide_eq_true_eq]
    rcases List.mem_append.1 hz with h | h
    · exact hw z h
    · rcases List.mem_append.1 h with h | h
      · exact sums_range s x z h
      · exact sums_range s y z h
  simp only [hok, if_true]
  exact Ev.now _
theorem facts {a b : Int} {l : List Int} {m : List ByteArray} (h : SigOk.sigOk a b l m = true) : (1 ≤ a ∧ a ≤ 256) ∧ (0 ≤ b ∧ b < a) ∧ l.length ≤ 2500 ∧ l.length = m.length ∧ ∀ t ∈ m, t.size = 4 := by
  unfold SigOk.sigOk isCut at h
  simp only [Bool.and_eq_true, decide_eq_true_eq] at h
  obtain ⟨⟨⟨⟨⟨h1, h2, h3, h4, h5⟩, h6⟩, h7⟩, _⟩, _⟩ := h
  refine ⟨⟨h1, h2⟩, ⟨h3, by omega⟩, h5, h6, fun t ht => ?_⟩
  have := List.all_eq_true.1 h7 t ht
  unfold SigOk.four at this
  have := of_decide_eq_true this
  omega
theorem impl_ev (a b : Int) (l : List Int) (m : List ByteArray) (sd : Int) (s : ByteArray) (hm : m.length ≤ 2097152) (hsd : 0 ≤ sd ∧ sd < 4294967296) (hw : ∀ y ∈ l, 0 ≤ y ∧ y < 4294967296) : Ev (fun k => impl_DeltaOf.f k a b l m sd s) (deltaOf a b l m sd s) := by
  unfold impl_DeltaOf.f deltaOf
  refine Ev.bind (SigOk.impl_ok a b l m hm) ?_
  cases h : SigOk.sigOk a b l m with
  | false => simp only [Bool.false_eq_true, if_false]; exact Ev.now _
  | true =>
    simp only [if_true]
    by_cases hb : s.size > 20000
    · simp only [if_pos hb, if_pos (show (s.size : Int) > 20000 by omega)]; exact Ev.now _
    · simp only [if_neg hb, if_neg (show ¬ (s.size : Int) > 20000 by omega)]
      obtain ⟨f1, f2, f3, f4, f5⟩ := facts h
      exact Ev.bind (impl_delta_ev a b l m sd s f1 f2 f3 f4 hsd (by omega) hw) (Ev.now _)
theorem spec_ev (a b : Int) (l : List Int) (m : List ByteArray) (sd : Int) (s : ByteArray) (hm : m.length ≤ 2097152) (hsd : 0 ≤ sd ∧ sd < 4294967296) : Ev (fun k => spec_DeltaOf.f k a b l m sd s) (deltaOf a b l m sd s) := by
  unfold spec_DeltaOf.f deltaOf
  refine Ev.bind (SigOk.spec_ok a b l m hm) ?_
  cases h : SigOk.sigOk a b l m with
  | false => simp only [Bool.false_eq_true, if_false]; exact Ev.now _
  | true =>
    simp only [if_true]
    by_cases hb : s.size > 20000
    · simp only [if_pos hb, if_pos (show (s.size : Int) > 20000 by omega)]; exact Ev.now _
    · simp only [if_neg hb, if_neg (show ¬ (s.size : Int) > 20000 by omega)]
      obtain ⟨f1, f2, f3, f4, f5⟩ := facts h
      have hok : spec_DeltaOf.ok a b l m = true := by unfold spec_DeltaOf.ok; exact decide_eq_true ⟨f1.1, f1.2, f2.1, f2.2, f3, f4⟩
      simp only [hok, if_true]
      obtain ⟨x, rfl⟩ := Int.eq_ofNat_of_zero_le (show 0 ≤ a by omega)
      obtain ⟨y, rfl⟩ := Int.eq_ofNat_of_zero_le f2.1
      have := DlQ.run_eq x y l m sd s (by omega) (by omega) (by omega) f3 f4 f5 (by omega) hsd s.size 0 [] (Nat.zero_le _) (by omega) (fun h => absurd rfl h)
      rw [extract_whole] at this
      unfold delta
      rw [Int.toNat_natCast, Int.toNat_natCast]
      exact this
theorem u32 {a : Int} (ha : (Lit.int .u32 a).wf = true) : 0 ≤ a ∧ a < 4294967296 := by
  simp [Lit.wf, IntKind.min, IntKind.max, IntKind.signed, IntKind.bits] at ha; omega
theorem walk {P : Prop} {H : Type} {enc : TypeId × Value → H} (W : World) (hL : laidMetH Tryd.prog Rows.fnExactDeltaOfRow.laid W) (_ : P) (cs : Array Value) {fuel : Nat} {x : DataW H × List MemPlace} (f : DataW.trod enc Tryd.prog W 0 (fun _ => true) true fuel 45 cs.toList = some x) (sd : Int) (hsd : (Lit.int .u32 sd).wf = true) (s : ByteArray) (hs : s.size ≤ 140737488351232) :
    Calls Tryd.prog 10 #[.agg cs, .int .u32 sd, .string s] W fun e w' => e = .returned (.bool true) ∧ Below W.heap.size W w' := by
  obtain ⟨⟨a, b, l, m⟩, hK, _, _, hl, hm, hw⟩ := OpensW.op_sig W _ _ _ _ _ f
  obtain ⟨A, c, B, d, hc, g1, g2, g3, g4⟩ := OpensW.kSig_open hK
  obtain rfl : cs = #[.int .i64 a, .int .i64 b, .slice A l.length c, .slice B m.length d] := by
    obtain ⟨q⟩ := cs
    simp at hc ⊢
    exact hc
  have hl' : l.length ≤ 9223372036854775807 := by unfold maxLen at hl; exact hl
  have hm' : m.length ≤ 9223372036854775807 := by unfold maxLen at hm; exact hm
  by_cases hz : (s.size : Int) > 1048576
  · exact law_DeltaOf.big a b A c l B d m sd s W hz
  obtain ⟨t, ⟨k0, ht⟩, h⟩ := sz_ev a b l m hl' hm'
  by_cases h0 : t < 0
  · exact law_DeltaOf.neg k0 a b A c l B d m sd s t W g1 g2 g3 g4 hz h0 (ht k0 (Nat.le_refl _))
  have h1 : l.length ≤ 2097152 := by omega
  have h2 : m.length ≤ 2097152 := by omega
  have hn := len a b l m sd s
  obtain ⟨R, hR⟩ : ∃ R, R = deltaOf a b l m sd s := ⟨_, rfl⟩
  have hS := spec_ev a b l m sd s h2 (u32 hsd)
  have hI := impl_ev a b l m sd s h2 (u32 hsd) (fun y hy => u32 (hw y hy))
  rw [← hR] at hS hI hn
  clear hR
  obtain ⟨k1, hS⟩ := hS
  obtain ⟨k2, hI⟩ := hI
  obtain ⟨k3, hE⟩ := MarkTok.eq_evT R (by omega)
  obtain ⟨k4, hH⟩ := MarkTok.held_evT R.length (by omega)
  obtain ⟨k5, hM⟩ := MarkTok.mark_evT R (by omega)
  obtain ⟨q, ⟨y2, y3⟩, ⟨k6, hq⟩, hq0⟩ := MarkSig.sig a b l m h1 h2
  obtain ⟨k7, hto⟩ := to_ev a b l m h1 h2
  obtain ⟨k8, hQ⟩ := eq_ev a b l m h1 h2
  exact law_DeltaOf.calls (k0 + k1 + k2 + k3 + k4 + k5 + k6 + k7 + k8) a b A c l B d m sd s t q ((4 * R.length + 1 : Nat) : Int) R (MarkTok.mkT R.length) y2 y3 W (Tab.of_laid hL) g1 g2 g3 g4 hz h0 (by omega) (by omega)
    (ht _ (by omega)) (hto _ (by omega)) (hS _ (by omega)) (hI _ (by omega)) (hE _ (by omega)) (hQ _ (by omega)) (hq _ (by omega)) (hM _ (by omega)) (hH _ (by omega))
end Go.Proofs.YtbkodnhnadkhdaaDoor.DlL
