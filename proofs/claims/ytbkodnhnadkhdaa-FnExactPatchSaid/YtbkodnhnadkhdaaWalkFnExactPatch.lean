/- The law on Patch returns true at every old text, size and list of tokens: its plain statement, and its walk. No condition. -/
import Derived.Test.YtbkodnhnadkhdaaPCmx0
import Derived.Test.YtbkodnhnadkhdaaPCmx1
import Derived.Test.YtbkodnhnadkhdaaPCmx3
import Derived.Test.YtbkodnhnadkhdaaPCmx13
import Derived.Test.YtbkodnhnadkhdaaPCmx14
import Derived.Test.YtbkodnhnadkhdaaPCmx16
import Derived.Test.YtbkodnhnadkhdaaPCmx18
import Derived.Test.YtbkodnhnadkhdaaPCmx19
import Derived.Test.YtbkodnhnadkhdaaOpRecM
import Derived.Test.YtbkodnhnadkhdaaPatchM
namespace Go.Proofs.Ytbkodnhnadkhdaa.WalkFnExactPatch
open Go Go.RowKit Go.Proofs.Ytbkodnhnadkhdaa.PCm Go.Proofs.YtbkodnhnadkhdaaW.PrintWords Go.Proofs.YtbkodnhnadkhdaaW.PrintMore Go.Proofs.Ytbkodnhnadkhdaa.Arith Go.Proofs.Ytbkodnhnadkhdaa.Lib Go.Proofs.Ytbkodnhnadkhdaa.Rec Go.Proofs.Ytbkodnhnadkhdaa.Patch
set_option linter.unusedSimpArgs false
set_option linter.unusedVariables false

theorem in_ (x y z : Int) : spec_l01In.f x y z = some (decide (y ≤ x ∧ x ≤ z)) := by
  unfold spec_l01In.f
  by_cases h : y ≤ x <;> simp [h]
theorem within_ (x y z : Int) : impl_within.f x y z = some (decide (y ≤ x ∧ x ≤ z)) := by
  unfold impl_within.f
  by_cases h : y ≤ x <;> simp [h]
def val (s : ByteArray) (a : Int) (l : List S67) : ByteArray × Bool :=
  if 1 ≤ a ∧ a ≤ 256 then (if (s.size : Int) > 20000 then ((⟨#[]⟩ : ByteArray), false) else if (l.length : Int) > 20000 then ((⟨#[]⟩ : ByteArray), false) else run s a.toNat (cut a.toNat s.size s).length [] l) else ((⟨#[]⟩ : ByteArray), false)
theorem spec_ev (s : ByteArray) (a : Int) (l : List S67) : Ev (fun k => spec_Patch.f k s a l) (val s a l) := by
  have hbad : Ev (fun k => spec_Patch.j0 k s a l true) ((⟨#[]⟩ : ByteArray), false) := ev_at fun k => by simp [spec_Patch.j0]
  unfold spec_Patch.f val
  simp only [in_, Option.bind_some]
  by_cases h : 1 ≤ a ∧ a ≤ 256
  · simp only [decide_eq_true h, if_true, if_pos h]
    by_cases h1 : (s.size : Int) > 20000
    · simp only [if_pos h1]; exact hbad
    · simp only [if_neg h1]
      by_cases h2 : (l.length : Int) > 20000
      · simp only [decide_eq_true h2, if_pos h2]; exact hbad
      · simp only [decide_eq_false h2, if_neg h2]
        obtain ⟨n, rfl⟩ := Int.eq_ofNat_of_zero_le (show 0 ≤ a by omega)
        rw [Int.toNat_natCast]
        refine Ev.step (f := fun k => (spec_l05Blocks.f k s n).bind fun t => spec_Patch.l0 k l t [] 0) (fun k => by simp only [spec_Patch.j0, Bool.false_eq_true, if_false]) ?_
        refine Ev.bind (blocks_ev n (by omega) s (by omega)) ?_
        have := spec_loop s n (by omega) (by omega) (by omega) l (by omega) l.length 0 [] (by omega) (by simp)
        rw [List.drop_zero] at this
        exact this
  · simp only [decide_eq_false h, if_neg h, Bool.false_eq_true, if_false]; exact hbad
theorem impl_ev (s : ByteArray) (a : Int) (l : List S67) : Ev (fun k => impl_Patch.f k s a l) (val s a l) := by
  have hbad : Ev (fun k => impl_Patch.j0 k s a l true) ((⟨#[]⟩ : ByteArray), false) := ev_at fun k => by simp [impl_Patch.j0]
  unfold impl_Patch.f val
  simp only [within_, Option.bind_some]
  by_cases h : 1 ≤ a ∧ a ≤ 256
  · simp only [decide_eq_true h, if_true, if_pos h]
    by_cases h1 : (s.size : Int) > 20000
    · simp only [if_pos h1]; exact hbad
    · simp only [if_neg h1]
      by_cases h2 : (l.length : Int) > 20000
      · simp only [decide_eq_true h2, if_pos h2]; exact hbad
      · simp only [decide_eq_false h2, if_neg h2]
        obtain ⟨n, rfl⟩ := Int.eq_ofNat_of_zero_le (show 0 ≤ a by omega)
        rw [Int.toNat_natCast]
        have hc := cut_len n (by omega) s.size s (Nat.le_refl _)
        have hd : wrap64 (Int.tdiv (wrap64 ((wrap64 ((s.size : Int) + (n : Int))) - 1)) (n : Int)) = ((cut n s.size s).length : Int) := by
          rw [w64 (x := (s.size : Int) + (n : Int)) (by omega) (by omega), w64 (x := (s.size : Int) + (n : Int) - 1) (by omega) (by omega), Int.tdiv_eq_ediv_of_nonneg (by omega), hc]
          have hle : (s.size + n - 1) / n ≤ s.size + n - 1 := Nat.div_le_self _ _
          rw [show (s.size : Int) + (n : Int) - 1 = ((s.size + n - 1 : Nat) : Int) by omega, ← Int.natCast_ediv, w64 (by omega) (by omega)]
        refine Ev.step (f := fun k => impl_Patch.l0 k s n ((cut n s.size s).length : Int) [] l (l.length : Int) 0) (fun k => ?_) ?_
        · simp only [impl_Patch.j0, Bool.false_eq_true, if_false]
          rw [if_neg (by omega), hd]
        · have := impl_loop s n (by omega) (by omega) (by omega) l (by omega) l.length 0 [] (by omega) (by simp)
          rw [List.drop_zero] at this
          exact this
  · simp only [decide_eq_false h, if_neg h, Bool.false_eq_true, if_false]; exact hbad
theorem pure_ (s : ByteArray) (a : Int) (l : List S71) (hl : l.length ≤ 9223372036854775807) : Ev (fun k => laws_FnExactPatch.f k s a l) true := by
  unfold laws_FnExactPatch.f
  by_cases hs : (s.size : Int) > 1048576
  · simp only [if_pos hs]; exact Ev.now _
  simp only [if_neg hs]
  obtain ⟨t, ht, h⟩ := sz_ev l hl
  refine Ev.bind ht ?_
  by_cases h0 : t < 0
  · simp only [if_pos h0]; exact Ev.now _
  simp only [if_neg h0]
  have h1 : l.length ≤ 2097152 := by omega
  have h2 : (toks l).length ≤ 2097152 := by rw [toks_length]; exact h1
  refine Ev.bind (to_ev l h1) (Ev.bind (spec_ev s a _) (Ev.bind (to_ev l h1) (Ev.bind (impl_ev s a _) ?_)))
  simp only [if_true, bne_self_eq_false]
  refine Ev.step (f := fun k => (laws_toTokenS.f k l).bind fun t301 => ((laws_eqTokenS.f k (toks l) t301).bind fun t304 => (if t304 = true then (some true) else (some false)))) (fun k => by simp only [laws_FnExactPatch.j0, Bool.false_eq_true, if_false]) ?_
  refine Ev.bind (to_ev l h1) (Ev.bind (eq_ev _ h2) ?_)
  simp only [if_true]
  exact Ev.now _
theorem walk {H : Type} {enc : TypeId × Value → H} (W : World) (s : ByteArray) (hs : s.size ≤ 140737488351232) (a : Int) (ha : (Lit.int .i64 a).wf = true) (ad : Option Addr) (len cap : Nat) {fuel : Nat} {x : DataW H × List MemPlace} (f : DataW.trod enc Try.prog W 0 (fun _ => true) true fuel 36 [.slice ad len cap] = some x) :
    Calls Try.prog 8 #[.string s, .int .i64 a, .slice ad len cap] W fun e w' => e = .returned (.bool true) ∧ Below W.heap.size W w' := by
  obtain ⟨l, ⟨A, c, hc, hl, hr⟩, hm, _⟩ := Opens.op_toks W _ _ _ _ _ f
  obtain ⟨rfl, rfl, rfl⟩ : ad = A ∧ len = l.length ∧ cap = c := by simpa using hc
  obtain ⟨k, hk⟩ := pure_ s a l (by unfold maxLen at hm; omega)
  exact laws_FnExactPatch.calls k s a ad cap l true W hr hl (hk k (Nat.le_refl k))

end Go.Proofs.Ytbkodnhnadkhdaa.WalkFnExactPatch
