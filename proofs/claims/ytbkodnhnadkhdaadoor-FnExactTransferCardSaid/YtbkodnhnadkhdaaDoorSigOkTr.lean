/- What SigOk gives, in the program and in the reference. Condition: at most 2^21 texts. -/
import Derived.Test.YtbkodnhnadkhdaaDoorPTrx9
import Derived.Test.YtbkodnhnadkhdaaDoorRecSigTr
namespace Go.Proofs.YtbkodnhnadkhdaaDoor.SigOk
open Go Go.RowKit Go.Proofs.YtbkodnhnadkhdaaDoor.PTr Go.Proofs.YtbkodnhnadkhdaaDoorW.PrintWords Go.Proofs.YtbkodnhnadkhdaaDoorW.PrintMore Go.Proofs.YtbkodnhnadkhdaaDoor.Arith Go.Proofs.YtbkodnhnadkhdaaDoor.Lib Go.Proofs.YtbkodnhnadkhdaaDoor.RecSig
set_option linter.unusedSimpArgs false
set_option linter.unusedVariables false

def four (s : ByteArray) : Bool := decide ((s.size : Int) = 4)
theorem all_step (l : List ByteArray) (i : Nat) (h : i < l.length) : (l.drop i).all four = (four l[i] && (l.drop (i + 1)).all four) := by
 rw [List.drop_eq_getElem_cons h]; rfl
/-- A signature that can be one. -/
def sigOk (a b : Int) (l : List Int) (m : List ByteArray) : Bool := isCut a b l.length && decide (l.length = m.length) && m.all four && decide (b = 0 ∨ 0 < l.length) && decide (slen a b l.length ≤ 20000)
theorem spec_loop (a b : Int) (l : List Int) (m : List ByteArray) (hm : m.length ≤ 2097152) (d : Nat) : ∀ (i : Nat), i + d = m.length → Ev (fun k => spec_SigOk.l0 k i a b l m) ((m.drop i).all four && decide (b = 0 ∨ 0 < l.length) && decide (slen a b l.length ≤ 20000)) := by
 induction d with
 | zero =>
  intro i h
  rw [List.drop_eq_nil_of_le (by omega), List.all_nil, Bool.true_and]
  by_cases hb : b = 0
  ·
   rw [decide_eq_true (show b = 0 ∨ 0 < l.length from Or.inl hb), Bool.true_and]
   refine Ev.step (f := fun k => (spec_SigLen.f k a b l m).bind fun t => some (decide (t ≤ 20000))) (fun k => ?_) (Ev.bind (spec_len a b l m) (Ev.now _))
   simp only [spec_SigOk.l0]
   rw [if_neg (by omega), if_pos hb]
  ·
   by_cases h0 : (l.length : Int) > 0
   ·
    rw [decide_eq_true (show b = 0 ∨ 0 < l.length from Or.inr (by omega)), Bool.true_and]
    refine Ev.step (f := fun k => (spec_SigLen.f k a b l m).bind fun t => some (decide (t ≤ 20000))) (fun k => ?_) (Ev.bind (spec_len a b l m) (Ev.now _))
    simp only [spec_SigOk.l0]
    rw [if_neg (by omega), if_neg hb, if_pos h0]
   ·
    rw [decide_eq_false (show ¬ (b = 0 ∨ 0 < l.length) by omega), Bool.false_and]
    refine ev_at fun k => ?_
    simp only [spec_SigOk.l0]
    rw [if_neg (by omega), if_neg hb, if_neg h0]
 | succ d ih =>
  intro i h
  have hi : i < m.length := by omega
  rw [all_step m i hi]
  by_cases h4 : ((m[i]).size : Int) = 4
  ·
   rw [show four m[i] = true from decide_eq_true h4, Bool.true_and]
   refine Ev.step (fun k => ?_) (ih (i + 1) (by omega))
   simp only [spec_SigOk.l0]
   rw [if_pos (by omega), if_pos (by omega), rdS m i hi, if_pos h4, w64s i (by omega)]
  ·
   rw [show four m[i] = false from decide_eq_false h4]
   simp only [Bool.false_and]
   refine ev_at fun k => ?_
   simp only [spec_SigOk.l0]
   rw [if_pos (by omega), if_pos (by omega), rdS m i hi, if_neg h4]
theorem spec_j (a b : Int) (l : List Int) (m : List ByteArray) : Ev (fun k => spec_SigOk.j0 k true a b l m) false := ev_at fun k => by simp [spec_SigOk.j0]
theorem spec_ok (a b : Int) (l : List Int) (m : List ByteArray) (hm : m.length ≤ 2097152) : Ev (fun k => spec_SigOk.f k a b l m) (sigOk a b l m) := by
 unfold spec_SigOk.f
 simp only [in_, Option.bind_some]
 by_cases h : 1 ≤ a ∧ a ≤ 256
 ·
  simp only [h, and_self, decide_true, if_true, wa h.1 h.2]
  by_cases h1 : 0 ≤ b ∧ b ≤ a - 1
  ·
   simp only [h1, and_self, decide_true, if_true]
   by_cases h2 : (l.length : Int) > 2500
   ·
    have : sigOk a b l m = false := by
     have : isCut a b l.length = false := by unfold isCut; rw [decide_eq_false_iff_not]; omega
     unfold sigOk; rw [this]; rfl
    rw [this]
    simp only [if_pos h2]
    exact spec_j _ _ _ _
   ·
    have hc : isCut a b l.length = true := by unfold isCut; rw [decide_eq_true_iff]; omega
    simp only [if_neg h2]
    unfold sigOk
    rw [hc, Bool.true_and]
    by_cases h3 : l.length = m.length
    ·
     have h3' : ((l.length : Int) != (m.length : Int)) = false := by simp [h3]
     rw [h3', decide_eq_true h3, Bool.true_and]
     refine Ev.step (f := fun k => spec_SigOk.l0 k 0 a b l m) (fun k => by simp [spec_SigOk.j0]) ?_
     have := spec_loop a b l m hm m.length 0 (by omega)
     rw [List.drop_zero] at this
     exact this
    ·
     have h3' : ((l.length : Int) != (m.length : Int)) = true := by simp; omega
     rw [h3', decide_eq_false h3]
     simp only [Bool.false_and]
     exact spec_j _ _ _ _
  ·
   have : sigOk a b l m = false := by
    have : isCut a b l.length = false := by unfold isCut; rw [decide_eq_false_iff_not]; omega
    unfold sigOk; rw [this]; rfl
   rw [this]
   simp only [h1, decide_false, Bool.false_eq_true, if_false]
   exact spec_j _ _ _ _
 ·
  have : sigOk a b l m = false := by
   have : isCut a b l.length = false := by unfold isCut; rw [decide_eq_false_iff_not]; omega
   unfold sigOk; rw [this]; rfl
  rw [this]
  simp only [h, decide_false, Bool.false_eq_true, if_false]
  exact spec_j _ _ _ _

end Go.Proofs.YtbkodnhnadkhdaaDoor.SigOk
