/- The program's HexBytes and the reference's give the same bytes for every text, and the answer is the caller's own. No condition. -/
import Derived.Test.YtdjggipdjoopaaaPMwx1
import Derived.Test.YtdjggipdjoopaaaPMwx5
import Derived.Test.YtdjggipdjoopaaaPMwx6
import Derived.Test.YtdjggipdjoopaaaPMwx7
import Derived.Test.YtdjggipdjoopaaaPMwx8
import Derived.Test.YtdjggipdjoopaaaPMwx9
import Derived.Test.YtdjggipdjoopaaaMarkW
import Derived.Test.YtdjggipdjoopaaaVarTextW
namespace Go.Proofs.Ytdjggipdjoopaaa.Pure
open Go Go.RowKit Go.Proofs.Ytdjggipdjoopaaa.PMw Go.Proofs.YtdjggipdjoopaaaW.PrintWords Go.Proofs.YtdjggipdjoopaaaW.PrintMore Go.Proofs.Ytdjggipdjoopaaa.Arith Go.Proofs.Ytdjggipdjoopaaa.Lib Go.Proofs.Ytdjggipdjoopaaa.Var Go.Proofs.Ytdjggipdjoopaaa.VarText
set_option linter.unusedSimpArgs false
set_option linter.unusedVariables false

def digits : ByteArray := ⟨#[48, 49, 50, 51, 52, 53, 54, 55, 56, 57, 97, 98, 99, 100, 101, 102]⟩
theorem dig_all : ∀ n : Fin 256, spec_l01Digit.f (n.val : Int) = strings_IndexByte.f digits (n.val : Int) := of_decide_eq_true (by kernel_rfl)
theorem dig_eq (s : ByteArray) (i : Int) : spec_l01Digit.f (bt s i) = strings_IndexByte.f digits (bt s i) := by
  have hr := bt_range s i
  have := dig_all ⟨(bt s i).toNat, by omega⟩
  rwa [show (((⟨(bt s i).toNat, by omega⟩ : Fin 256).val : Nat) : Int) = bt s i from by simp; omega] at this
theorem both_loop (s : ByteArray) (hs : s.size ≤ 40000) (d : Nat) : ∀ (i : Nat) (acc : List Int), i + 2 * d = s.size → acc.length ≤ i → Bytes acc → ∃ l b, Ev (fun k => spec_HexBytes.l0 k s acc i) (l, b) ∧ Ev (fun k => impl_readHex.l0 k s acc i) (strOfNums l, b) ∧ Bytes l ∧ l.length ≤ s.size := by
  induction d with
  | zero =>
    intro i acc h ha hb
    refine ⟨acc, true, ev_at fun k => ?_, ev_at fun k => ?_, hb, by omega⟩
    · simp only [spec_HexBytes.l0]
      rw [if_neg (by omega)]
    · simp only [impl_readHex.l0]
      rw [if_neg (by omega)]
  | succ d ih =>
    intro i acc h ha hb
    obtain ⟨x, hx⟩ : ∃ x, strings_IndexByte.f digits (bt s i) = some x := ⟨_, rfl⟩
    obtain ⟨y, hy⟩ : ∃ y, strings_IndexByte.f digits (bt s ((i + 1 : Nat) : Int)) = some y := ⟨_, rfl⟩
    have e1 : spec_l01Digit.f (bt s i) = some x := by rw [dig_eq, hx]
    have e2 : spec_l01Digit.f (bt s ((i + 1 : Nat) : Int)) = some y := by rw [dig_eq, hy]
    have w2 : wrap64 ((i : Int) + 2) = ((i + 2 : Nat) : Int) := by rw [w64 (by omega) (by omega)]; omega
    have hS : ∀ k, spec_HexBytes.l0 (k + 1) s acc i = if x < 0 then some ([], false) else if y < 0 then some ([], false) else spec_HexBytes.l0 k s (acc ++ [(wrap64 ((wrap64 (16 * x)) + y)) % 256]) ((i + 2 : Nat) : Int) := by
      intro k
      simp only [spec_HexBytes.l0]
      rw [if_pos (by omega), if_pos (by omega), w64s i (by omega), e1, Option.bind_some, if_pos (by omega), if_pos (by omega), e2, Option.bind_some, if_pos (show acc.length < 140737488355328 by omega), w2]
    have hI : ∀ k, impl_readHex.l0 (k + 1) s acc i = if x < 0 then some (strOfNums [], false) else if y < 0 then some (strOfNums [], false) else impl_readHex.l0 k s (acc ++ [(wrap64 ((wrap64 (16 * x)) + y)) % 256]) ((i + 2 : Nat) : Int) := by
      intro k
      simp only [impl_readHex.l0]
      rw [if_pos (by omega), if_pos (by omega), w64s i (by omega)]
      rw [show strings_IndexByte.f (⟨#[48, 49, 50, 51, 52, 53, 54, 55, 56, 57, 97, 98, 99, 100, 101, 102]⟩ : ByteArray) (bt s i) = some x from hx, Option.bind_some, if_pos (by omega), if_pos (by omega)]
      rw [show strings_IndexByte.f (⟨#[48, 49, 50, 51, 52, 53, 54, 55, 56, 57, 97, 98, 99, 100, 101, 102]⟩ : ByteArray) (bt s ((i + 1 : Nat) : Int)) = some y from hy, Option.bind_some, if_pos (show acc.length < 140737488355328 by omega), w2]
      rfl
    by_cases hx0 : x < 0
    · exact ⟨[], false, ev_at fun k => by rw [hS, if_pos hx0], ev_at fun k => by rw [hI, if_pos hx0], fun z hz => by simp at hz, by simp⟩
    by_cases hy0 : y < 0
    · exact ⟨[], false, ev_at fun k => by rw [hS, if_neg hx0, if_pos hy0], ev_at fun k => by rw [hI, if_neg hx0, if_pos hy0], fun z hz => by simp at hz, by simp⟩
    obtain ⟨l, b, h1, h2, h3, h4⟩ := ih (i + 2) (acc ++ [(wrap64 ((wrap64 (16 * x)) + y)) % 256]) (by omega) (by simp; omega) (bytes_app hb (fun z hz => by rw [List.mem_singleton.1 hz]; omega))
    exact ⟨l, b, Ev.step (fun k => by rw [hS, if_neg hx0, if_neg hy0]) h1, Ev.step (fun k => by rw [hI, if_neg hx0, if_neg hy0]) h2, h3, h4⟩
theorem both (s : ByteArray) (hs : s.size ≤ 1048576) : ∃ l b, Ev (fun k => spec_HexBytes.f k s) (l, b) ∧ Ev (fun k => impl_HexBytes.f k s) (l, b) ∧ l.length ≤ 1048576 := by
  have hfin : ∀ (l : List Int) (b : Bool), Bytes l → l.length ≤ 1048576 → Ev (fun k => impl_readHex.f k s) (strOfNums l, b) → Ev (fun k => impl_HexBytes.f k s) (l, b) := by
    intro l b hb hl h
    unfold impl_HexBytes.f
    refine Ev.bind h ?_
    simp only [conv_of hb (by omega), Option.bind_some]
    exact Ev.now _
  have hbad : Ev (fun k => spec_HexBytes.j0 k s [] true) ([], false) := ev_at fun k => by simp [spec_HexBytes.j0]
  have hbad' : Ev (fun k => impl_readHex.j0 k s true) (strOfNums [], false) := ev_at fun k => by simp [impl_readHex.j0]; rfl
  have hn : Bytes [] := fun z hz => by simp at hz
  by_cases h2 : ((s.size : Int) % 2) = 0
  · by_cases h3 : (s.size : Int) > 40000
    · refine ⟨[], false, ?_, hfin [] false hn (by simp) ?_, by simp⟩
      · unfold spec_HexBytes.f; simp only [Option.bind_some, if_pos h2, decide_eq_true h3]; exact hbad
      · unfold impl_readHex.f; simp only [if_pos h2, decide_eq_true h3]; exact hbad'
    · obtain ⟨l, b, h4, h5, h6, h7⟩ := both_loop s (by omega) (s.size / 2) 0 [] (by omega) (by simp) hn
      have hw : wrap64 ((s.size : Int) / 2) = (s.size : Int) / 2 := w64 (by omega) (by omega)
      refine ⟨l, b, ?_, hfin l b h6 (by omega) ?_, by omega⟩
      · unfold spec_HexBytes.f
        simp only [Option.bind_some, if_pos h2, decide_eq_false h3]
        exact Ev.step (fun k => by simp only [spec_HexBytes.j0, Bool.false_eq_true, if_false]; rfl) h4
      · unfold impl_readHex.f
        simp only [if_pos h2, decide_eq_false h3]
        refine Ev.step (fun k => ?_) h5
        simp only [impl_readHex.j0, Bool.false_eq_true, if_false, hw]
        rw [if_pos (by omega), if_pos (by omega)]
        rfl
  · refine ⟨[], false, ?_, hfin [] false hn (by simp) ?_, by simp⟩
    · unfold spec_HexBytes.f; simp only [Option.bind_some, if_neg h2]; exact hbad
    · unfold impl_readHex.f; simp only [if_neg h2]; exact hbad'
theorem FnExactHexBytes : laws_FnExactHexBytes.Pure := by
  intro s _
  apply Ev.rounds
  unfold laws_FnExactHexBytes.f
  by_cases h : (s.size : Int) > 1048576
  · simp only [if_pos h]; exact Ev.now _
  simp only [if_neg h]
  obtain ⟨l, b, h1, h2, hl⟩ := both s (by omega)
  refine Ev.bind h1 (Ev.bind h2 (Ev.bind (Mark.eq_evByteS l (by omega)) ?_))
  simp only [if_true, bne_self_eq_false]
  have hneg : ¬ ((l.length + 1 : Nat) : Int) < 0 := by omega
  refine Ev.step (f := fun k => (laws_markByteS.f k l 1).bind fun bt203 => ((laws_heldByteS.f k bt203.2 1).bind fun t205 => (if t205 < 0 then (some false) else (if t205 = bt203.1 then ((impl_HexBytes.f k s).bind fun bt206 => ((laws_eqByteS.f k bt206.1 l).bind fun t210 => (if t210 = true then (laws_FnExactHexBytes.j1 k bt203.2 bt203.1 (bt206.2 != b)) else (laws_FnExactHexBytes.j1 k bt203.2 bt203.1 true)))) else (some false))))) (fun k => by simp only [laws_FnExactHexBytes.j0, Bool.false_eq_true, if_false]) ?_
  refine Ev.bind (Mark.mark_evByteS _ (by omega)) (Ev.bind (Mark.held_evByteS _ (by omega)) ?_)
  simp only [if_neg hneg, if_true]
  refine Ev.bind h2 (Ev.bind (Mark.eq_evByteS l (by omega)) ?_)
  simp only [if_true, bne_self_eq_false]
  refine Ev.step (f := fun k => (laws_heldByteS.f k (Mark.mk 256 l.length) 1).bind fun t => if t < 0 then some false else if t = ((l.length + 1 : Nat) : Int) then some true else some false) (fun k => by simp only [laws_FnExactHexBytes.j1, Bool.false_eq_true, if_false]) ?_
  refine Ev.bind (Mark.held_evByteS _ (by omega)) ?_
  simp only [if_neg hneg, if_true]
  exact Ev.now _

end Go.Proofs.Ytdjggipdjoopaaa.Pure
