/- Tokens as bytes, in the program and in the reference. Condition: at most 2^21 tokens. -/
import Derived.Test.YtbkodnhnadkhdaaPTkx0
import Derived.Test.YtbkodnhnadkhdaaPTkx4
import Derived.Test.YtbkodnhnadkhdaaPTkx5
import Derived.Test.YtbkodnhnadkhdaaPTkx6
import Derived.Test.YtbkodnhnadkhdaaPTkx8
import Derived.Test.YtbkodnhnadkhdaaPTkx9
import Derived.Test.YtbkodnhnadkhdaaPTkx10
import Derived.Test.YtbkodnhnadkhdaaRecTk
import Derived.Test.YtbkodnhnadkhdaaVarTextTk
namespace Go.Proofs.Ytbkodnhnadkhdaa.Tokens
open Go Go.RowKit Go.Proofs.Ytbkodnhnadkhdaa.PTk Go.Proofs.YtbkodnhnadkhdaaW.PrintWords Go.Proofs.YtbkodnhnadkhdaaW.PrintMore Go.Proofs.Ytbkodnhnadkhdaa.Arith Go.Proofs.Ytbkodnhnadkhdaa.Lib Go.Proofs.Ytbkodnhnadkhdaa.Rec Go.Proofs.Ytbkodnhnadkhdaa.Var Go.Proofs.Ytbkodnhnadkhdaa.VarText
set_option linter.unusedSimpArgs false
set_option linter.unusedVariables false

theorem ok_facts {x : S67} (h : ok x = true) : (x.f0 = 0 ∧ 1 ≤ x.f1.size ∧ x.f1.size ≤ 100 ∧ x.f2 = 0 ∧ x.f3 = 0) ∨ (x.f0 = 1 ∧ x.f1.size = 0 ∧ 0 ≤ x.f2 ∧ 1 ≤ x.f3) := by
  have ht := tok_ok x
  rw [h] at ht
  unfold impl_TokenOk.f impl_within.f at ht
  by_cases h0 : x.f0 = 0
  · left
    rw [if_pos h0] at ht
    by_cases h1 : (x.f1.size : Int) ≥ 1
    · rw [if_pos h1] at ht
      by_cases h2 : (x.f1.size : Int) ≤ 100
      · by_cases h3 : x.f2 = 0
        · simp [h2, h3] at ht; omega
        · simp [h2, h3] at ht
      · simp [h2] at ht
    · rw [if_neg h1] at ht; simp at ht
  · right
    rw [if_neg h0] at ht
    by_cases h1 : x.f0 = 1
    · rw [if_pos h1] at ht
      by_cases h2 : x.f1.toList = ([] : List UInt8)
      · have h3 := (toList_nil x.f1).1 h2
        rw [if_pos h2] at ht
        by_cases h4 : x.f2 ≥ 0
        · simp [h4] at ht; omega
        · simp [h4] at ht
      · simp [h2] at ht
    · simp [h1] at ht
/-- What one token adds. -/
def okT (x : S67) : Bool := ok x && (!decide (x.f2 > 1000000) && !decide (x.f3 > 1000000))
def tb (x : S67) : List Int := if x.f0 = 0 then pv 8 (2 * (x.f1.size : Int)) ++ bytesOf x.f1 else pv 8 (2 * x.f3 + 1) ++ pv 8 x.f2
theorem okT_facts {x : S67} (h : okT x = true) : (x.f0 = 0 ∧ x.f1.size ≤ 100) ∨ (x.f0 = 1 ∧ 0 ≤ x.f2 ∧ x.f2 ≤ 1000000 ∧ 1 ≤ x.f3 ∧ x.f3 ≤ 1000000) := by
  unfold okT at h
  simp only [Bool.and_eq_true, Bool.not_eq_true', decide_eq_false_iff_not] at h
  rcases ok_facts h.1 with h1 | h1
  · exact .inl ⟨h1.1, h1.2.2.1⟩
  · exact .inr ⟨h1.1, h1.2.2.1, by omega, h1.2.2.2, by omega⟩
theorem pv_two {x : Int} (h : x < 16384) : (pv 8 x).length ≤ 2 := by
  by_cases h1 : x < 128
  · rw [pv_small _ h1]; simp
  · rw [pv_big 7 h1, pv_small _ (by omega)]; simp
theorem tb_length {x : S67} (h : okT x = true) : (tb x).length ≤ 102 := by
  unfold tb
  rcases okT_facts h with h1 | h1
  · have := pv_two (x := 2 * (x.f1.size : Int)) (by omega)
    rw [if_pos h1.1, List.length_append, bytesOf_length]; omega
  · have := pv_length 8 (2 * x.f3 + 1)
    have := pv_length 8 x.f2
    rw [if_neg (by omega), List.length_append]; omega
theorem tb_bytes {x : S67} (h : okT x = true) : Bytes (tb x) := by
  unfold tb
  rcases okT_facts h with h1 | h1
  · rw [if_pos h1.1]
    exact bytes_app (pv8_bytes _ (by omega) (by omega)) (bytesOf_bytes _)
  · rw [if_neg (by omega)]
    exact bytes_app (pv8_bytes _ (by omega) (by omega)) (pv8_bytes _ (by omega) (by omega))
def all (l : List S67) : List Int := (l.map tb).flatten
theorem all_step (l : List S67) (i : Nat) (h : i < l.length) : all (l.drop i) = tb l[i] ++ all (l.drop (i + 1)) := by
  unfold all
  rw [List.drop_eq_getElem_cons h, List.map_cons, List.flatten_cons]
theorem okT_step (l : List S67) (i : Nat) (h : i < l.length) : (l.drop i).all okT = (okT l[i] && (l.drop (i + 1)).all okT) := by
  rw [List.drop_eq_getElem_cons h]; rfl
theorem all_bytes : ∀ l : List S67, l.all okT = true → Bytes (all l)
  | [], _ => fun x hx => by simp [all] at hx
  | a :: l, h => by
    simp only [List.all_cons, Bool.and_eq_true] at h
    have : all (a :: l) = tb a ++ all l := by simp [all]
    rw [this]
    exact bytes_app (tb_bytes h.1) (all_bytes l h.2)
theorem all_length : ∀ l : List S67, l.all okT = true → (all l).length ≤ 102 * l.length
  | [], _ => by simp [all]
  | a :: l, h => by
    simp only [List.all_cons, Bool.and_eq_true] at h
    have h1 := tb_length h.1
    have h2 := all_length l h.2
    have : all (a :: l) = tb a ++ all l := by simp [all]
    rw [this, List.length_append, List.length_cons]
    omega
def val (l : List S67) : List Int := if decide (l.length ≤ 20000) && l.all okT then all l ++ [0] else []
theorem val_len (l : List S67) : (val l).length ≤ 2040001 := by
  unfold val
  cases h : (decide (l.length ≤ 20000) && l.all okT) with
  | false => simp
  | true =>
    simp only [Bool.and_eq_true, decide_eq_true_eq] at h
    have := all_length l h.2
    simp only [if_true, List.length_append, List.length_cons, List.length_nil]
    omega
/-! ### the program -/
theorem lit_eq (x : S67) : impl_tokensText_1.f x.f0 x.f1 x.f2 x.f3 = some (!okT x) := by
  unfold impl_tokensText_1.f okT
  rw [tok_ok, Option.bind_some]
  cases ok x with
  | false => simp
  | true =>
    by_cases h3 : x.f3 > 1000000
    · simp [h3]
    · by_cases h2 : x.f2 > 1000000
      · simp [h2, h3]
      · simp [h2, h3]
theorem any_loop (l : List S67) (hl : l.length ≤ 2097152) (d : Nat) : ∀ (i : Nat), i + d = l.length → ∃ t, any_impl_tokensText_1.l0 (d + 1) l i = some t ∧ decide (t ≥ 0) = !(l.drop i).all okT := by
  induction d with
  | zero =>
    intro i h
    refine ⟨-1, ?_, ?_⟩
    · simp only [any_impl_tokensText_1.l0]
      rw [if_neg (by omega)]
    · rw [List.drop_eq_nil_of_le (by omega)]; rfl
  | succ d ih =>
    intro i h
    have hi : i < l.length := by omega
    rw [okT_step l i hi]
    have hr : any_impl_tokensText_1.l0 (d + 1 + 1) l i = if okT l[i] = false then some (i : Int) else any_impl_tokensText_1.l0 (d + 1) l ((i + 1 : Nat) : Int) := by
      rw [any_impl_tokensText_1.l0, if_pos (by omega), if_pos (by omega), rdT l i hi, lit_eq, w64s i (by omega)]
      cases okT l[i] <;> simp
    cases ho : okT l[i] with
    | false =>
      refine ⟨i, by rw [hr, ho]; rfl, ?_⟩
      simp
    | true =>
      obtain ⟨t, h1, h2⟩ := ih (i + 1) (by omega)
      refine ⟨t, by rw [hr, ho]; exact h1, ?_⟩
      rw [h2]; simp
theorem any_eq (l : List S67) (hl : l.length ≤ 2097152) : any_impl_tokensText_1.f l = some (!l.all okT) := by
  obtain ⟨t, h1, h2⟩ := any_loop l hl l.length 0 (by omega)
  unfold any_impl_tokensText_1.f
  rw [show ((0 : Nat) : Int) = 0 from rfl] at h1
  rw [h1, Option.bind_some, h2, List.drop_zero]
theorem tok_eq {x : S67} (h : okT x = true) : impl_tokensText.tok x = some (strOfNums (tb x)) := by
  unfold impl_tokensText.tok tb
  rcases okT_facts h with h1 | h1
  · have hp := pv_length 8 (2 * (x.f1.size : Int))
    rw [if_pos h1.1, if_pos h1.1, w64 (by omega) (by omega), text _ (by omega) (by omega), Option.bind_some, if_pos (by rw [strOfNums_size]; omega), strOfNums_append, strOfNums_bytesOf]
  · have hp := pv_length 8 (2 * x.f3 + 1)
    have hq := pv_length 8 x.f2
    rw [if_neg (by omega), if_neg (by omega), w64 (x := 2 * x.f3) (by omega) (by omega), w64 (by omega) (by omega), text _ (by omega) (by omega), Option.bind_some, text _ (by omega) (by omega), Option.bind_some, if_pos (by rw [strOfNums_size, strOfNums_size]; omega), strOfNums_append]
theorem impl_loop (l : List S67) (hl : l.length ≤ 20000) (hok : l.all okT = true) (d : Nat) : ∀ (i : Nat) (x : List Int), i + d = l.length → x.length ≤ 102 * i → impl_tokensText.l0 (d + 1) l i x = some (strOfNums ((x ++ all (l.drop i)) ++ [0])) := by
  induction d with
  | zero =>
    intro i x h hx
    simp only [impl_tokensText.l0]
    rw [if_neg (by omega), if_pos (by omega), List.drop_eq_nil_of_le (by omega)]
    simp [all]
  | succ d ih =>
    intro i x h hx
    have hi : i < l.length := by omega
    have ho : okT l[i] = true := List.all_eq_true.1 hok _ (List.getElem_mem hi)
    have ht := tb_length ho
    rw [all_step l i hi, impl_tokensText.l0, if_pos (by omega), if_pos (by omega), rdT l i hi, tok_eq ho, Option.bind_some, if_pos (by rw [strOfNums_size]; omega), bytesOf_strOfNums (tb_bytes ho), w64s i (by omega), ih (i + 1) (x ++ tb l[i]) (by omega) (by rw [List.length_append]; omega), List.append_assoc x]
theorem impl_text (l : List S67) (hl : l.length ≤ 2097152) : impl_tokensText.f l = some (strOfNums (val l), decide (l.length ≤ 20000) && l.all okT) := by
  unfold impl_tokensText.f val
  by_cases h : (l.length : Int) > 20000
  · rw [if_pos h, decide_eq_false (by omega)]
    rfl
  · rw [if_neg h, any_eq l hl, Option.bind_some, decide_eq_true (show l.length ≤ 20000 by omega), Bool.true_and]
    cases ho : l.all okT with
    | false => simp; rfl
    | true =>
      have := impl_loop l (by omega) ho l.length 0 [] (by omega) (by simp)
      rw [List.drop_zero, List.nil_append] at this
      rw [if_neg (by simp), show ((0 : Nat) : Int) = 0 from rfl] at *
      simp only [this, Option.bind_some, if_true]
theorem val_bytes (l : List S67) : Bytes (val l) := by
  unfold val
  cases h : (decide (l.length ≤ 20000) && l.all okT) with
  | false => intro x hx; simp at hx
  | true =>
    simp only [Bool.and_eq_true, decide_eq_true_eq] at h
    simp only [if_true]
    exact bytes_app (all_bytes l h.2) (fun x hx => by simp at hx; omega)
theorem impl_put (l : List S67) (hl : l.length ≤ 2097152) : impl_PutTokens.f l = some (val l) := by
  unfold impl_PutTokens.f
  have := val_len l
  rw [impl_text l hl, Option.bind_some, conv_of (val_bytes l) (by omega), Option.bind_some]
/-! ### the reference -/
set_option maxRecDepth 100000 in
theorem spec_loop (l : List S67) (hl : l.length ≤ 20000) (d : Nat) : ∀ (i : Nat) (x : List Int), i + d = l.length → x.length ≤ 102 * i → Ev (fun k => spec_PutTokens.l0 k l x i) (if (l.drop i).all okT then (x ++ all (l.drop i)) ++ [0] else []) := by
  induction d with
  | zero =>
    intro i x h hx
    rw [List.drop_eq_nil_of_le (by omega)]
    refine ev_at fun k => ?_
    simp only [spec_PutTokens.l0]
    rw [if_neg (by omega), if_pos (by omega)]
    simp [all]
  | succ d ih =>
    intro i x h hx
    have hi : i < l.length := by omega
    rw [okT_step l i hi, all_step l i hi]
    have h0 : ∀ k, spec_PutTokens.l0 (k + 1) l x i = spec_PutTokens.j1 k l x i (!okT l[i]) l[i].f0 l[i].f1 l[i].f2 l[i].f3 := by
      intro k
      simp only [spec_PutTokens.l0]
      rw [if_pos (by omega), if_pos (by omega), rdT l i hi, spec_tok, tok_ok, Option.bind_some]
      unfold okT
      cases ok l[i] with
      | false => simp
      | true =>
        by_cases h2 : l[i].f2 > 1000000
        · simp [h2]
        · by_cases h3 : l[i].f3 > 1000000
          · simp [h2, h3]
          · simp [h2, h3]
    cases ho : okT l[i] with
    | false =>
      simp only [Bool.false_and, Bool.false_eq_true, if_false]
      refine Ev.step (fun k => by rw [h0, ho]) (ev_at fun k => ?_)
      simp [spec_PutTokens.j1]
    | true =>
      simp only [Bool.true_and]
      have ht := tb_length ho
      have ih' := ih (i + 1) (x ++ tb l[i]) (by omega) (by rw [List.length_append]; omega)
      rw [List.append_assoc x] at ih'
      refine Ev.step (fun k => by rw [h0, ho]) ?_
      rcases okT_facts ho with h1 | h1
      · have hp := pv_length 8 (2 * (l[i].f1.size : Int))
        have e : tb l[i] = pv 8 (2 * (l[i].f1.size : Int)) ++ bytesOf l[i].f1 := by unfold tb; rw [if_pos h1.1]
        refine Ev.step (f := fun k => (spec_PutVar.f k (2 * (l[i].f1.size : Int))).bind fun t144 => (if x.length + t144.length < 140737488355328 then ((some (x ++ t144 : List Int)).bind fun y147 => ((conv.f l[i].f1).bind fun t150 => (if y147.length + t150.length < 140737488355328 then (spec_PutTokens.l0 k l (y147 ++ t150) ((i + 1 : Nat) : Int)) else (none)))) else (none))) (fun k => ?_) ?_
        · simp only [spec_PutTokens.j1]
          rw [if_neg (by simp), if_pos h1.1, w64 (by omega) (by omega), w64s i (by omega)]
        · refine Ev.bind (put_ev _ (by omega) (by omega)) ?_
          rw [show conv.f l[i].f1 = some (bytesOf l[i].f1) from by unfold conv.f; rw [if_pos (by omega)]]
          simp only [Option.bind_some, List.length_append, bytesOf_length, if_pos (show x.length + (pv 8 (2 * (l[i].f1.size : Int))).length < 140737488355328 by omega), if_pos (show x.length + (pv 8 (2 * (l[i].f1.size : Int))).length + l[i].f1.size < 140737488355328 by omega)]
          rw [List.append_assoc, ← e]
          exact ih'
      · have hp := pv_length 8 (2 * l[i].f3 + 1)
        have hq := pv_length 8 l[i].f2
        have e : tb l[i] = pv 8 (2 * l[i].f3 + 1) ++ pv 8 l[i].f2 := by unfold tb; rw [if_neg (by omega)]
        refine Ev.step (f := fun k => (spec_PutVar.f k (2 * l[i].f3 + 1)).bind fun t156 => (if x.length + t156.length < 140737488355328 then ((some (x ++ t156 : List Int)).bind fun y159 => ((spec_PutVar.f k l[i].f2).bind fun t162 => (if y159.length + t162.length < 140737488355328 then (spec_PutTokens.l0 k l (y159 ++ t162) ((i + 1 : Nat) : Int)) else (none)))) else (none))) (fun k => ?_) ?_
        · simp only [spec_PutTokens.j1]
          rw [if_neg (by simp), if_neg (by omega), w64 (x := 2 * l[i].f3) (by omega) (by omega), w64 (by omega) (by omega), w64s i (by omega)]
        · refine Ev.bind (put_ev _ (by omega) (by omega)) ?_
          simp only [Option.bind_some, if_pos (show x.length + (pv 8 (2 * l[i].f3 + 1)).length < 140737488355328 by omega)]
          refine Ev.bind (put_ev _ (by omega) (by omega)) ?_
          simp only [List.length_append, if_pos (show x.length + (pv 8 (2 * l[i].f3 + 1)).length + (pv 8 l[i].f2).length < 140737488355328 by omega)]
          rw [List.append_assoc, ← e]
          exact ih'
theorem spec_put (l : List S67) : Ev (fun k => spec_PutTokens.f k l) (val l) := by
  unfold spec_PutTokens.f val
  simp only [Option.bind_some]
  by_cases h : (l.length : Int) > 20000
  · simp only [if_pos h]
    rw [decide_eq_false (show ¬ l.length ≤ 20000 by omega), Bool.false_and]
    exact Ev.now _
  · simp only [if_neg h]
    rw [decide_eq_true (show l.length ≤ 20000 by omega), Bool.true_and]
    have := spec_loop l (by omega) l.length 0 [] (by omega) (by simp)
    rw [List.drop_zero, List.nil_append] at this
    exact this

end Go.Proofs.Ytbkodnhnadkhdaa.Tokens
