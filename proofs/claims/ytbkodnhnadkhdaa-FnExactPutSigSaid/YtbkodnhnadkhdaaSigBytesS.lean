/- The bytes of a signature, in the program and in the reference. Condition: the weak sums are words; the lengths. -/
import Derived.Test.YtbkodnhnadkhdaaPMsx7
import Derived.Test.YtbkodnhnadkhdaaPMsx12
import Derived.Test.YtbkodnhnadkhdaaPMsx13
import Derived.Test.YtbkodnhnadkhdaaSigOkS
import Derived.Test.YtbkodnhnadkhdaaWordS
import Derived.Test.YtbkodnhnadkhdaaVarTextS
namespace Go.Proofs.Ytbkodnhnadkhdaa.SigBytes
open Go Go.RowKit Go.Proofs.Ytbkodnhnadkhdaa.PMs Go.Proofs.YtbkodnhnadkhdaaW.PrintWords Go.Proofs.YtbkodnhnadkhdaaW.PrintMore Go.Proofs.Ytbkodnhnadkhdaa.Arith Go.Proofs.Ytbkodnhnadkhdaa.Lib Go.Proofs.Ytbkodnhnadkhdaa.Var Go.Proofs.Ytbkodnhnadkhdaa.VarText Go.Proofs.Ytbkodnhnadkhdaa.Word Go.Proofs.Ytbkodnhnadkhdaa.RecSig Go.Proofs.Ytbkodnhnadkhdaa.SigOk
set_option linter.unusedSimpArgs false
set_option linter.unusedVariables false

def body : List Int → List ByteArray → List Int
  | w :: l, s :: m => word w ++ (bytesOf s ++ body l m)
  | [], _ => []
  | _ :: _, [] => []
theorem body_step (l : List Int) (m : List ByteArray) (i : Nat) (h : i < l.length) (h' : i < m.length) : body (l.drop i) (m.drop i) = word l[i] ++ (bytesOf m[i] ++ body (l.drop (i + 1)) (m.drop (i + 1))) := by
  rw [List.drop_eq_getElem_cons h, List.drop_eq_getElem_cons h']; rfl
theorem body_bytes : ∀ (l : List Int) (m : List ByteArray), Bytes (body l m)
  | w :: l, s :: m => bytes_app (word_bytes w) (bytes_app (bytesOf_bytes s) (body_bytes l m))
  | [], _ => fun x hx => by simp [body] at hx
  | _ :: _, [] => fun x hx => by simp [body] at hx
theorem body_length : ∀ (l : List Int) (m : List ByteArray), m.all four = true → (body l m).length ≤ 8 * l.length
  | w :: l, s :: m, h => by
    simp only [List.all_cons, Bool.and_eq_true] at h
    have h4 : (s.size : Int) = 4 := of_decide_eq_true h.1
    have := body_length l m h.2
    simp only [body, List.length_append, word_length, bytesOf_length, List.length_cons]; omega
  | [], _, _ => by simp [body]
  | _ :: _, [], _ => by simp [body]
theorem four_at {m : List ByteArray} (h : m.all four = true) (i : Nat) (hi : i < m.length) : m[i].size = 4 := by
  have := List.all_eq_true.1 h m[i] (List.getElem_mem hi)
  have : (m[i].size : Int) = 4 := of_decide_eq_true this
  omega
theorem spec_loop (a b : Int) (l : List Int) (m : List ByteArray) (hl : l.length = m.length) (hn : l.length ≤ 2500) (h4 : m.all four = true) (hw : ∀ x ∈ l, 0 ≤ x ∧ x < 4294967296) (d : Nat) : ∀ (i : Nat) (acc : List Int), i + d = l.length → acc.length ≤ 100 + 8 * i → Ev (fun k => spec_PutSig.l0 k acc i a b l m) (acc ++ body (l.drop i) (m.drop i)) := by
  induction d with
  | zero =>
    intro i acc h ha
    refine ev_at fun k => ?_
    simp only [spec_PutSig.l0]
    rw [if_neg (by omega), List.drop_eq_nil_of_le (by omega)]
    simp [body]
  | succ d ih =>
    intro i acc h ha
    have hi : i < l.length := by omega
    have hi' : i < m.length := by omega
    have hs := four_at h4 i hi'
    have hx := hw l[i] (List.getElem_mem hi)
    rw [body_step l m i hi hi']
    have hL := ih (i + 1) ((acc ++ word l[i]) ++ bytesOf m[i]) (by omega) (by simp only [List.length_append, word_length, bytesOf_length]; omega)
    rw [List.append_assoc, List.append_assoc] at hL
    refine Ev.step (fun k => ?_) hL
    simp only [spec_PutSig.l0]
    rw [if_pos (by omega), if_pos (by omega), rd_lt l i hi, word_spec _ hx.1 hx.2, Option.bind_some, if_pos (by rw [word_length]; omega), Option.bind_some, if_pos (by omega), rdS m i hi']
    rw [show conv.f m[i] = some (bytesOf m[i]) from by unfold conv.f; rw [if_pos (by omega)], Option.bind_some, if_pos (by simp only [List.length_append, word_length, bytesOf_length]; omega), w64s i (by omega), List.append_assoc]
theorem impl_loop (a b : Int) (l : List Int) (m : List ByteArray) (hl : l.length = m.length) (hn : l.length ≤ 2500) (h4 : m.all four = true) (d : Nat) : ∀ (i : Nat) (acc : List Int), i + d = l.length → acc.length ≤ 100 + 8 * i → Ev (fun k => impl_sigText.l0 k (strOfNums acc) l (l.length : Int) i a b l m) (strOfNums (acc ++ body (l.drop i) (m.drop i))) := by
  induction d with
  | zero =>
    intro i acc h ha
    refine ev_at fun k => ?_
    simp only [impl_sigText.l0]
    rw [if_neg (by omega), List.drop_eq_nil_of_le (by omega)]
    simp [body]
  | succ d ih =>
    intro i acc h ha
    have hi : i < l.length := by omega
    have hi' : i < m.length := by omega
    have hs := four_at h4 i hi'
    rw [body_step l m i hi hi']
    have hL := ih (i + 1) (acc ++ (word l[i] ++ bytesOf m[i])) (by omega) (by simp only [List.length_append, word_length, bytesOf_length]; omega)
    rw [List.append_assoc, List.append_assoc] at hL
    refine Ev.step (fun k => ?_) hL
    have e : strOfNums acc ++ (strOfNums (word l[i]) ++ m[i]) = strOfNums (acc ++ (word l[i] ++ bytesOf m[i])) := by rw [strOfNums_append, strOfNums_append, strOfNums_bytesOf]
    simp only [impl_sigText.l0]
    rw [if_pos (by omega), if_pos (by omega), if_pos (by omega), rd_lt l i hi, word_text, Option.bind_some, if_pos (by omega), rdS m i hi', e]
    rw [if_pos (by rw [strOfNums_size, word_length]; omega), if_pos (by rw [strOfNums_size, ByteArray.size_append, strOfNums_size, word_length]; omega), w64s i (by omega)]
/-- What both PutSig give. -/
def sig (a b : Int) (l : List Int) (m : List ByteArray) : List Int := if sigOk a b l m then ((pv 8 a ++ pv 8 b) ++ pv 8 l.length) ++ body l m else []
theorem ok_facts {a b : Int} {l : List Int} {m : List ByteArray} (h : sigOk a b l m = true) : 1 ≤ a ∧ a ≤ 256 ∧ 0 ≤ b ∧ b ≤ a - 1 ∧ l.length ≤ 2500 ∧ l.length = m.length ∧ m.all four = true := by
  unfold sigOk isCut at h
  simp only [Bool.and_eq_true, decide_eq_true_eq] at h
  obtain ⟨⟨⟨⟨hc, hl⟩, h4⟩, _⟩, _⟩ := h
  exact ⟨hc.1, hc.2.1, hc.2.2.1, hc.2.2.2.1, hc.2.2.2.2, hl, h4⟩
theorem sig_length (a b : Int) (l : List Int) (m : List ByteArray) : (sig a b l m).length ≤ 20100 := by
  unfold sig
  cases h : sigOk a b l m with
  | false => simp
  | true =>
    obtain ⟨h1, h2, h3, h4, h5, h6, h7⟩ := ok_facts h
    have := body_length l m h7
    have := pv_length 8 a
    have := pv_length 8 b
    have := pv_length 8 l.length
    simp only [if_true, List.length_append]; omega
theorem impl_ev (a b : Int) (l : List Int) (m : List ByteArray) (hm : m.length ≤ 2097152) : Ev (fun k => impl_PutSig.f k a b l m) (sig a b l m) := by
  unfold impl_PutSig.f sig
  refine Ev.bind (impl_ok a b l m hm) ?_
  cases h : sigOk a b l m with
  | false => simp only [Bool.false_eq_true, if_false]; exact Ev.now _
  | true =>
    obtain ⟨h1, h2, h3, h4, h5, h6, h7⟩ := ok_facts h
    have p0 := body_length l m h7
    have p1 := pv_length 8 a
    have p2 := pv_length 8 b
    have p3 := pv_length 8 l.length
    simp only [if_true]
    have ht : Ev (fun k => impl_sigText.f k a b l m) (strOfNums (((pv 8 a ++ pv 8 b) ++ pv 8 l.length) ++ body l m)) := by
      unfold impl_sigText.f
      simp only [text a (by omega) (by omega), text b (by omega) (by omega), text l.length (by omega) (by omega), Option.bind_some]
      simp only [← strOfNums_append, strOfNums_size, List.length_append]
      simp only [if_pos (show (pv 8 a).length + (pv 8 b).length ≤ 9223372036854775807 by omega), if_pos (show (pv 8 a).length + (pv 8 b).length + (pv 8 l.length).length ≤ 9223372036854775807 by omega)]
      have := impl_loop a b l m h6 h5 h7 l.length 0 ((pv 8 a ++ pv 8 b) ++ pv 8 l.length) (by omega) (by simp only [List.length_append]; omega)
      simpa using this
    refine Ev.bind ht ?_
    rw [conv_of (bytes_app (bytes_app (bytes_app (pv8_bytes a (by omega) (by omega)) (pv8_bytes b (by omega) (by omega))) (pv8_bytes l.length (by omega) (by omega))) (body_bytes l m)) (by simp only [List.length_append]; omega)]
    simp only [Option.bind_some]
    exact Ev.now _
theorem spec_ev (a b : Int) (l : List Int) (m : List ByteArray) (hm : m.length ≤ 2097152) (hw : ∀ x ∈ l, 0 ≤ x ∧ x < 4294967296) : Ev (fun k => spec_PutSig.f k a b l m) (sig a b l m) := by
  unfold spec_PutSig.f sig
  simp only [Option.bind_some]
  refine Ev.bind (spec_ok a b l m hm) ?_
  cases h : sigOk a b l m with
  | false => simp only [Bool.false_eq_true, if_false]; exact Ev.now _
  | true =>
    obtain ⟨h1, h2, h3, h4, h5, h6, h7⟩ := ok_facts h
    have p0 := body_length l m h7
    have p1 := pv_length 8 a
    have p2 := pv_length 8 b
    have p3 := pv_length 8 l.length
    simp only [if_true]
    refine Ev.bind (put_ev a (by omega) (by omega)) ?_
    simp only [List.nil_append, List.length_nil, if_pos (show 0 + (pv 8 a).length < 140737488355328 by omega)]
    refine Ev.bind (put_ev b (by omega) (by omega)) ?_
    simp only [if_pos (show (pv 8 a).length + (pv 8 b).length < 140737488355328 by omega)]
    refine Ev.bind (put_ev l.length (by omega) (by omega)) ?_
    simp only [List.length_append, if_pos (show (pv 8 a).length + (pv 8 b).length + (pv 8 l.length).length < 140737488355328 by omega)]
    have := spec_loop a b l m h6 h5 h7 hw l.length 0 ((pv 8 a ++ pv 8 b) ++ pv 8 l.length) (by omega) (by simp only [List.length_append]; omega)
    simpa using this

end Go.Proofs.Ytbkodnhnadkhdaa.SigBytes
