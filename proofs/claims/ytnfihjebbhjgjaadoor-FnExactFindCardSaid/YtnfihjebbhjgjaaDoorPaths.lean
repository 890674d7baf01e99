/- Paths: the names of a path, in the program and in the reference. No condition. -/
import Derived.Test.YtnfihjebbhjgjaaDoorPTtx1
import Derived.Test.YtnfihjebbhjgjaaDoorPTtx2
import Derived.Test.YtnfihjebbhjgjaaDoorPTtx3
import Derived.Test.YtnfihjebbhjgjaaDoorPTtx5
import Derived.Test.YtnfihjebbhjgjaaDoorPTtx8
import Derived.Test.YtnfihjebbhjgjaaDoorName
import Derived.Test.YtnfihjebbhjgjaaDoorParts
namespace Go.Proofs.YtnfihjebbhjgjaaDoor.Paths
open Go Go.RowKit Go.Proofs.YtnfihjebbhjgjaaDoor.PTt Go.Proofs.YtnfihjebbhjgjaaDoorW.PrintWords Go.Proofs.YtnfihjebbhjgjaaDoorW.PrintMore Go.Proofs.YtnfihjebbhjgjaaDoor.Arith Go.Proofs.YtnfihjebbhjgjaaDoor.Lib Go.Proofs.YtnfihjebbhjgjaaDoor.Name Go.Proofs.YtnfihjebbhjgjaaDoor.Parts
set_option linter.unusedSimpArgs false
set_option linter.unusedVariables false

theorem bt_get (s : ByteArray) (i : Nat) (h : i < s.data.toList.length) : bt s (i : Int) = ((s.data.toList[i]).toNat : Int) := by
  have h' : i < s.size := by rw [size_eq]; exact h
  rw [← rd_bytesOf, rd_lt _ _ (by rw [bytesOf_length]; exact h')]
  simp [bytesOf]
theorem toNat_47 (b : UInt8) : ((b.toNat : Int) = 47) ↔ b = 47 := by
  constructor
  · intro h
    apply UInt8.toNat_inj.1
    have : b.toNat = 47 := by omega
    rw [this]; rfl
  · rintro rfl; rfl
theorem extract_ofL (s : ByteArray) (a b : Nat) : s.extract a b = ofL ((s.data.toList.take b).drop a) := by
  apply Parts.ext
  rw [ofL_data, ByteArray.data_extract, Array.toList_extract, List.extract_eq_take_drop, List.drop_take]
theorem names_loop (s : ByteArray) (hs : s.size ≤ 1048576) (d : Nat) : ∀ (i f : Nat) (acc : List ByteArray), i + d = s.size → f ≤ i → acc.length ≤ i → (∀ b ∈ (s.data.toList.drop f).take (i - f), b ≠ 47) →
    Ev (fun k => spec_l02Names.l0 k s acc f i) (acc ++ (parts (s.data.toList.drop f)).map ofL) := by
  have hL := size_eq s
  induction d with
  | zero =>
    intro i f acc h hf ha hn
    have e : parts (s.data.toList.drop f) = [s.data.toList.drop f] := parts_noslash _ (by rw [List.take_of_length_le (by rw [List.length_drop]; omega)] at hn; exact hn)
    refine ev_at fun k => ?_
    simp only [spec_l02Names.l0]
    rw [if_neg (by omega), if_pos (by omega), if_pos (by omega), if_pos (by omega), e, Int.toNat_natCast, extract_ofL, List.take_of_length_le (by omega)]
    rfl
  | succ d ih =>
    intro i f acc h hf ha hn
    have hi : i < s.data.toList.length := by omega
    have hb := bt_get s i hi
    by_cases h47 : s.data.toList[i] = 47
    · have e : s.data.toList.drop f = (s.data.toList.drop f).take (i - f) ++ 47 :: s.data.toList.drop (i + 1) := by
        conv => lhs; rw [← List.take_append_drop (i - f) (s.data.toList.drop f)]
        rw [List.drop_drop, show f + (i - f) = i by omega, List.drop_eq_getElem_cons hi, h47]
      have ih' := ih (i + 1) (i + 1) (acc ++ [s.extract f i]) (by omega) (by omega) (by simp; omega) (by simp)
      have e2 : s.extract f i = ofL ((s.data.toList.drop f).take (i - f)) := by rw [extract_ofL, List.drop_take]
      rw [e, parts_append, parts_noslash _ hn, List.map_append, List.map_cons, List.map_nil, ← e2, ← List.append_assoc]
      refine Ev.step (fun k => ?_) ih'
      simp only [spec_l02Names.l0]
      rw [if_pos (by omega), if_pos (by omega), if_pos (by rw [hb]; exact (toNat_47 _).2 h47), if_pos (by omega), if_pos (by omega), if_pos (by omega), if_pos (by omega), w64s i (by omega), Int.toNat_natCast, Int.toNat_natCast]
    · have ih' := ih (i + 1) f acc (by omega) (by omega) (by omega) (by
        rw [show i + 1 - f = (i - f) + 1 by omega, List.take_succ_eq_append_getElem (by rw [List.length_drop]; omega)]
        intro b hm
        rcases List.mem_append.1 hm with hm | hm
        · exact hn b hm
        · rw [List.mem_singleton.1 hm, List.getElem_drop]
          have : f + (i - f) = i := by omega
          simp only [this]
          exact h47)
      refine Ev.step (fun k => ?_) ih'
      simp only [spec_l02Names.l0]
      rw [if_pos (by omega), if_pos (by omega), if_neg (by rw [hb]; exact fun e => h47 ((toNat_47 _).1 e)), w64s i (by omega)]
theorem l02_ev (s : ByteArray) (hs : s.size ≤ 1048576) : Ev (fun k => spec_l02Names.f k s) (namesB s) := by
  have := names_loop s hs s.size 0 0 [] (by omega) (by omega) (by simp) (by simp)
  simpa [namesB, spec_l02Names.f] using this
/-! ### what is a path -/
def pathOk (s : ByteArray) : Bool := decide (s.size ≤ 200) && ((namesB s).all nameOk && decide ((namesB s).length ≤ 8))
def names (s : ByteArray) : List ByteArray := if pathOk s then namesB s else []
theorem names_size (s : ByteArray) (x : ByteArray) (h : x ∈ namesB s) : x.size ≤ s.size := by
  have key : ∀ (l : List UInt8) (p : List UInt8), p ∈ parts l → p.length ≤ l.length := by
    intro l
    induction l with
    | nil => intro p hp; simp [parts] at hp; subst hp; simp
    | cons b l ih =>
      intro p hp
      rw [parts_cons] at hp
      by_cases hb : b = 47
      · rw [if_pos hb] at hp
        rcases List.mem_cons.1 hp with rfl | hp
        · simp
        · have := ih p hp; simp; omega
      · rw [if_neg hb] at hp
        rw [← parts_eta l] at ih
        rcases List.mem_cons.1 hp with rfl | hp
        · have := ih _ List.mem_cons_self; simp at this ⊢; omega
        · have := ih p (List.mem_cons_of_mem _ hp); simp; omega
  obtain ⟨l, hl, rfl⟩ := List.mem_map.1 h
  have := key _ l hl
  rw [size_eq, size_eq, ofL_data]; exact this
theorem rdB (l : List ByteArray) (i : Nat) (h : i < l.length) : rdOf ByteArray.empty l (i : Int) = l[i] := by
  unfold rdOf; rw [Int.toNat_natCast, List.getD_eq_getElem?_getD, List.getElem?_eq_getElem h]; rfl
theorem all_drop (l : List ByteArray) (f : ByteArray → Bool) (i : Nat) (h : i < l.length) : (l.drop i).all f = (f l[i] && (l.drop (i + 1)).all f) := by
  rw [List.drop_eq_getElem_cons h]; rfl
theorem spec_loop2 (l : List ByteArray) (hl : l.length ≤ 1048577) (hz : ∀ x ∈ l, x.size ≤ 1048576) (d : Nat) : ∀ i : Nat, i + d = l.length → Ev (fun k => spec_PathOk.l0 k l i) ((l.drop i).all nameOk && decide (l.length ≤ 8)) := by
  induction d with
  | zero =>
    intro i h
    refine ev_at fun k => ?_
    simp only [spec_PathOk.l0]
    rw [if_neg (by omega), List.drop_eq_nil_of_le (by omega)]
    simp
    omega
  | succ d ih =>
    intro i h
    have hi : i < l.length := by omega
    rw [all_drop l nameOk i hi]
    refine Ev.step (f := fun k => (spec_NameOk.f k l[i]).bind fun t118 => (if t118 = true then (spec_PathOk.l0 k l ((i + 1 : Nat) : Int)) else (some false))) (fun k => ?_) ?_
    · simp only [spec_PathOk.l0]
      rw [if_pos (by omega), if_pos (by omega), rdB l i hi, w64s i (by omega)]
    · refine Ev.bind (Name.spec_ev l[i] (hz _ (List.getElem_mem hi))) ?_
      cases hn : (allok (bytesOf l[i]) && Name.rest l[i]) with
      | false =>
        have : nameOk l[i] = false := hn
        rw [this]
        simp only [Bool.false_and, Bool.false_eq_true, if_false]
        exact Ev.now _
      | true =>
        have : nameOk l[i] = true := hn
        rw [this]
        simp only [Bool.true_and, if_true]
        exact ih (i + 1) (by omega)
theorem spec_path (s : ByteArray) : Ev (fun k => spec_PathOk.f k s) (pathOk s) := by
  unfold spec_PathOk.f pathOk
  by_cases h : (s.size : Int) > 200
  · simp only [if_pos h]
    rw [decide_eq_false (by omega), Bool.false_and]
    exact Ev.now _
  · simp only [if_neg h]
    rw [decide_eq_true (show s.size ≤ 200 by omega), Bool.true_and]
    refine Ev.bind (l02_ev s (by omega)) ?_
    have hl := namesB_length s
    have := spec_loop2 (namesB s) (by omega) (fun x hx => by have := names_size s x hx; omega) (namesB s).length 0 (by omega)
    simpa using this
theorem spec_names (s : ByteArray) : Ev (fun k => spec_Names.f k s) (names s) := by
  unfold spec_Names.f names
  refine Ev.bind (spec_path s) ?_
  cases h : pathOk s with
  | false => simp only [Bool.false_eq_true, if_false]; exact Ev.now _
  | true =>
    simp only [if_true]
    have h200 : s.size ≤ 200 := by unfold pathOk at h; simp at h; omega
    exact Ev.bind (l02_ev s (by omega)) (Ev.now _)
/-! ### the program's way -/
theorem nameOk_size (s : ByteArray) (h : nameOk s = true) : 1 ≤ s.size ∧ s.size ≤ 20 := by
  unfold nameOk Name.rest at h
  simp at h
  omega
theorem join_len (ps : List (List UInt8)) (hne : ps ≠ []) (h : ∀ p ∈ ps, p.length ≤ 20) : (Go.Lib.join ps [47]).length + 1 ≤ 21 * ps.length := by
  induction ps with
  | nil => exact absurd rfl hne
  | cons x r ih =>
    have hx := h x (by simp)
    cases r with
    | nil => rw [Go.Lib.join_one]; simp; omega
    | cons y r =>
      have := ih (by simp) (fun p hp => h p (by simp [hp]))
      rw [join_step x _ (by simp)]
      simp at this ⊢
      omega
theorem short (s : ByteArray) (h : (namesB s).all nameOk = true) (h8 : (namesB s).length ≤ 8) : s.size ≤ 167 := by
  have h1 : ∀ p ∈ parts s.data.toList, p.length ≤ 20 := by
    intro p hp
    have := nameOk_size (ofL p) (List.all_eq_true.1 h _ (List.mem_map.2 ⟨p, hp, rfl⟩))
    rw [size_eq, ofL_data] at this
    omega
  have h2 := join_len _ (parts_ne s.data.toList) h1
  rw [join_parts] at h2
  rw [namesB, List.length_map] at h8
  rw [size_eq]
  omega
theorem pathOk_eq (s : ByteArray) : pathOk s = ((namesB s).all nameOk && decide ((namesB s).length ≤ 8)) := by
  unfold pathOk
  cases h : ((namesB s).all nameOk && decide ((namesB s).length ≤ 8)) with
  | false => simp
  | true =>
    simp only [Bool.and_eq_true, decide_eq_true_eq] at h
    have := short s h.1 h.2
    rw [decide_eq_true (by omega)]
    rfl
theorem impl_loop2 (r l : List ByteArray) (hl : l.length ≤ 1048577) (hz : ∀ x ∈ l, x.size ≤ 1048576) (d : Nat) : ∀ i : Nat, i + d = l.length → Ev (fun k => impl_Names.l0 k r l (l.length : Int) i) (if (l.drop i).all nameOk then r else []) := by
  induction d with
  | zero =>
    intro i h
    refine ev_at fun k => ?_
    simp only [impl_Names.l0]
    rw [if_neg (by omega), List.drop_eq_nil_of_le (by omega)]
    rfl
  | succ d ih =>
    intro i h
    have hi : i < l.length := by omega
    rw [all_drop l nameOk i hi]
    refine Ev.step (f := fun k => (impl_NameOk.f k l[i]).bind fun t134 => (if t134 = true then (impl_Names.l0 k r l (l.length : Int) ((i + 1 : Nat) : Int)) else (some ([] : List ByteArray)))) (fun k => ?_) ?_
    · simp only [impl_Names.l0]
      rw [if_pos (by omega), if_pos (by omega), if_pos (by omega), rdB l i hi, w64s i (by omega)]
    · refine Ev.bind (Name.impl_ev l[i] (hz _ (List.getElem_mem hi))) ?_
      cases hn : (allok (bytesOf l[i]) && Name.rest l[i]) with
      | false =>
        have : nameOk l[i] = false := hn
        rw [this]
        simp only [Bool.false_and, Bool.false_eq_true, if_false]
        exact Ev.now _
      | true =>
        have : nameOk l[i] = true := hn
        rw [this]
        simp only [Bool.true_and, if_true]
        exact ih (i + 1) (by omega)
theorem impl_names (s : ByteArray) : Ev (fun k => impl_Names.f k s) (names s) := by
  unfold impl_Names.f names
  rw [pathOk_eq]
  by_cases h : (s.size : Int) > 168
  · simp only [if_pos h]
    cases hb : ((namesB s).all nameOk && decide ((namesB s).length ≤ 8)) with
    | false => simp only [Bool.false_eq_true, if_false]; exact Ev.now _
    | true =>
      simp only [Bool.and_eq_true, decide_eq_true_eq] at hb
      have := short s hb.1 hb.2
      omega
  · simp only [if_neg h]
    have hsp : strings_Split.f s (⟨#[47]⟩ : ByteArray) = some (namesB s) := by
      unfold strings_Split.f
      rw [if_pos (by omega), if_pos (by decide)]
      exact congrArg some (splitB_names s)
    simp only [hsp, Option.bind_some]
    by_cases h8 : ((namesB s).length : Int) > 8
    · simp only [if_pos h8]
      rw [decide_eq_false (show ¬ (namesB s).length ≤ 8 by omega), Bool.and_false]
      exact Ev.now _
    · simp only [if_neg h8]
      rw [decide_eq_true (show (namesB s).length ≤ 8 by omega), Bool.and_true]
      have := impl_loop2 (namesB s) (namesB s) (by omega) (fun x hx => by have := names_size s x hx; omega) (namesB s).length 0 (by omega)
      simpa using this
theorem names_pos (s : ByteArray) : decide (((names s).length : Int) > 0) = pathOk s := by
  unfold names
  cases h : pathOk s with
  | false => simp
  | true =>
    have : 0 < (namesB s).length := List.length_pos_iff.2 (namesB_ne s)
    simp
    omega
theorem names_length (s : ByteArray) : (names s).length ≤ 8 := by
  unfold names
  cases h : pathOk s with
  | false => simp
  | true =>
    rw [pathOk_eq] at h
    simp only [Bool.and_eq_true, decide_eq_true_eq] at h
    simp only [if_true]
    exact h.2

end Go.Proofs.YtnfihjebbhjgjaaDoor.Paths
